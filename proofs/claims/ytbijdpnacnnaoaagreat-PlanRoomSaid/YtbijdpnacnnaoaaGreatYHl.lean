/- Walks of the functions that the statement reaches. No conditions: contracts and laws. -/
import Derived.Test.YtbijdpnacnnaoaaGreatYH3
import Derived.Test.YtbijdpnacnnaoaaGreatPR2
import Derived.Test.YtbijdpnacnnaoaaGreatSU3
import Derived.Test.YtbijdpnacnnaoaaGreatXW0
import Derived.Test.YtbijdpnacnnaoaaGreatYHd
/- The references' sums and a link's service: walked. Conditions: fewer than 2^20 curves. -/
namespace Go.Fg.X
open Go.Proofs Go.Fg
set_option maxRecDepth 100000
set_option maxHeartbeats 8000000
set_option linter.unusedSimpArgs false
set_option linter.unusedVariables false
@[go_sem] def oDg (n : Nat) : Ob := ⟨.one, 0, 4, 1, fun _ => [u64 (d0 n), u64 (d1 n), u64 (d2 n), u64 (d3 n)]⟩
theorem sumF_succ (g : Nc → Nat) (l : List Nc) {i : Nat} (hi : i < l.length) : (l.take (i + 1)).foldl (sumF g) 0 = sumF g ((l.take i).foldl (sumF g) 0) (l.getD i default) := by
  rw [List.take_add_one, List.getElem?_eq_getElem hi, Option.toList_some, List.foldl_append, List.getD_eq_getElem?_getD, List.getElem?_eq_getElem hi]; rfl
theorem rsvc_ok (l : List Nc) (t : Nat) (ht : t < 18446744073709551616) (hl : l.length < 1048576) (hc : ∀ c ∈ l, c.Lt) : AFn Tryz.prog 64 [ncs l, u64 t] (Ret (dg (sumG (fun c => serV c.a c.d c.b t) l))) := by
  obtain ⟨g, hg⟩ : ∃ g : Nc → Nat, g = fun c => serV c.a c.d c.b t := ⟨_, rfl⟩
  have hgM : ∀ c : Nc, c.Lt → g c ≤ 2 ^ 97 := fun c _ => by rw [hg]; have := serV_lt c.a c.d c.b t ht; dsimp only; omega
  rw [← hg]
  refine AFn_hxk 0 cx_ok 200 Tryz.func64 rfl Tryz.ntmps64 Tryz.results64 rfl fun base w hb => ?_
  simp only [go_sem, simprocAttr]
  refine kont_for (fun i s => s = ⟨[(1, u64 t), (4, .ptr 0 0 0 0), (5, .ptr 1 0 0 0), (9, ncs l), (10, dint l.length), (11, dint i)], [oDg 0, oDg ((l.take i).foldl (sumF g) 0)]⟩) l.length (s0 := ⟨[(1, u64 t), (4, .ptr 0 0 0 0), (5, .ptr 1 0 0 0), (9, ncs l), (10, dint l.length), (11, dint 0)], [⟨.one, 0, 4, 1, fun _ => [u64 0, u64 0, u64 0, u64 0]⟩, ⟨.one, 0, 4, 1, fun _ => [u64 0, u64 0, u64 0, u64 0]⟩]⟩) (Weak.to 2 (by (simp only [go_sem, simprocAttr]) <;> simp)) (by simp [oDg, dz0, dz1, dz2, dz3]) ?_
  rintro i s hi rfl
  have hwr := wrap_succ (show i < 4611686018427387904 by omega)
  obtain ⟨S, hS⟩ : ∃ S, S = (l.take i).foldl (sumF g) 0 := ⟨_, rfl⟩
  have hSl : S ≤ 2 ^ 117 := by
    have h1 := sumF_le hgM (l := l.take i) (s := 0) fun x hx => hc x (List.mem_of_mem_take hx)
    have h2 : (l.take i).length ≤ 1048576 := by simp; omega
    have h3 := Nat.mul_le_mul_right (2 ^ 97) h2
    rw [hS]; omega
  rw [← hS]
  refine kont_of_hx cx_ok hb 200 ?_
  simp only [go_sem, simprocAttr]
  first | refine hite_lt hi (fun hk1 => ?_) (fun hk1 => ?_) | refine hite_ltI hi (fun hk1 => ?_) (fun hk1 => ?_)
  · obtain ⟨c, hcc⟩ : ∃ c, c = l.getD i default := ⟨_, rfl⟩
    have hcl : c.Lt := hc c (by rw [hcc, List.getD_eq_getElem?_getD, List.getElem?_eq_getElem hk1]; exact List.getElem_mem hk1)
    have hst := sumF_succ g l hk1
    rw [← hS, ← hcc] at hst
    have hgc := hgM c hcl
    have hser := rservice_ok c.a c.d c.b t ht
    have hs2 : sumF g S c = S + serV c.a c.d c.b t := by
      unfold sumF
      rw [hg]
      split
      · rename_i h0
        have : serV c.a c.d c.b t = 0 := by unfold serV; exact if_pos h0
        omega
      · rfl
    have hgc2 : serV c.a c.d c.b t ≤ 2 ^ 97 := by rw [hg] at hgc; exact hgc
    have hadd := rplus_ok S (serV c.a c.d c.b t) (by omega) (by omega)
    simp only [go_sem, simprocAttr, hk1, ← hcc, oDg]
    refine kont_hax cx_ok hb 200 mixed [(0, true), (1, true), (2, true), (3, false), (4, false), (5, false)] (by kernel_rfl) (by kernel_rfl) ?_
    simp only [go_sem, simprocAttr]
    refine AX_call hb fn92 rfl ?_ hser (Ret.flat rfl) rfl fun d h hR => ?_
    · simp only [go_sem, simprocAttr]
    obtain ⟨rfl, rfl⟩ := hR
    refine AX_of_hax cx_ok hb ?_
    simp only [go_sem, simprocAttr]
    refine AX_call hb fn91 rfl ?_ hadd (Ret.flat rfl) rfl fun d h hR => ?_
    · simp only [go_sem, simprocAttr]
    obtain ⟨rfl, rfl⟩ := hR
    refine AX_of_hax cx_ok hb ?_
    simp only [go_sem, simprocAttr]
    refine ⟨hk1, _, ?_, rfl⟩
    rw [hst, hs2]
    exact Weak.to 2 (by (simp only [go_sem, simprocAttr, hwr]) <;> simp)
  · subst hk1
    rw [List.take_length] at hS
    have e : sumG g l = S := hS.symm
    rw [e]
    refine kont_of_hx cx_ok hb 200 ?_
    simp only [go_sem, simprocAttr, oDg]
theorem rslope_ok (l : List Nc) (hl : l.length < 1048576) (hc : ∀ c ∈ l, c.Lt) : AFn Tryz.prog 65 [ncs l, dbool false] (Ret (dg (sumG (fun c => c.b) l))) := by
  refine AFn_hxk 0 cx_ok 200 Tryz.func65 rfl Tryz.ntmps65 Tryz.results65 rfl fun base w hb => ?_
  simp only [go_sem, simprocAttr]
  refine kont_for (fun i s => s = ⟨[(1, dbool false), (4, .ptr 0 0 0 0), (5, .ptr 1 0 0 0), (10, ncs l), (11, dint l.length), (12, dint i)], [oDg 0, oDg ((l.take i).foldl (sumF (fun c => c.b)) 0)]⟩) l.length (s0 := ⟨[(1, dbool false), (4, .ptr 0 0 0 0), (5, .ptr 1 0 0 0), (10, ncs l), (11, dint l.length), (12, dint 0)], [⟨.one, 0, 4, 1, fun _ => [u64 0, u64 0, u64 0, u64 0]⟩, ⟨.one, 0, 4, 1, fun _ => [u64 0, u64 0, u64 0, u64 0]⟩]⟩) (Weak.to 2 (by (simp only [go_sem, simprocAttr]) <;> simp)) (by simp [oDg, dz0, dz1, dz2, dz3]) ?_
  rintro i s hi rfl
  have hwr := wrap_succ (show i < 4611686018427387904 by omega)
  obtain ⟨S, hS⟩ : ∃ S, S = (l.take i).foldl (sumF (fun c => c.b)) 0 := ⟨_, rfl⟩
  have hgM : ∀ c : Nc, c.Lt → c.b ≤ 2 ^ 97 := fun c h => by have := h.2.2; omega
  have hSl : S ≤ 2 ^ 117 := by
    have h1 := sumF_le (g := fun c => c.b) hgM (l := l.take i) (s := 0) fun x hx => hc x (List.mem_of_mem_take hx)
    have h2 : (l.take i).length ≤ 1048576 := by simp; omega
    have h3 := Nat.mul_le_mul_right (2 ^ 97) h2
    rw [← hS] at h1
    omega
  rw [← hS]
  refine kont_of_hx cx_ok hb 200 ?_
  simp only [go_sem, simprocAttr]
  first | refine hite_lt hi (fun hk1 => ?_) (fun hk1 => ?_) | refine hite_ltI hi (fun hk1 => ?_) (fun hk1 => ?_)
  · obtain ⟨c, hcc⟩ : ∃ c, c = l.getD i default := ⟨_, rfl⟩
    have hcl : c.Lt := hc c (by rw [hcc, List.getD_eq_getElem?_getD, List.getElem?_eq_getElem hk1]; exact List.getElem_mem hk1)
    have hst := sumF_succ (fun c => c.b) l hk1
    rw [← hS, ← hcc] at hst
    have hof := rof_ok c.b hcl.2.2
    have hadd := rplus_ok S c.b (by omega) (by have := hcl.2.2; omega)
    simp only [go_sem, simprocAttr, hk1, ← hcc, oDg]
    refine kont_call hb fn26 rfl ?_ (rofc_ok c.a c.d c.b) (Ret.flat rfl) rfl fun d h hR => ?_
    · simp only [go_sem, simprocAttr, Go.undef]
    obtain ⟨rfl, rfl⟩ := hR
    refine kont_of_hx cx_ok hb 200 ?_
    simp only [go_sem, simprocAttr, Go.undef]
    by_cases h0 : ofV c.a c.d c.b = 0
    · have hs2 : sumF (fun c => c.b) S c = S := by unfold sumF; exact if_pos h0
      have e0 : (ofV c.a c.d c.b != 0) = false := by rw [h0]; rfl
      simp only [go_sem, simprocAttr, e0]
      refine ⟨hk1, _, ?_, rfl⟩
      rw [hst, hs2]
      exact Weak.to 2 (by (simp only [go_sem, simprocAttr, hwr]) <;> simp)
    · have hs2 : sumF (fun c => c.b) S c = S + c.b := by unfold sumF; exact if_neg h0
      have e0 : (ofV c.a c.d c.b != 0) = true := by simpa using h0
      simp only [go_sem, simprocAttr, e0]
      refine kont_hax cx_ok hb 200 mixed [(0, true), (1, true), (2, false), (3, false), (4, false)] (by kernel_rfl) (by kernel_rfl) ?_
      simp only [go_sem, simprocAttr]
      refine AX_call hb fn93 rfl ?_ hof (Ret.flat rfl) rfl fun d h hR => ?_
      · simp only [go_sem, simprocAttr]
      obtain ⟨rfl, rfl⟩ := hR
      refine AX_of_hax cx_ok hb ?_
      simp only [go_sem, simprocAttr]
      refine AX_call hb fn91 rfl ?_ hadd (Ret.flat rfl) rfl fun d h hR => ?_
      · simp only [go_sem, simprocAttr]
      obtain ⟨rfl, rfl⟩ := hR
      refine AX_of_hax cx_ok hb ?_
      simp only [go_sem, simprocAttr]
      refine ⟨hk1, _, ?_, rfl⟩
      rw [hst, hs2]
      exact Weak.to 2 (by (simp only [go_sem, simprocAttr, hwr]) <;> simp)
  · subst hk1
    rw [List.take_length] at hS
    have e : sumG (fun c => c.b) l = S := hS.symm
    rw [e]
    refine kont_of_hx cx_ok hb 200 ?_
    simp only [go_sem, simprocAttr, oDg]
theorem rtimes_ok (n t : Nat) (hn : n < 2 ^ 111) (ht : t ≤ 65536) : AFn Tryz.prog 90 [dg n, dint t] (Ret (dg (n * t))) := by
  obtain ⟨hi, lo, hlo, rfl⟩ : ∃ hi lo, lo < 18446744073709551616 ∧ n = hi * 18446744073709551616 + lo := ⟨n / 18446744073709551616, n % 18446744073709551616, Nat.mod_lt _ (by decide), by omega⟩
  have hh : hi < 140737488355328 := by omega
  have e1 : (hi * 18446744073709551616 + lo) / 18446744073709551616 = hi := by omega
  have e2 : (hi * 18446744073709551616 + lo) % 18446744073709551616 = lo := by omega
  obtain ⟨A, hA⟩ : ∃ A, A = lo * t := ⟨_, rfl⟩
  obtain ⟨B, hB⟩ : ∃ B, B = hi * t := ⟨_, rfl⟩
  have hB1 : B ≤ 9223372036854775808 := by rw [hB]; exact Nat.le_trans (Nat.mul_le_mul (Nat.le_of_lt hh) ht) (by decide)
  have hA1 : A ≤ 1208925819614629174706176 := by rw [hA]; exact Nat.le_trans (Nat.mul_le_mul (Nat.le_of_lt hlo) ht) (by decide)
  have e3 : (hi * 18446744073709551616 + lo) * t = B * 18446744073709551616 + A := by rw [hA, hB, Nat.add_mul, Nat.mul_assoc, Nat.mul_comm 18446744073709551616 t, ← Nat.mul_assoc]
  have l1 := rlo_ok (hi * 18446744073709551616 + lo) (by omega)
  have l2 := rhi_ok (hi * 18446744073709551616 + lo) (by omega)
  have w1 := wu_nat t (by omega)
  have m1 := rmul_ok lo t hlo (by omega)
  have m2 := rmul_ok hi t (by omega) (by omega)
  rw [← hA] at m1
  rw [← hB] at m2
  rw [e1] at l2
  rw [e2] at l1
  have l3 := rlo_ok B (by omega)
  rw [Nat.mod_eq_of_lt (by omega : B < 18446744073709551616)] at l3
  have tw := rtwo_ok B 0 (by omega) (by decide)
  have hB3 : B * 18446744073709551616 ≤ 9223372036854775808 * 18446744073709551616 := Nat.mul_le_mul_right _ hB1
  have hB4 : 9223372036854775808 * 18446744073709551616 < 2 ^ 128 := by decide
  have hB2 : B * 18446744073709551616 + 0 < 2 ^ 128 := by rw [Nat.add_zero]; exact Nat.lt_of_le_of_lt hB3 hB4
  have pl := rplus_ok A (B * 18446744073709551616 + 0) (by omega) hB2
  rw [e3, Nat.add_comm (B * 18446744073709551616) A, ← Nat.add_zero (B * 18446744073709551616)]
  obtain ⟨N, hN⟩ : ∃ N, N = hi * 18446744073709551616 + lo := ⟨_, rfl⟩
  rw [← hN] at l1 l2 ⊢
  refine AFn_hxk 0 cx_ok 200 Tryz.func90 rfl Tryz.ntmps90 Tryz.results90 rfl fun base w hb => ?_
  simp only [go_sem, simprocAttr]
  refine kont_call hb fn104 rfl ?_ l1 (Ret.flat rfl) rfl fun d h hR => ?_
  · simp only [go_sem, simprocAttr, w1]
  obtain ⟨rfl, rfl⟩ := hR
  refine kont_of_hx cx_ok hb 200 ?_
  simp only [go_sem, simprocAttr, w1]
  refine kont_call hb fn89 rfl ?_ m1 (Ret.flat rfl) rfl fun d h hR => ?_
  · simp only [go_sem, simprocAttr, w1]
  obtain ⟨rfl, rfl⟩ := hR
  refine kont_of_hx cx_ok hb 200 ?_
  simp only [go_sem, simprocAttr, w1]
  refine kont_call hb fn105 rfl ?_ l2 (Ret.flat rfl) rfl fun d h hR => ?_
  · simp only [go_sem, simprocAttr, w1]
  obtain ⟨rfl, rfl⟩ := hR
  refine kont_of_hx cx_ok hb 200 ?_
  simp only [go_sem, simprocAttr, w1]
  refine kont_call hb fn89 rfl ?_ m2 (Ret.flat rfl) rfl fun d h hR => ?_
  · simp only [go_sem, simprocAttr, w1]
  obtain ⟨rfl, rfl⟩ := hR
  refine kont_of_hx cx_ok hb 200 ?_
  simp only [go_sem, simprocAttr, w1]
  refine kont_hax cx_ok hb 200 mixed [(0, true), (1, true), (2, false), (3, false), (4, false), (5, false)] (by kernel_rfl) (by kernel_rfl) ?_
  simp only [go_sem, simprocAttr]
  refine AX_call hb fn104 rfl ?_ l3 (Ret.flat rfl) rfl fun d h hR => ?_
  · simp only [go_sem, simprocAttr]
  obtain ⟨rfl, rfl⟩ := hR
  refine AX_of_hax cx_ok hb ?_
  simp only [go_sem, simprocAttr]
  refine AX_call hb fn106 rfl ?_ tw (Ret.flat rfl) rfl fun d h hR => ?_
  · simp only [go_sem, simprocAttr]
  obtain ⟨rfl, rfl⟩ := hR
  refine AX_of_hax cx_ok hb ?_
  simp only [go_sem, simprocAttr]
  refine AX_call hb fn91 rfl ?_ pl (Ret.flat rfl) rfl fun d h hR => ?_
  · simp only [go_sem, simprocAttr]
  obtain ⟨rfl, rfl⟩ := hR
  refine AX_of_hax cx_ok hb ?_
  simp only [go_sem, simprocAttr]
theorem rcarries_ok (n t k : Nat) (hn : n < 2 ^ 111) (ht : t ≤ 65536) (hk : k < 18446744073709551616) : AFn Tryz.prog 63 [dg n, dint t, u64 k] (Ret (dbool (!decide (65536 * k < n * t)))) := by
  have h1 : n * t ≤ n * 65536 := Nat.mul_le_mul_left n ht
  have hti := rtimes_ok n t hn ht
  have hm := rmul_ok 65536 k (by decide) hk
  have hle := less_ok (65536 * k) (n * t) (by omega) (by omega)
  refine AFn_hxk 0 cx_ok 200 Tryz.func63 rfl Tryz.ntmps63 Tryz.results63 rfl fun base w hb => ?_
  simp only [go_sem, simprocAttr]
  refine kont_hax cx_ok hb 200 mixed [(0, true), (2, true), (3, true), (1, false), (4, false), (5, false), (6, true), (7, true)] (by kernel_rfl) (by kernel_rfl) ?_
  simp only [go_sem, simprocAttr]
  refine AX_call hb fn89 rfl ?_ hm (Ret.flat rfl) rfl fun d h hR => ?_
  · simp only [go_sem, simprocAttr, c65w]
  obtain ⟨rfl, rfl⟩ := hR
  refine AX_of_hax cx_ok hb ?_
  simp only [go_sem, simprocAttr, c65w]
  refine AX_call hb fn90 rfl ?_ hti (Ret.flat rfl) rfl fun d h hR => ?_
  · simp only [go_sem, simprocAttr]
  obtain ⟨rfl, rfl⟩ := hR
  refine AX_of_hax cx_ok hb ?_
  simp only [go_sem, simprocAttr]
  refine AX_call hb fn88 rfl ?_ hle (Ret.flat rfl) rfl fun d h hR => ?_
  · simp only [go_sem, simprocAttr]
  obtain ⟨rfl, rfl⟩ := hR
  refine AX_of_hax cx_ok hb ?_
  simp only [go_sem, simprocAttr]
theorem rmay_ok (t : Int) (l : List Nc) (hl : l.length < 1048576) : AFn Tryz.prog 31 [dint t, ncs l] (Ret (dint (mayE t l))) := by
  by_cases h1 : t < 1 ∨ 65536 < t
  · have e : mayE t l = 1 := by rw [mayE, if_pos h1]
    rw [e]
    refine AFn_hxk 0 cx_ok 200 Tryz.func31 rfl Tryz.ntmps31 Tryz.results31 rfl fun base w hb => ?_
    simp only [go_sem, simprocAttr]
    rcases h1 with h1 | h1
    · simp only [decide_eq_true h1, go_sem, simprocAttr]
    · simp only [decide_eq_false (show ¬ t < 1 by omega), decide_eq_true h1, go_sem, simprocAttr]
  · have e : mayE t l = if badL l = true then 21 else 0 := by rw [mayE, if_neg h1]
    have b1 := decide_eq_false (show ¬ t < 1 by omega)
    have b2 := decide_eq_false (show ¬ 65536 < t by omega)
    rw [e]
    refine AFn_hxk 0 cx_ok 200 Tryz.func31 rfl Tryz.ntmps31 Tryz.results31 rfl fun base w hb => ?_
    simp only [go_sem, simprocAttr]
    simp only [b1, b2, go_sem, simprocAttr]
    refine kont_for (fun i s => (∀ c ∈ l.take i, c.of ≠ 0) ∧ s = ⟨[(13, ncs l), (14, dint l.length), (15, dint i)], []⟩) l.length (Weak.to 0 (by (simp only [go_sem, simprocAttr]) <;> simp)) ⟨by simp, rfl⟩ ?_
    rintro i s hi ⟨hn, rfl⟩
    have hwr := wrap_succ (show i < 4611686018427387904 by omega)
    refine kont_of_hx cx_ok hb 200 ?_
    simp only [go_sem, simprocAttr]
    first | refine hite_lt hi (fun hk1 => ?_) (fun hk1 => ?_) | refine hite_ltI hi (fun hk1 => ?_) (fun hk1 => ?_)
    · obtain ⟨c, hcc⟩ : ∃ c, c = l.getD i default := ⟨_, rfl⟩
      have hcm : c ∈ l := by rw [hcc, List.getD_eq_getElem?_getD, List.getElem?_eq_getElem hk1]; exact List.getElem_mem hk1
      simp only [go_sem, simprocAttr, hk1, ← hcc]
      refine kont_call hb fn26 rfl ?_ (rofc_ok c.a c.d c.b) (Ret.flat rfl) rfl fun d h hR => ?_
      · simp only [go_sem, simprocAttr]
      obtain ⟨rfl, rfl⟩ := hR
      refine kont_of_hx cx_ok hb 200 ?_
      simp only [go_sem, simprocAttr]
      by_cases h0 : ofV c.a c.d c.b = 0
      · have hb2 : badL l = true := List.any_eq_true.2 ⟨c, hcm, beqT h0⟩
        rw [hb2, if_pos rfl]
        simp only [go_sem, simprocAttr, beqT h0]
      · simp only [go_sem, simprocAttr, beqF h0]
        refine ⟨hk1, _, Weak.to 0 (by (simp only [go_sem, simprocAttr, hwr]) <;> simp), ?_, rfl⟩
        rw [List.take_add_one, List.getElem?_eq_getElem hk1]
        intro x hx
        rcases List.mem_append.1 hx with h2 | h2
        · exact hn x h2
        · simp only [Option.toList_some, List.mem_singleton] at h2
          rw [h2, show l[i] = c by rw [hcc, List.getD_eq_getElem?_getD, List.getElem?_eq_getElem hk1]; rfl]
          exact h0
    · subst hk1
      rw [List.take_length] at hn
      have hb2 : badL l = false := by
        unfold badL
        rw [List.any_eq_false]
        intro x hx; simpa using hn x hx
      rw [hb2, if_neg (by decide)]
      refine kont_of_hx cx_ok hb 200 ?_
      simp only [go_sem, simprocAttr]
end Go.Fg.X
namespace Go.Fg.X
open Go.Proofs Go.Fg
set_option maxRecDepth 100000
set_option maxHeartbeats 4000000
set_option linter.unusedSimpArgs false
set_option linter.unusedVariables false
/-! Lists without knees. -/
theorem knees0_ok (l : List Nc) (hl : l.length < 1048576) (hk : ∀ c ∈ l, c.of < 3) : AFn Tryz.prog 57 [ncs l] (Ret .nil) := by
  refine AFn_hxk 0 cx_ok 200 Tryz.func57 rfl Tryz.ntmps57 Tryz.results57 rfl fun base w hb => ?_
  simp only [go_sem, simprocAttr]
  refine kont_for (fun i s => s = ⟨[(3, .nil), (7, ncs l), (8, dint l.length), (9, dint i)], []⟩) l.length (Weak.frame (by simp only [go_sem, simprocAttr])) rfl ?_
  rintro i s hi rfl
  have hwr := wrap_succ (show i < 4611686018427387904 by omega)
  refine kont_of_hx cx_ok hb 200 ?_
  simp only [go_sem, simprocAttr]
  first | refine hite_lt hi (fun hk1 => ?_) (fun hk1 => ?_) | refine hite_ltI hi (fun hk1 => ?_) (fun hk1 => ?_)
  · obtain ⟨c, hc⟩ : ∃ c, c = l.getD i default := ⟨_, rfl⟩
    have hcl := hk c (by rw [hc, List.getD_eq_getElem?_getD, List.getElem?_eq_getElem hk1]; exact List.getElem_mem hk1)
    have e3 : (ofV c.a c.d c.b == 3) = false := by have : ofV c.a c.d c.b = c.of := rfl; rw [this]; simp; omega
    have e4 : (ofV c.a c.d c.b == 4) = false := by have : ofV c.a c.d c.b = c.of := rfl; rw [this]; simp; omega
    simp only [go_sem, simprocAttr, hk1, ← hc]
    refine kont_call hb fn41 rfl ?_ (ofc_ok c.a c.d c.b) (Ret.flat rfl) rfl fun d h hR => ?_
    · simp only [go_sem, simprocAttr, e3, e4]
    obtain ⟨rfl, rfl⟩ := hR
    refine kont_of_hx cx_ok hb 200 ?_
    simp only [go_sem, simprocAttr, e3, e4]
    refine ⟨hk1, _, Weak.to 0 (fr' := [(3, .nil), (7, ncs l), (8, dint l.length), (9, dint (i + 1 : Nat))]) (h' := []) (by (simp only [go_sem, simprocAttr, hwr]) <;> simp), rfl⟩
  · subst hk1
    refine kont_of_hx cx_ok hb 200 ?_
    simp only [go_sem, simprocAttr]
    refine kont_call hb fn80 rfl ?_ sortz_ok (Ret.flat rfl) rfl fun d h hR => ?_
    · simp only [go_sem, simprocAttr]
    obtain ⟨rfl, rfl⟩ := hR
    refine kont_of_hx cx_ok hb 200 ?_
    simp only [go_sem, simprocAttr]
    refine kont_call hb fn81 rfl ?_ compz_ok (Ret.flat rfl) rfl fun d h hR => ?_
    · simp only [go_sem, simprocAttr]
    obtain ⟨rfl, rfl⟩ := hR
    refine kont_of_hx cx_ok hb 200 ?_
    simp only [go_sem, simprocAttr]
def fullB (t : Nat) (l : List Nc) : Bool := decide (65536 < sumG (fun c => c.b) l * t)
theorem slope_lt {l : List Nc} (hl : l.length < 1048576) (hc : ∀ c ∈ l, c.Lt) : sumG (fun c => c.b) l < 2 ^ 111 := by
  have h1 := sumF_le (g := fun c => c.b) (M := 2 ^ 64) (fun c h => by have := h.2.2; omega) (l := l) (s := 0) hc
  have h2 := Nat.mul_le_mul_right (2 ^ 64) (show l.length ≤ 1048576 by omega)
  unfold sumG; omega
theorem full0_ok (t : Nat) (l : List Nc) (hl : l.length < 1048576) (hc : ∀ c ∈ l, c.Lt) (hk : ∀ c ∈ l, c.of < 3) (hm : mayE t l = 0) : AFn Tryz.prog 60 [dint t, ncs l] (Ret (.tup [u64 0, dbool (fullB t l)])) := by
  have ht : t ≤ 65536 := by unfold mayE at hm; split at hm; cases hm; omega
  have hab := above_ok (sumG (fun c => c.b) l) t 1 (slope_lt hl hc) ht (by decide)
  have e0 : (mayE t l != 0) = false := by rw [hm]; rfl
  refine AFn_hxk 0 cx_ok 200 Tryz.func60 rfl Tryz.ntmps60 Tryz.results60 rfl fun base w hb => ?_
  simp only [go_sem, simprocAttr]
  refine kont_call hb fn59 rfl ?_ (amay_ok t l hl) (Ret.flat rfl) rfl fun d h hR => ?_
  · simp only [go_sem, simprocAttr, e0]
  obtain ⟨rfl, rfl⟩ := hR
  refine kont_of_hx cx_ok hb 200 ?_
  simp only [go_sem, simprocAttr, e0]
  refine kont_call hb fn57 rfl ?_ (knees0_ok l hl hk) (Ret.flat rfl) rfl fun d h hR => ?_
  · simp only [go_sem, simprocAttr]
  obtain ⟨rfl, rfl⟩ := hR
  refine kont_of_hx cx_ok hb 200 ?_
  simp only [go_sem, simprocAttr]
  refine kont_callR0 hb fn85 rfl ?_ (idxz_ok _ (.clo 86 0 [.ptr 1 0 0 0, .ptr 0 0 0 0])) rfl fun d2 hR => ?_
  · simp only [go_sem, simprocAttr]
  subst hR
  refine kont_of_hx cx_ok hb 200 ?_
  simp only [go_sem, simprocAttr]
  refine kont_hax cx_ok hb 200 mixed [(0, true), (2, true), (1, false), (3, false), (4, true), (5, true)] (by kernel_rfl) (by kernel_rfl) ?_
  simp only [go_sem, simprocAttr]
  refine AX_call hb fn56 rfl ?_ (sslope_ok l hl hc) (Ret.flat rfl) rfl fun d h hR => ?_
  · simp only [go_sem, simprocAttr]
  obtain ⟨rfl, rfl⟩ := hR
  refine AX_of_hax cx_ok hb ?_
  simp only [go_sem, simprocAttr]
  refine AX_call hb fn87 rfl ?_ hab (Ret.flat rfl) rfl fun d h hR => ?_
  · simp only [go_sem, simprocAttr]
  obtain ⟨rfl, rfl⟩ := hR
  refine AX_of_hax cx_ok hb ?_
  simp only [go_sem, simprocAttr]
  rfl
def fitsE (t : Int) (l : List Nc) : Int := if mayE t l ≠ 0 then mayE t l else if fullB t.toNat l = true then 22 else 0
theorem fits0_ok (t : Int) (l : List Nc) (hl : l.length < 1048576) (hc : ∀ c ∈ l, c.Lt) (hk : ∀ c ∈ l, c.of < 3) : AFn Tryz.prog 29 [dint t, ncs l] (Ret (dint (fitsE t l))) := by
  by_cases hm : mayE t l = 0
  · have ht : ∃ n : Nat, t = (n : Int) := ⟨t.toNat, by unfold mayE at hm; split at hm; cases hm; omega⟩
    obtain ⟨n, rfl⟩ := ht
    have e0 : (mayE n l != 0) = false := by rw [hm]; rfl
    have e : fitsE n l = if fullB n l = true then 22 else 0 := by rw [fitsE, if_neg (by simpa using hm)]; rfl
    rw [e]
    refine AFn_hxk 0 cx_ok 200 Tryz.func29 rfl Tryz.ntmps29 Tryz.results29 rfl fun base w hb => ?_
    simp only [go_sem, simprocAttr]
    refine kont_call hb fn59 rfl ?_ (amay_ok n l hl) (Ret.flat rfl) rfl fun d h hR => ?_
    · simp only [go_sem, simprocAttr, e0]
    obtain ⟨rfl, rfl⟩ := hR
    refine kont_of_hx cx_ok hb 200 ?_
    simp only [go_sem, simprocAttr, e0]
    refine kont_call hb fn60 rfl ?_ (full0_ok n l hl hc hk hm) (Ret.flat rfl) rfl fun d h hR => ?_
    · simp only [go_sem, simprocAttr]
    obtain ⟨rfl, rfl⟩ := hR
    refine kont_of_hx cx_ok hb 200 ?_
    simp only [go_sem, simprocAttr]
    cases fullB n l
    · simp only [go_sem, simprocAttr]
      try rfl
    · simp only [go_sem, simprocAttr]
      try rfl
  · have e0 : (mayE t l != 0) = true := by simpa using hm
    have e : fitsE t l = mayE t l := by rw [fitsE, if_pos hm]
    rw [e]
    refine AFn_hxk 0 cx_ok 200 Tryz.func29 rfl Tryz.ntmps29 Tryz.results29 rfl fun base w hb => ?_
    simp only [go_sem, simprocAttr]
    refine kont_call hb fn59 rfl ?_ (amay_ok t l hl) (Ret.flat rfl) rfl fun d h hR => ?_
    · simp only [go_sem, simprocAttr, e0]
    obtain ⟨rfl, rfl⟩ := hR
    refine kont_of_hx cx_ok hb 200 ?_
    simp only [go_sem, simprocAttr, e0]
def roomV (t : Int) (l : List Nc) : Nat := if fitsE t l = 0 then (65536 - sumG (fun c => c.b) l * t.toNat) / t.toNat else 0
theorem room0_ok (t : Int) (l : List Nc) (hl : l.length < 1048576) (hc : ∀ c ∈ l, c.Lt) (hk : ∀ c ∈ l, c.of < 3) : AFn Tryz.prog 27 [dint t, ncs l] (Ret (.tup [u64 (roomV t l), dint (fitsE t l)])) := by
  by_cases hf : fitsE t l = 0
  · have hm : mayE t l = 0 := by unfold fitsE at hf; split at hf; contradiction; rename_i h; simpa using h
    have ht : ∃ n : Nat, t = (n : Int) ∧ n ≤ 65536 ∧ 0 < n := ⟨t.toNat, by unfold mayE at hm; split at hm; cases hm; omega⟩
    obtain ⟨n, rfl, hn, hn0⟩ := ht
    have hfl : sumG (fun c => c.b) l * n ≤ 65536 := by
      unfold fitsE at hf
      rw [if_neg (by simpa using hm)] at hf
      split at hf
      · cases hf
      · rename_i h; unfold fullB at h; simp only [decide_eq_true_eq, Int.toNat_natCast] at h; omega
    have e0 : (fitsE n l != 0) = false := by rw [hf]; rfl
    have e : roomV n l = (65536 - sumG (fun c => c.b) l * n) / n := by rw [roomV, if_pos hf]; rfl
    have hre := rest_ok (sumG (fun c => c.b) l) n 1 (slope_lt hl hc) hn hn0 (by decide) (by decide) (by omega)
    rw [Nat.mul_one, Nat.mul_one] at hre
    rw [e]
    refine AFn_hxk 0 cx_ok 200 Tryz.func27 rfl Tryz.ntmps27 Tryz.results27 rfl fun base w hb => ?_
    simp only [go_sem, simprocAttr]
    refine kont_call hb fn29 rfl ?_ (fits0_ok n l hl hc hk) (Ret.flat rfl) rfl fun d h hR => ?_
    · simp only [go_sem, simprocAttr, e0]
    obtain ⟨rfl, rfl⟩ := hR
    refine kont_of_hx cx_ok hb 200 ?_
    simp only [go_sem, simprocAttr, e0]
    refine kont_call hb fn56 rfl ?_ (sslope_ok l hl hc) (Ret.flat rfl) rfl fun d h hR => ?_
    · simp only [go_sem, simprocAttr]
    obtain ⟨rfl, rfl⟩ := hR
    refine kont_of_hx cx_ok hb 200 ?_
    simp only [go_sem, simprocAttr]
    refine kont_call hb fn55 rfl ?_ hre (Ret.flat rfl) rfl fun d h hR => ?_
    · simp only [go_sem, simprocAttr]
    obtain ⟨rfl, rfl⟩ := hR
    refine kont_of_hx cx_ok hb 200 ?_
    simp only [go_sem, simprocAttr]
    refine kont_call hb fn57 rfl ?_ (knees0_ok l hl hk) (Ret.flat rfl) rfl fun d h hR => ?_
    · simp only [go_sem, simprocAttr]
    obtain ⟨rfl, rfl⟩ := hR
    refine kont_of_hx cx_ok hb 200 ?_
    simp only [go_sem, simprocAttr]
    refine kont_for (fun i s => s = ⟨[(7, u64 ((65536 - sumG (fun c => c.b) l * n) / n)), (22, dint 0), (23, dint 0)], []⟩) 0 (Weak.frame (by simp only [go_sem, simprocAttr])) rfl ?_
    rintro i s hi rfl
    refine kont_of_hx cx_ok hb 200 ?_
    simp only [go_sem, simprocAttr]
    rw [hf]
    refine kont_of_hx cx_ok hb 200 ?_
    simp only [go_sem, simprocAttr]
  · have e0 : (fitsE t l != 0) = true := by simpa using hf
    have e : roomV t l = 0 := by rw [roomV, if_neg hf]
    rw [e]
    refine AFn_hxk 0 cx_ok 200 Tryz.func27 rfl Tryz.ntmps27 Tryz.results27 rfl fun base w hb => ?_
    simp only [go_sem, simprocAttr]
    refine kont_call hb fn29 rfl ?_ (fits0_ok t l hl hc hk) (Ret.flat rfl) rfl fun d h hR => ?_
    · simp only [go_sem, simprocAttr, e0]
    obtain ⟨rfl, rfl⟩ := hR
    refine kont_of_hx cx_ok hb 200 ?_
    simp only [go_sem, simprocAttr, e0]
end Go.Fg.X
namespace Go.Fg.X
open Go.Proofs Go.Fg
set_option maxRecDepth 100000
set_option maxHeartbeats 4000000
set_option linter.unusedSimpArgs false
set_option linter.unusedVariables false
theorem w642 : IntKind.i64.wrap 2 = 2 := by decide
theorem growC_ok (n : Nat) (h0 : 0 < n) (hn : n ≤ 1048576) : AFn Tryz.prog 61 [.nil, dint n] (fun d h => ∃ row, d = .ref 0 0 0 0 ∧ h = [⟨.arr, 0, 3, 0, row⟩]) := by
  have hneg : ¬ ((n : Int) < 0) := by omega
  have hpos : ((n : Int) > 0) := by omega
  have w1 : IntKind.i64.wrap (n : Int) = n := by rw [IntKind.wrap_i64]; omega
  refine MFn.cut (R := fun d h => d = .ref 0 0 0 0 ∧ h = [⟨.arr, 0, 3, n, fun _ => [u64 0, u64 0, u64 0]⟩]) ?_ (by rintro d h ⟨rfl, rfl⟩; exact ⟨0, _, 0, rfl, rfl, Nat.zero_le _, _, rfl, rfl⟩)
  show AFn _ _ _ _
  refine AFn_hxk 1 cx_ok 200 Tryz.func61 rfl Tryz.ntmps61 Tryz.results61 rfl fun base w hb => ?_
  simp only [go_sem, simprocAttr]
  simp only [decide_eq_false hneg, go_sem, simprocAttr]
  refine kont_cap_nil lay_ok rfl rfl rfl ?_
  refine kont_of_hx cx_ok hb 200 ?_
  simp only [go_sem, simprocAttr, w640, Int.sub_zero, w1, decide_eq_true hpos, h0]
  refine kont_cap_nil lay_ok rfl rfl rfl ?_
  refine kont_of_hx cx_ok hb 200 ?_
  simp only [go_sem, simprocAttr]
  refine kont_append_zeros lay_ok hb rfl rfl rfl rfl rfl rfl (by decide) h0 (by omega) (by decide) rfl ?_
  refine kont_of_hx cx_ok hb 200 ?_
  simp only [go_sem, simprocAttr]
theorem like_refl (k : Kd) : k.like k := by cases k <;> simp [Kd.like]
theorem obsTell_refl : ∀ h : List Ob, obsTell h h
  | [] => trivial
  | o :: r => ⟨⟨rfl, rfl, rfl, like_refl _, fun i _ => lLeOf_refl (dLe_refl _) _⟩, obsTell_refl r⟩
theorem concat01_ok (h : List Ob) (l2 lc : Nat) (row2 rowc : Nat → List D) (c : Nc) (h2 : (h.map Ob.ro)[l2]? = some ⟨.rarr, 0, 1, 2, row2⟩) (hc : (h.map Ob.ro)[lc]? = some ⟨.rarr, 0, 3, 1, rowc⟩) (e0 : row2 0 = [.nil]) (e1 : row2 1 = [.ref lc 0 0 1]) (ec : rowc 0 = c.cells) :
    RFn Tryz.prog 30 h [.ref l2 0 0 2] (fun d g => ∃ gn row, d = .ref h.length gn 0 1 ∧ g = [⟨.arr, gn, 3, 1, row⟩] ∧ row 0 = c.cells) := by
  refine RFn_hx cx_ok 200 Tryz.func30 rfl Tryz.ntmps30 Tryz.results30 rfl fun base w pl F hF hFl hb => ?_
  rw [← hF] at h2 hc
  have h2_l := hlt h2
  have hc_l := hlt hc
  simp only [go_sem, simprocAttr, hgetA, hgetL, hgetLk, hsetA, hsetL, hsetLk, List.length_append, List.length_set, List.append_assoc, List.set_set, h2, h2_l, hc, hc_l]
  obtain ⟨sz, hs0, hs1, hs2⟩ : ∃ sz : Nat → Int, sz 0 = 0 ∧ sz 1 = 0 ∧ sz 2 = 1 := ⟨fun i => if i = 2 then 1 else 0, rfl, rfl, rfl⟩
  refine kont_for (fun i s => s = ⟨[(0, .ref l2 0 0 2), (3, .raw (.int .i64 (sz i))), (9, .ref l2 0 0 2), (10, dint 2), (11, dint i)], F⟩) 2 (Weak.frame (by simp only [go_sem, simprocAttr, hs0])) rfl ?_
  rintro i s hi rfl
  have hi3 : i = 0 ∨ i = 1 ∨ i = 2 := by omega
  rcases hi3 with rfl | rfl | rfl
  · refine kont_of_hx cx_ok hb 200 ?_
    simp only [go_sem, simprocAttr, hgetA, hgetL, hgetLk, hsetA, hsetL, hsetLk, List.length_append, List.length_set, List.append_assoc, List.set_set, h2, h2_l, e0, e1, hc, hc_l, w640, w641, hs0]
    exact ⟨_, Weak.frame (fr' := [(0, .ref l2 0 0 2), (3, .raw (.int .i64 (sz 1))), (9, .ref l2 0 0 2), (10, dint 2), (11, .raw (.int .i64 1))]) (by simp only [go_sem, simprocAttr, hs1]), rfl⟩
  · refine kont_of_hx cx_ok hb 200 ?_
    simp only [go_sem, simprocAttr, hgetA, hgetL, hgetLk, hsetA, hsetL, hsetLk, List.length_append, List.length_set, List.append_assoc, List.set_set, h2, h2_l, e0, e1, hc, hc_l, w640, w641, hs1]
    exact ⟨_, Weak.frame (fr' := [(0, .ref l2 0 0 2), (3, .raw (.int .i64 (sz 2))), (9, .ref l2 0 0 2), (10, dint 2), (11, .raw (.int .i64 2))]) (by simp only [go_sem, simprocAttr, hs2, w642]), rfl⟩
  · refine kont_of_hx cx_ok hb 200 ?_
    simp only [go_sem, simprocAttr, hgetA, hgetL, hgetLk, hsetA, hsetL, hsetLk, List.length_append, List.length_set, List.append_assoc, List.set_set, h2, h2_l, e0, e1, hc, hc_l, w640, w641, hs2]
    refine kont_of_hx cx_ok hb 200 ?_
    simp only [go_sem, simprocAttr, hgetA, hgetL, hgetLk, hsetA, hsetL, hsetLk, List.length_append, List.length_set, List.append_assoc, List.set_set, h2, h2_l, e0, e1, hc, hc_l, w640, w641, hs2]
    refine kont_call hb fn61 rfl ?_ (growC_ok 1 (by decide) (by decide)) (fun d h ⟨row, h1, h2⟩ => ⟨by rw [h1]; rfl, fun o ho => by rw [h2] at ho; simp at ho; subst ho; exact fun i hi => absurd hi (Nat.not_lt_zero i)⟩) rfl fun d h' hR => ?_
    · simp only [go_sem, simprocAttr, hgetA, hgetL, hgetLk, hsetA, hsetL, hsetLk, List.length_append, List.length_set, List.append_assoc, List.set_set]
    obtain ⟨row, rfl, rfl⟩ := hR
    refine kont_of_hx cx_ok hb 200 ?_
    simp only [go_sem, simprocAttr, hgetA, hgetL, hgetLk, hsetA, hsetL, hsetLk, List.length_append, List.length_set, List.append_assoc, List.set_set, h2, h2_l]
    refine kont_for (fun i s => ∃ gn m row, (i ≤ 1 → m = 0) ∧ (i = 2 → m = 1 ∧ row 0 = c.cells) ∧ s = ⟨[(6, .ref F.length gn 0 m), (25, .ref l2 0 0 2), (26, dint 2), (27, dint i)], F ++ [⟨.arr, gn, 3, m, row⟩]⟩) 2
      (s0 := ⟨[(6, .ref F.length 0 0 0), (25, .ref l2 0 0 2), (26, dint 2), (27, dint 0)], F ++ [⟨.arr, 0, 3, 0, fun i => shiftL F.length (row i)⟩]⟩) (Weak.frame (by simp only [go_sem, simprocAttr])) ⟨0, 0, _, fun _ => rfl, fun h => absurd h (by decide), rfl⟩ ?_
    rintro i s hi ⟨gn, m, row, hm1, hm2, rfl⟩
    have hi3 : i = 0 ∨ i = 1 ∨ i = 2 := by omega
    rcases hi3 with rfl | rfl | rfl
    · obtain rfl : m = 0 := hm1 (by decide)
      refine kont_of_hx cx_ok hb 200 ?_
      simp only [go_sem, simprocAttr, hgetA, hgetL, hgetLk, hsetA, hsetL, hsetLk, List.length_append, List.length_set, List.append_assoc, List.set_set, h2, h2_l, e0, e1, hc, hc_l, w640, w641]
      refine kont_weak_ops (Weak.tell (fr' := [(25, .ref l2 0 0 2), (26, dint 2), (27, dint 0), (31, .ref F.length gn 0 0), (32, .imm 3 0 (fun _ => []))]) ⟨by simp only [go_sem, simprocAttr, frTell], obsTell_refl _⟩) ?_
      refine kont_of_hx cx_ok hb 200 ?_
      simp only [go_sem, simprocAttr, hgetA, hgetL, hgetLk, hsetA, hsetL, hsetLk, List.length_append, List.length_set, List.append_assoc, List.set_set, h2, h2_l, e0, e1, hc, hc_l, w640, w641]
      refine ⟨_, Weak.frame (fr' := [(6, .ref F.length (gn + 1) 0 0), (25, .ref l2 0 0 2), (26, dint 2), (27, .raw (.int .i64 1))]) (by simp only [go_sem, simprocAttr, w641]), _, _, _, rfl, rfl⟩
    · obtain rfl : m = 0 := hm1 (by decide)
      refine kont_of_hx cx_ok hb 200 ?_
      simp only [go_sem, simprocAttr, hgetA, hgetL, hgetLk, hsetA, hsetL, hsetLk, List.length_append, List.length_set, List.append_assoc, List.set_set, h2, h2_l, e0, e1, hc, hc_l, w640, w641]
      refine ⟨fun k hk => ?_, _, Weak.frame (fr' := [(6, .ref F.length (gn + 1) 0 1), (25, .ref l2 0 0 2), (26, dint 2), (27, .raw (.int .i64 2))]) (by simp only [go_sem, simprocAttr, w642]), _, _, _, ⟨rfl, ?_⟩, rfl⟩
      · obtain rfl : k = 0 := by omega
        rw [ec]; rfl
      · exact ec
    · obtain ⟨rfl, hr0⟩ := hm2 rfl
      refine kont_of_hx cx_ok hb 200 ?_
      simp only [go_sem, simprocAttr, hgetA, hgetL, hgetLk, hsetA, hsetL, hsetLk, List.length_append, List.length_set, List.append_assoc, List.set_set, h2, h2_l, e0, e1, hc, hc_l, w640, w641]
      refine kont_of_hx cx_ok hb 200 ?_
      simp only [go_sem, simprocAttr, hgetA, hgetL, hgetLk, hsetA, hsetL, hsetLk, List.length_append, List.length_set, List.append_assoc, List.set_set, h2, h2_l, e0, e1, hc, hc_l, w640, w641]
      exact ⟨_, rfl, gn, row, by rw [hFl], rfl, hr0⟩
end Go.Fg.X
/- The reference's knees: walked. Conditions: fewer than 2^20 curves. -/
namespace Go.Fg.X
open Go.Proofs Go.Fg
set_option maxRecDepth 100000
set_option maxHeartbeats 8000000
set_option linter.unusedSimpArgs false
set_option linter.unusedVariables false
theorem uRow {L : List Int} {row : Nat → List D} (hr : RowsAt (fun n : Int => [uI n]) L 0 row) {k : Nat} (hk : k < L.length) : row k = [uI (L.getD k 0)] := by
  have := hr.at_ k hk
  rw [Nat.zero_add] at this
  rw [this]
  simp only [List.getD_eq_getElem?_getD, List.getElem?_eq_getElem hk, Option.getD_some]
theorem rknees_ok (l : List Nc) (hl : l.length < 1048576) : AFn Tryz.prog 62 [ncs l] (Ret (uIs (refK l))) := by
  refine AFn_hxk 0 cx_ok 200 Tryz.func62 rfl Tryz.ntmps62 Tryz.results62 rfl fun base w hb => ?_
  simp only [go_sem, simprocAttr]
  refine kont_for (fun i s => s = ⟨[(3, uIs (refK (l.take i))), (10, ncs l), (11, dint l.length), (12, dint i)], []⟩) l.length (s0 := ⟨[(3, uIs []), (10, ncs l), (11, dint l.length), (12, dint 0)], []⟩)
    (Weak.tell ⟨by simp only [go_sem, simprocAttr, frTell], obsTell_refl _⟩) (by simp [refK]) ?_
  rintro i s hi rfl
  have hcl := refK_len l i hi
  have hwr := wrap_succ (show i < 4611686018427387904 by omega)
  refine kont_of_hx cx_ok hb 200 ?_
  simp only [go_sem, simprocAttr]
  first | refine hite_lt hi (fun hk1 => ?_) (fun hk1 => ?_) | refine hite_ltI hi (fun hk1 => ?_) (fun hk1 => ?_)
  · obtain ⟨e, he⟩ : ∃ e, e = l.getD i default := ⟨_, rfl⟩
    have hst := refK_succ l hk1
    have hk0 := hk1
    obtain ⟨M, hM⟩ : ∃ M, M = refK (l.take i) := ⟨_, rfl⟩
    rw [← hM, ← he] at hst
    rw [← hM] at hcl ⊢
    simp only [go_sem, simprocAttr, hk1, ← he]
    refine kont_call hb fn26 rfl ?_ (rofc_ok e.a e.d e.b) (Ret.flat rfl) rfl fun d h hR => ?_
    · simp only [go_sem, simprocAttr]
    obtain ⟨rfl, rfl⟩ := hR
    refine kont_of_hx cx_ok hb 200 ?_
    simp only [go_sem, simprocAttr]
    by_cases h3 : ofV e.a e.d e.b < 3
    · have h3' : e.of < 3 := h3
      rw [if_pos h3'] at hst
      simp only [go_sem, simprocAttr, decide_eq_true h3, Go.undef]
      refine ⟨hk1, _, ?_, rfl⟩
      rw [hst]
      exact Weak.to 0 (by (simp only [go_sem, simprocAttr, hwr]) <;> simp)
    · have h3' : ¬ e.of < 3 := h3
      rw [if_neg h3'] at hst
      simp only [go_sem, simprocAttr, decide_eq_false h3, Go.undef]
      refine kont_for (fun j s => ∃ g row, RowsAt (fun n : Int => [uI n]) (insAt e.d M j).1 0 row ∧ s = ⟨[(5, .ptr 0 0 0 0), (6, .ref 1 g 0 (insAt e.d M j).1.length), (7, dbool (insAt e.d M j).2), (10, ncs l), (11, dint l.length), (12, dint i), (19, uIs M), (20, dint M.length), (21, dint j)], [⟨.one, 0, 3, 1, fun _ => e.cells⟩, ⟨.arr, g, 1, (insAt e.d M j).1.length, row⟩]⟩) M.length
        (s0 := ⟨[(5, .ptr 0 0 0 0), (6, .ref 1 0 0 0), (7, dbool false), (10, ncs l), (11, dint l.length), (12, dint i), (19, uIs M), (20, dint M.length), (21, dint 0)], [⟨.one, 0, 3, 1, fun _ => e.cells⟩, ⟨.arr, 0, 1, 0, fun _ => []⟩]⟩)
        (Weak.trans (Weak.phantom 6 1 (fun i => []) rfl) (Weak.frame (by simp only [go_sem, simprocAttr]))) ⟨0, fun _ => [], .nil, rfl⟩ ?_
      rintro j s hj ⟨g, row, hr, rfl⟩
      have hil := insAt_len e.d M j
      have hwj := wrap_succ (show j < 4611686018427387904 by omega)
      refine kont_of_hx cx_ok hb 200 ?_
      simp only [go_sem, simprocAttr]
      have hj2 := hj
      first | refine hite_lt hj (fun hk1 => ?_) (fun hk1 => ?_) | refine hite_ltI hj (fun hk1 => ?_) (fun hk1 => ?_)
      · have hsj := insAt_succ e.d M hk1
        obtain ⟨d, hd⟩ : ∃ d, d = M.getD j 0 := ⟨_, rfl⟩
        rw [← hd] at hsj
        obtain ⟨q, hq⟩ : ∃ q, q = insAt e.d M j := ⟨_, rfl⟩
        rw [← hq] at hsj hr hil ⊢
        obtain ⟨m, p⟩ := q
        dsimp only at hr hil ⊢
        have hb4 : m.length ≤ 4294967295 := by omega
        have hb5 : m.length + 1 ≤ 4294967295 := by omega
        simp only [go_sem, simprocAttr, hk1, ← hd]
        cases p
        · by_cases h1 : (e.d : Int) ≤ d
          · have b1 : decide (d ≥ (e.d : Int)) = true := decide_eq_true h1
            by_cases h2 : d = (e.d : Int)
            · have b2 : (d != (e.d : Int)) = false := by simpa using h2
              have hst1 : (insAt e.d M (j + 1)).1 = m ++ [(e.d : Int)] := by rw [hsj]; simp [stK, h1, h2]
              have hst2 : (insAt e.d M (j + 1)).2 = true := by rw [hsj]; simp [stK, h1, h2]
              have hr2 := hr.app (e.d : Int) (r2 := fun _ => [uI e.d]) rfl
              simp only [go_sem, simprocAttr, b1, b2, hb4, Go.undef]
              repeat (refine And.intro (by omega) ?_)
              refine ⟨_, Weak.to 2 ⟨?_, by simp only [go_sem, simprocAttr], ?_, ?_⟩, g + 1, _, by rw [hst1]; exact hr2, rfl⟩
              · simp only [go_sem, simprocAttr, hwj, hst1, hst2, List.length_append, List.length_singleton]
              · exact ⟨fun j _ => rfl, fun j hj => hr2.upto (fun a => rfl) j (by have hj2 := hj; simp only [hst1] at hj2; simpa using hj2), trivial⟩
              · simp only [go_sem, simprocAttr, hst1, List.length_append, List.length_singleton]
            · have b2 : (d != (e.d : Int)) = true := by simpa using h2
              have hst1 : (insAt e.d M (j + 1)).1 = m ++ [(e.d : Int)] ++ [d] := by rw [hsj]; simp [stK, h1, h2]
              have hst2 : (insAt e.d M (j + 1)).2 = true := by rw [hsj]; simp [stK, h1, h2]
              have hr2 := (hr.app (e.d : Int) (r2 := fun _ => [uI e.d]) rfl).app d (r2 := fun _ => [uI d]) rfl
              simp only [List.length_append, List.length_singleton] at hr2
              simp only [go_sem, simprocAttr, b1, b2, hb4, hb5, Go.undef]
              repeat (refine And.intro (by omega) ?_)
              refine ⟨_, Weak.to 2 ⟨?_, by simp only [go_sem, simprocAttr], ?_, ?_⟩, g + 1 + 1, _, by rw [hst1]; exact hr2, rfl⟩
              · simp only [go_sem, simprocAttr, hwj, hst1, hst2, List.length_append, List.length_singleton]
              · exact ⟨fun j _ => rfl, fun j hj => hr2.upto (fun a => rfl) j (by have hj2 := hj; simp only [hst1] at hj2; simpa using hj2), trivial⟩
              · simp only [go_sem, simprocAttr, hst1, List.length_append, List.length_singleton]
          · have b1 : decide (d ≥ (e.d : Int)) = false := decide_eq_false h1
            have h2 : ¬ d = (e.d : Int) := by omega
            have b2 : (d != (e.d : Int)) = true := by simpa using h2
            have hst1 : (insAt e.d M (j + 1)).1 = m ++ [d] := by rw [hsj]; simp [stK, h1, h2]
            have hst2 : (insAt e.d M (j + 1)).2 = false := by rw [hsj]; simp [stK, h1, h2]
            have hr2 := hr.app d (r2 := fun _ => [uI d]) rfl
            simp only [go_sem, simprocAttr, b1, b2, hb4, Go.undef]
            repeat (refine And.intro (by omega) ?_)
            refine ⟨_, Weak.to 2 ⟨?_, by simp only [go_sem, simprocAttr], ?_, ?_⟩, g + 1, _, by rw [hst1]; exact hr2, rfl⟩
            · simp only [go_sem, simprocAttr, hwj, hst1, hst2, List.length_append, List.length_singleton]
            · exact ⟨fun j _ => rfl, fun j hj => hr2.upto (fun a => rfl) j (by have hj2 := hj; simp only [hst1] at hj2; simpa using hj2), trivial⟩
            · simp only [go_sem, simprocAttr, hst1, List.length_append, List.length_singleton]
        · have h1 := True.intro
          by_cases h2 : d = (e.d : Int)
          · have b2 : (d != (e.d : Int)) = false := by simpa using h2
            have hst1 : (insAt e.d M (j + 1)).1 = m := by rw [hsj]; simp [stK, h1, h2]
            have hst2 : (insAt e.d M (j + 1)).2 = true := by rw [hsj]; simp [stK, h1, h2]
            have hr2 := hr
            simp only [go_sem, simprocAttr, b2, hb4, Go.undef]
            repeat (refine And.intro (by omega) ?_)
            refine ⟨_, Weak.to 2 ⟨?_, by simp only [go_sem, simprocAttr], ?_, ?_⟩, g, _, by rw [hst1]; exact hr2, rfl⟩
            · simp only [go_sem, simprocAttr, hwj, hst1, hst2, List.length_append, List.length_singleton]
            · exact ⟨fun j _ => rfl, fun j hj => hr2.upto (fun a => rfl) j (by have hj2 := hj; simp only [hst1] at hj2; simpa using hj2), trivial⟩
            · simp only [go_sem, simprocAttr, hst1, List.length_append, List.length_singleton]
          · have b2 : (d != (e.d : Int)) = true := by simpa using h2
            have hst1 : (insAt e.d M (j + 1)).1 = m ++ [d] := by rw [hsj]; simp [stK, h1, h2]
            have hst2 : (insAt e.d M (j + 1)).2 = true := by rw [hsj]; simp [stK, h1, h2]
            have hr2 := hr.app d (r2 := fun _ => [uI d]) rfl
            simp only [go_sem, simprocAttr, b2, hb4, Go.undef]
            repeat (refine And.intro (by omega) ?_)
            refine ⟨_, Weak.to 2 ⟨?_, by simp only [go_sem, simprocAttr], ?_, ?_⟩, g + 1, _, by rw [hst1]; exact hr2, rfl⟩
            · simp only [go_sem, simprocAttr, hwj, hst1, hst2, List.length_append, List.length_singleton]
            · exact ⟨fun j _ => rfl, fun j hj => hr2.upto (fun a => rfl) j (by have hj2 := hj; simp only [hst1] at hj2; simpa using hj2), trivial⟩
            · simp only [go_sem, simprocAttr, hst1, List.length_append, List.length_singleton]
      · have h1 : j = M.length := by omega
        subst h1
        obtain ⟨q, hq⟩ : ∃ q, q = insAt e.d M M.length := ⟨_, rfl⟩
        have hins : insK e.d M = finK e.d q := by rw [hq]; unfold insK insAt; rw [List.take_length]
        rw [hins] at hst
        rw [← hq] at hr hil ⊢
        obtain ⟨m, p⟩ := q
        dsimp only at hr hil ⊢
        have hb4 : m.length ≤ 4294967295 := by omega
        cases p
        · have e1 : finK e.d (m, false) = m ++ [(e.d : Int)] := rfl
          have hr2 := hr.app (e.d : Int) (r2 := fun _ => [uI e.d]) rfl
          refine kont_of_hx cx_ok hb 200 ?_
          simp only [go_sem, simprocAttr, hb4, Go.undef]
          refine ⟨hk0, _, ?_, rfl⟩
          rw [hst, e1]
          refine Weak.trans (Weak.freeze rfl 1 rfl rfl (fun k hk => ?_)) (Weak.toT 0 ?_)
          · obtain ⟨a, ha⟩ := hr2.all k (by simpa using hk)
            simp only [go_sem, simprocAttr] at ha ⊢
            rw [ha]; rfl
          · simp only [go_sem, simprocAttr, hwr, List.length_append, List.length_singleton]
            intro k hk
            have hk2 := uRow hr2 (k := k) (by simpa using hk)
            simp only [go_sem, simprocAttr] at hk2
            rw [hk2]
            exact lLeOf_refl (dLe_refl _) _
        · have e1 : finK e.d (m, true) = m := rfl
          refine kont_of_hx cx_ok hb 200 ?_
          simp only [go_sem, simprocAttr, hb4, Go.undef]
          refine ⟨hk0, _, ?_, rfl⟩
          rw [hst, e1]
          refine Weak.trans (Weak.freeze rfl 1 rfl rfl (fun k hk => ?_)) (Weak.toT 0 ?_)
          · obtain ⟨a, ha⟩ := hr.all k (by simpa using hk)
            simp only [go_sem, simprocAttr] at ha ⊢
            rw [ha]; rfl
          · simp only [go_sem, simprocAttr, hwr]
            intro k hk
            have hk2 := uRow hr hk
            simp only [go_sem, simprocAttr] at hk2
            rw [hk2]
            exact lLeOf_refl (dLe_refl _) _
  · have h1 : i = l.length := by omega
    subst h1
    rw [List.take_length]
    refine kont_of_hx cx_ok hb 200 ?_
    simp only [go_sem, simprocAttr]
theorem any_same {A B : List Int} (h : ∀ x, x ∈ A ↔ x ∈ B) (p : Int → Bool) : A.any p = B.any p := by
  rw [Bool.eq_iff_iff]
  simp [List.any_eq_true, h]
def rfullD (t : Nat) (l : List Nc) : D := if (refK l).any (overB t l) = true then .agg [uI ((refK l).getD (firstU (overB t l) (refK l)).toNat 0), dbool true] else .agg [u64 0, dbool (fullS t l)]
theorem rfull_ok (t : Nat) (l : List Nc) (hl : l.length < 1048576) (hc : ∀ c ∈ l, c.Lt) (hm : mayE t l = 0) : AFn Tryz.prog 32 [dint t, ncs l] (Ret (rfullD t l)) := by
  have ht : t ≤ 65536 := by unfold mayE at hm; split at hm; cases hm; omega
  have e0 : (mayE t l != 0) = false := by rw [hm]; rfl
  have hkl : (refK l).length ≤ l.length := by have := refK_len l l.length (Nat.le_refl _); rwa [List.take_length] at this
  refine AFn_hxk 0 cx_ok 200 Tryz.func32 rfl Tryz.ntmps32 Tryz.results32 rfl fun base w hb => ?_
  simp only [go_sem, simprocAttr]
  refine kont_call hb fn31 rfl ?_ (rmay_ok t l hl) (Ret.flat rfl) rfl fun d h hR => ?_
  · simp only [go_sem, simprocAttr, e0]
  obtain ⟨rfl, rfl⟩ := hR
  refine kont_of_hx cx_ok hb 200 ?_
  simp only [go_sem, simprocAttr, e0]
  refine kont_callM hb [] fn62 rfl ?_ (rknees_ok l hl) rfl fun d h hR => ?_
  · simp only [go_sem, simprocAttr]
  obtain ⟨rfl, rfl⟩ := hR
  simp only [go_sem, simprocAttr]
  refine kont_of_hx cx_ok hb 200 ?_
  simp only [go_sem, simprocAttr]
  refine kont_for (fun i s => (∀ j, j < i → overB t l ((refK l).getD j 0) = false) ∧ s = ⟨[(0, dint t), (1, ncs l), (4, .ptr 0 0 0 0), (13, uIs (refK l)), (14, dint (refK l).length), (15, dint i)], [⟨.one, 0, 2, 1, fun _ => [u64 0, dbool false]⟩]⟩) (refK l).length (s0 := ⟨[(0, dint t), (1, ncs l), (4, .ptr 0 0 0 0), (13, uIs (refK l)), (14, dint (refK l).length), (15, dint 0)], [⟨.one, 0, 2, 1, fun _ => [u64 0, dbool false]⟩]⟩) (Weak.to 1 (by (simp only [go_sem, simprocAttr]) <;> simp)) ⟨fun j hj => absurd hj (Nat.not_lt_zero j), rfl⟩ ?_
  rintro i s hi ⟨hn, rfl⟩
  have hwr := wrap_succ (show i < 4611686018427387904 by omega)
  refine kont_of_hx cx_ok hb 200 ?_
  simp only [go_sem, simprocAttr]
  first | refine hite_lt hi (fun hk1 => ?_) (fun hk1 => ?_) | refine hite_ltI hi (fun hk1 => ?_) (fun hk1 => ?_)
  · obtain ⟨k, hk, hk2, hk3⟩ := knee_nat ((refK_same l _).1 (getD_memI hk1))
    have hsv := rsvc_ok l k (by omega) hl hc
    have hca := rcarries_ok (svcG l k) t k (svcG_lt hl hc hk3) ht (by omega)
    have hov : overB t l ((refK l).getD i 0) = decide (65536 * k < svcG l k * t) := by rw [hk]; rfl
    have hsame : sumG (fun c => serV c.a c.d c.b k) l = svcG l k := rfl
    rw [hsame] at hsv
    simp only [go_sem, simprocAttr, hk1, hk]
    refine kont_call hb fn64 rfl ?_ hsv (Ret.flat rfl) rfl fun d h hR => ?_
    · simp only [go_sem, simprocAttr]
    obtain ⟨rfl, rfl⟩ := hR
    refine kont_of_hx cx_ok hb 200 ?_
    simp only [go_sem, simprocAttr]
    refine kont_call hb fn63 rfl ?_ hca (Ret.flat rfl) rfl fun d h hR => ?_
    · simp only [go_sem, simprocAttr]
    obtain ⟨rfl, rfl⟩ := hR
    refine kont_of_hx cx_ok hb 200 ?_
    simp only [go_sem, simprocAttr]
    cases ho : decide (65536 * k < svcG l k * t)
    · simp only [go_sem, simprocAttr, ho]
      refine ⟨hk1, _, Weak.to 1 (by (simp only [go_sem, simprocAttr, hwr]) <;> simp), fun j hj => ?_, rfl⟩
      by_cases h2 : j < i
      · exact hn j h2
      · obtain rfl : j = i := by omega
        rw [hov, ho]
    · have hany : (refK l).any (overB t l) = true := List.any_eq_true.2 ⟨_, getD_memI hk1, by rw [hov, ho]⟩
      have hfi := firstU_at hk1 hn (by rw [hov, ho])
      rw [rfullD, if_pos hany, hfi, Int.toNat_natCast, hk]
      simp only [go_sem, simprocAttr, ho]
  · have h1 : i = (refK l).length := by omega
    subst h1
    have hany : (refK l).any (overB t l) = false := by
      have h1 := firstU_any (overB t l) (refK l)
      rw [firstU_none hn] at h1
      rw [← h1]; decide
    have hca := rcarries_ok (sumG (fun c => c.b) l) t 1 (slopeG_lt hl hc) ht (by decide)
    have hfs : decide (65536 * 1 < sumG (fun c => c.b) l * t) = fullS t l := rfl
    rw [hfs] at hca
    rw [rfullD, hany, if_neg (by decide)]
    refine kont_of_hx cx_ok hb 200 ?_
    simp only [go_sem, simprocAttr]
    refine kont_call hb fn65 rfl ?_ (rslope_ok l hl hc) (Ret.flat rfl) rfl fun d h hR => ?_
    · simp only [go_sem, simprocAttr]
    obtain ⟨rfl, rfl⟩ := hR
    refine kont_of_hx cx_ok hb 200 ?_
    simp only [go_sem, simprocAttr]
    refine kont_call hb fn63 rfl ?_ hca (Ret.flat rfl) rfl fun d h hR => ?_
    · simp only [go_sem, simprocAttr]
    obtain ⟨rfl, rfl⟩ := hR
    refine kont_of_hx cx_ok hb 200 ?_
    simp only [go_sem, simprocAttr]
    simp only [Bool.not_not, go_sem, simprocAttr]
theorem rfits_ok (t : Int) (l : List Nc) (hl : l.length < 1048576) (hc : ∀ c ∈ l, c.Lt) : AFn Tryz.prog 13 [dint t, ncs l] (Ret (dint (fitsW t l))) := by
  by_cases hm : mayE t l = 0
  · have ht : ∃ n : Nat, t = (n : Int) := ⟨t.toNat, by unfold mayE at hm; split at hm; cases hm; omega⟩
    obtain ⟨n, rfl⟩ := ht
    have e0 : (mayE n l != 0) = false := by rw [hm]; rfl
    have e : fitsW n l = if fullW n l = true then 22 else 0 := by rw [fitsW, if_neg (by simpa using hm)]; rfl
    rw [e]
    have hF := rfull_ok n l hl hc hm
    unfold rfullD at hF
    unfold fullW
    rw [any_same (refK_same l)] at hF
    cases hA : (kneesV l).any (overB n l)
    · rw [hA, if_neg (by decide)] at hF
      rw [Bool.false_or]
      refine AFn_hxk 0 cx_ok 200 Tryz.func13 rfl Tryz.ntmps13 Tryz.results13 rfl fun base w hb => ?_
      simp only [go_sem, simprocAttr]
      refine kont_call hb fn31 rfl ?_ (rmay_ok n l hl) (Ret.flat rfl) rfl fun d h hR => ?_
      · simp only [go_sem, simprocAttr, e0]
      obtain ⟨rfl, rfl⟩ := hR
      refine kont_of_hx cx_ok hb 200 ?_
      simp only [go_sem, simprocAttr, e0]
      refine kont_call hb fn32 rfl ?_ hF (Ret.flat rfl) rfl fun d h hR => ?_
      · simp only [go_sem, simprocAttr]
      obtain ⟨rfl, rfl⟩ := hR
      refine kont_of_hx cx_ok hb 200 ?_
      simp only [go_sem, simprocAttr]
      cases fullS n l
      · simp only [go_sem, simprocAttr]
      · simp only [go_sem, simprocAttr]
    · rw [hA, if_pos rfl] at hF
      rw [Bool.true_or, if_pos rfl]
      refine AFn_hxk 0 cx_ok 200 Tryz.func13 rfl Tryz.ntmps13 Tryz.results13 rfl fun base w hb => ?_
      simp only [go_sem, simprocAttr]
      refine kont_call hb fn31 rfl ?_ (rmay_ok n l hl) (Ret.flat rfl) rfl fun d h hR => ?_
      · simp only [go_sem, simprocAttr, e0]
      obtain ⟨rfl, rfl⟩ := hR
      refine kont_of_hx cx_ok hb 200 ?_
      simp only [go_sem, simprocAttr, e0]
      refine kont_call hb fn32 rfl ?_ hF (Ret.flat rfl) rfl fun d h hR => ?_
      · simp only [go_sem, simprocAttr]
      obtain ⟨rfl, rfl⟩ := hR
      refine kont_of_hx cx_ok hb 200 ?_
      simp only [go_sem, simprocAttr]
  · have e0 : (mayE t l != 0) = true := by simpa using hm
    have e : fitsW t l = mayE t l := by rw [fitsW, if_pos hm]
    rw [e]
    refine AFn_hxk 0 cx_ok 200 Tryz.func13 rfl Tryz.ntmps13 Tryz.results13 rfl fun base w hb => ?_
    simp only [go_sem, simprocAttr]
    refine kont_call hb fn31 rfl ?_ (rmay_ok t l hl) (Ret.flat rfl) rfl fun d h hR => ?_
    · simp only [go_sem, simprocAttr, e0]
    obtain ⟨rfl, rfl⟩ := hR
    refine kont_of_hx cx_ok hb 200 ?_
    simp only [go_sem, simprocAttr, e0]
end Go.Fg.X
/- A slice that a call built beside a heap lent to be read, handed back and told as a closed value; nothing of it is kept. No conditions. -/
namespace Go.Fg.X
set_option linter.unusedSimpArgs false
set_option linter.unusedVariables false
open Go.Proofs Go.Fg
open Go.RowKit (Below)
set_option maxRecDepth 100000
theorem freezeRF {P : Program} {f : FuncId} {h : List Ob} {args : List D} {R : D → List Ob → Prop} (d2 : D) (hu : ∀ k, d2.upto k = true)
    (hd : ∀ d g, R d g → dLe 6 d d2 ∨ ∃ lo gn sz n row, h.length ≤ lo ∧ (h ++ g)[lo]? = some ⟨.arr, gn, sz, n, row⟩ ∧ (∀ i, i < n → (row i).all D.cl1 = true) ∧ dLe 6 (D.fz lo gn n sz row d) d2) (H : RFn P f h args R) : RFn0 P f h args (fun d => d = d2) := by
  intro Z base w pl vs h1 h2 h3 hl hc
  have hO0 : RelO Z w.heap.size (h.map Ob.ro) pl w := by
    refine ⟨h3.len, h3.inj, h3.noRow, fun l o b q ho hp => ⟨fun hr => ?_, (h3.at_ l o b q ho hp).2⟩⟩
    obtain ⟨o', _, rfl⟩ := ro_get' ho
    rw [ro_kd, Kd.toRo_ro] at hr; cases hr
  refine (H Z w.heap.size w pl vs (Nat.le_refl _) h2 hO0 hl hc).mono fun e w' he => ?_
  obtain ⟨v, d, _, pl', rfl, ⟨g, rfl, hR⟩, hO, hV, hT, hB⟩ := he
  have hE : ∀ b, b < w.heap.size → w'.heap[b]? = w.heap[b]? := fun b hb => hB.block b hb
  have hpl : ∀ (l : Nat), l < h.length → pl'[l]? = pl[l]? := fun l hl => by
    have hl2 : l < pl.length := by rw [h3.len]; simpa using hl
    obtain ⟨o', p', m1, m2, _, _, m3⟩ := hT.obj l _ _ (ro_get (List.getElem?_eq_getElem hl)) (List.getElem?_eq_getElem hl2)
    rw [List.getElem?_append_left (by simpa using hl), ro_get (List.getElem?_eq_getElem hl)] at m1
    cases m1
    obtain ⟨_, rfl⟩ := m3 rfl
    rw [m2, List.getElem?_eq_getElem hl2]
  have e1 : (h.map Ob.ro ++ g).take h.length = h.map Ob.ro := List.take_left' (by simp)
  have fin2 : RelV Z (h.map Ob.ro) pl w' d2 v → _ := fun hx => (⟨v, d2, h.map Ob.ro, pl, rfl, ⟨[], (List.append_nil _).symm, hu _, rfl⟩, h3.ext hE, hx, Go.Fg.Tr.ext h3 hE, hB.mono h1⟩ : ∃ v' d h' pl', Ending.returned v = .returned v' ∧ (∃ g, h' = h.map Ob.ro ++ g ∧ d.upto h.length = true ∧ d = d2) ∧ RelO Z base h' pl' w' ∧ RelV Z h' pl' w' d v' ∧ Go.Fg.Tr (h.map Ob.ro) pl w h' pl' w' ∧ Below base w w')
  refine fin2 ?_
  rcases hd _ _ hR with hle | ⟨lo, gn, sz, n, row, hlo0, hlo, hcl, hle⟩
  · have r := (dLe_rel 6 hle hV).take (hu h.length)
    have e2 : pl'.take h.length = pl := by
      apply List.ext_getElem?
      intro i
      rw [List.getElem?_take]
      by_cases hi : i < h.length
      · rw [if_pos hi, hpl i hi]
      · rw [if_neg hi, List.getElem?_eq_none (by rw [h3.len]; simp; omega)]
    rw [e1, e2] at r
    exact r
  have hlo2 : (h.map Ob.ro ++ g)[lo]? = some ⟨.arr, gn, sz, n, row⟩ := by
    rw [List.getElem?_append_right (by omega)] at hlo
    rw [List.getElem?_append_right (by simpa using hlo0)]; simpa using hlo
  have hlt : lo < pl'.length := by rw [hO.len]; exact (List.getElem?_eq_some_iff.1 hlo2).1
  obtain ⟨p, hp⟩ : ∃ p, pl'[lo]? = some p := ⟨_, List.getElem?_eq_getElem hlt⟩
  have hfz := hV.fz (l := lo) (o := ⟨.arr, gn, sz, n, row⟩) (p := p) hlo2 hp rfl (fun b q e => by
    subst e
    refine ⟨h2 b ?_, fun l' q' e' => hO.inj _ _ _ _ _ e' hp, (hO.at_ lo _ b q hlo2 hp).2.cells rfl⟩
    exact (hO.at_ lo _ b q hlo2 hp).1 rfl) hcl (h' := (h.map Ob.ro ++ g).set lo (Ob.gone ⟨.arr, gn, sz, n, row⟩)) (fun l' o' hne e => by
    exact ⟨o', by rw [List.getElem?_set_ne (Ne.symm hne)]; exact e, rfl, rfl, rfl⟩)
  have r := (dLe_rel 6 hle hfz).take (hu h.length)
  have e3 : ((h.map Ob.ro ++ g).set lo (Ob.gone ⟨.arr, gn, sz, n, row⟩)).take h.length = h.map Ob.ro := by
    rw [List.set_append_right _ _ (by simpa using hlo0)]
    exact List.take_left' (by simp)
  have e2 : (pl'.set lo none).take h.length = pl := by
    apply List.ext_getElem?
    intro i
    rw [List.getElem?_take]
    by_cases hi : i < h.length
    · rw [if_pos hi, List.getElem?_set_ne (by omega), hpl i hi]
    · rw [if_neg hi, List.getElem?_eq_none (by rw [h3.len]; simp; omega)]
  rw [e3, e2] at r
  exact r
end Go.Fg.X
namespace Go.Fg.X
open Go.Proofs Go.Fg
open Go.RowKit (Below)
set_option maxRecDepth 100000
set_option maxHeartbeats 4000000
set_option linter.unusedSimpArgs false
set_option linter.unusedVariables false
theorem immTo {N : Nat → Prop} {w : World} {sz n : Nat} {row row' : Nat → List D} {v : Value} (h : Cl N w (.imm sz n row) v) (e : ∀ i, i < n → row i = row' i) : Cl N w (.imm sz n row') v := by
  cases h with
  | imm _ _ _ a cap b o vs ha hl hs hc hr => exact .imm sz n row' a cap b o vs ha hl (fun i hi => by rw [← e i hi]; exact hs i hi) hc (fun i j hi hj => by rw [← e i hi]; exact hr i j hi hj)
/-- A slice that the call made, told as a closed value. -/
theorem freezeS {P : Program} {f : FuncId} {args : List D} {α : Type} [Inhabited α] {sz : Nat} {enc : α → List D} {L : List α} (henc : ∀ a, (enc a).all D.cl1 = true) (h : AFn P f args (RetS sz enc L)) :
    AFn P f args (Ret (.imm sz L.length (fun i => enc (L.getD i default)))) := by
  intro Z base w pl vs h1 h2 h3 hl hc
  have hpl : pl = [] := by have := h3.len; simpa using this
  subst hpl
  refine (h Z base w [] vs h1 h2 h3 hl hc).mono fun e w' he => ?_
  obtain ⟨v, d, hh, pl', rfl, ⟨g, off, row, rfl, rfl, hr⟩, hO, hV, hT, hB⟩ := he
  have hlen : pl'.length = 1 := by have := hO.len; simpa using this
  obtain ⟨p, rfl⟩ : ∃ p, pl' = [p] := by
    match pl', hlen with
    | [p], _ => exact ⟨p, rfl⟩
  have hfz := hV.fz (l := 0) (o := ⟨.arr, g, sz, off + L.length, row⟩) (p := p) rfl rfl rfl (fun b q e => by
    subst e
    refine ⟨h2 b ?_, fun l' q' e' => ?_, (hO.at_ 0 _ b q rfl rfl).2.cells rfl⟩
    · rcases Nat.lt_or_ge b w.heap.size with hlt | hge
      · exact absurd rfl ((hT.old b (fun i q e => by simp at e) hlt).1 0 q)
      · exact hge
    · have := ltp_of_some e'; simp at this; exact this) (fun i hi => by
    obtain ⟨a, ha⟩ := hr.all i hi
    show (row i).all D.cl1 = true
    rw [ha]; exact henc a) (h' := [Ob.gone ⟨.arr, g, sz, off + L.length, row⟩]) (fun l' o' hne e => by
    have := lt_of_some e
    simp at this; exact absurd this hne)
  have e1 : D.fz 0 g (off + L.length) sz row (.ref 0 g off L.length) = .imm sz L.length (rowFrom off row) := by simp [D.fz, nat_ble]
  simp only [e1] at hfz
  have hcl := (cl1_ok hfz rfl).mono (N' := free Z []) (w' := w') fun b hb _ => ⟨⟨hb.1, fun l q e => by simp at e⟩, rfl⟩
  refine ⟨v, _, [], [], rfl, ⟨rfl, rfl⟩, RelO.nil, .cl _ _ (immTo hcl fun i hi => hr.at_ i hi), ⟨fun b hb hlt => ⟨hb, (hT.old b hb hlt).2⟩, fun l o p e => by simp at e, fun l o o' b q e => by simp at e⟩, hB⟩
/-- What holds a built slice and a number. -/
def RetSN {α : Type} [Inhabited α] (sz : Nat) (enc : α → List D) (L : List α) (v : Value) (d : D) (h : List Ob) : Prop := ∃ g off row, d = .agg [.ref 0 g off L.length, .raw v] ∧ h = [⟨.arr, g, sz, off + L.length, row⟩] ∧ RowsAt enc L off row
theorem freezeSN {P : Program} {f : FuncId} {args : List D} {α : Type} [Inhabited α] {sz : Nat} {enc : α → List D} {L : List α} {v : Value} (henc : ∀ a, (enc a).all D.cl1 = true) (h : AFn P f args (RetSN sz enc L v)) :
    AFn P f args (Ret (.agg [.imm sz L.length (fun i => enc (L.getD i default)), .raw v])) := by
  refine freezeG _ rfl ?_ h
  rintro d hh ⟨g, off, row, rfl, rfl, hr⟩
  refine ⟨g, sz, _, row, rfl, fun i hi => ?_, ?_⟩
  · obtain ⟨a, ha⟩ := hr.all i hi
    rw [ha]; exact henc a
  · have e1 : D.fz 0 g (off + L.length) sz row (.agg [.ref 0 g off L.length, .raw v]) = .agg [.imm sz L.length (rowFrom off row), .raw v] := by simp [D.fz, fzL, nat_ble]
    rw [e1, dLe_agg, lLe_cons, lLe_cons, dLe_imm, dLe_raw]
    refine ⟨⟨rfl, rfl, fun i hi => ?_⟩, rfl, lLe_nil ▸ trivial⟩
    rw [rowFrom_at, hr.at_ i hi]
    exact lLeOf_refl (dLe_refl _) _
end Go.Fg.X
namespace Go.Fg.X
open Go.Proofs Go.Fg
set_option maxRecDepth 100000
set_option maxHeartbeats 4000000
set_option linter.unusedSimpArgs false
set_option linter.unusedVariables false
theorem klsUp2 (a : Kls) : uptoL 2 a.cells = true := rfl
theorem putAt_len (L : List Kls) (x : Kls) : ∀ i, (putAt L x i).1.length ≤ 2 * i
  | 0 => Nat.le_refl _
  | i + 1 => by
    have := putAt_len L x i
    simp only [putAt]
    split <;> split <;> simp <;> omega
theorem RowsAt.ren1 {L : List Kls} {off : Nat} {row : Nat → List D} (h : RowsAt Kls.cells L off row) : RowsAt Kls.cells L off (fun i => renL [1] (row i)) :=
  ⟨fun i hi => by show renL [1] (row (off + i)) = _; rw [h.at_ i hi]; rfl, fun i hi => by obtain ⟨a, ha⟩ := h.all i hi; exact ⟨a, by show renL [1] (row i) = _; rw [ha]; rfl⟩⟩
theorem RowsAt.among1 {L : List Kls} {off : Nat} {row : Nat → List D} (h : RowsAt Kls.cells L off row) : ∀ i, i < off + L.length → amongL [1] (row i) = true := fun i hi => by
  obtain ⟨a, ha⟩ := h.all i hi
  rw [ha]; rfl
theorem rput_ok (L : List Kls) (x : Kls) (hl : L.length < 1000000) : AFn Tryz.prog 53 [kls L, dkl x] (RetS 14 Kls.cells (putOut L x)) := by
  refine AFn_hxs [1] rfl cx_ok 200 Tryz.func53 rfl Tryz.ntmps53 Tryz.results53 rfl fun base w hb => ?_
  simp only [go_sem, simprocAttr]
  refine kont_for (fun i s => ∃ g off row, RowsAt Kls.cells (putAt L x i).1 off row ∧ s = ⟨[(3, .ptr 0 0 0 0), (5, .ref 1 g off (putAt L x i).1.length), (6, dbool (putAt L x i).2), (9, kls L), (10, dint L.length), (11, dint i)], [⟨.one, 0, 14, 1, fun _ => x.cells⟩, ⟨.arr, g, 14, off + (putAt L x i).1.length, row⟩]⟩) L.length
    (s0 := ⟨[(3, .ptr 0 0 0 0), (5, .ref 1 0 0 0), (6, dbool false), (9, kls L), (10, dint L.length), (11, dint 0)], [⟨.one, 0, 14, 1, fun _ => x.cells⟩, ⟨.arr, 0, 14, 0, fun _ => []⟩]⟩)
    (Weak.trans (Weak.phantom 5 14 (fun i => []) rfl) (Weak.to 2 (by (simp only [go_sem, simprocAttr]) <;> simp))) ⟨0, 0, fun _ => [], .nil, rfl⟩ ?_
  rintro i s hi ⟨g, off, row, hr, rfl⟩
  have hcl := putAt_len L x i
  have hwr := wrap_succ (show i < 4611686018427387904 by omega)
  refine kont_of_hx cx_ok hb 200 ?_
  simp only [go_sem, simprocAttr]
  first | refine hite_lt hi (fun hk1 => ?_) (fun hk1 => ?_) | refine hite_ltI hi (fun hk1 => ?_) (fun hk1 => ?_)
  · obtain ⟨M, hM⟩ : ∃ M, M = (putAt L x i).1 := ⟨_, rfl⟩
    obtain ⟨dn, hdn⟩ : ∃ dn, dn = (putAt L x i).2 := ⟨_, rfl⟩
    obtain ⟨e, he⟩ : ∃ e, e = L.getD i default := ⟨_, rfl⟩
    have hst : putAt L x (i + 1) = (if e.iD ≠ x.iD then (if !dn && decide (x.iD ≤ e.iD) then M ++ [x] else M) ++ [e] else (if !dn && decide (x.iD ≤ e.iD) then M ++ [x] else M), dn || decide (x.iD ≤ e.iD)) := by rw [hM, hdn, he]; rfl
    rw [← hM] at hr hcl ⊢
    rw [← hdn]
    have hb4 : M.length ≤ 4294967295 := by omega
    have hb5 : M.length + 1 ≤ 4294967295 := by omega
    have hrx : RowsAt Kls.cells (M ++ [x]) 0 (appRow M.length off row fun _ => x.cells) := hr.app x rfl
    have hre : RowsAt Kls.cells (M ++ [e]) 0 (appRow M.length off row fun _ => e.cells) := hr.app e rfl
    have hrxe : RowsAt Kls.cells (M ++ [x] ++ [e]) 0 (appRow (M ++ [x]).length 0 (appRow M.length off row fun _ => x.cells) fun _ => e.cells) := hrx.app e rfl
    have hlx : (M ++ [x]).length = M.length + 1 := by simp
    simp only [go_sem, simprocAttr, hk1, ← he]
    obtain rfl | rfl : dn = true ∨ dn = false := by cases dn <;> simp
    · simp only [go_sem, simprocAttr]
      by_cases h2 : e.iD = x.iD
      · have hs2 : putAt L x (i + 1) = (M, true) := by rw [hst]; simp [h2]
        simp only [go_sem, simprocAttr, beqT h2, bne]
        repeat (refine And.intro (by omega) ?_)
        refine ⟨_, Weak.to 2 ⟨?_, by simp only [go_sem, simprocAttr], ?_, ?_⟩, g, off, _, by rw [hs2]; exact hr, rfl⟩
        · simp only [go_sem, simprocAttr, hwr, hs2, List.length_append, List.length_singleton]
        · exact ⟨fun j _ => klsUp2 x, fun j hj => (hr).upto klsUp2 j (by have hj2 := hj; simp only [hs2] at hj2; simpa using hj2), trivial⟩
        · simp only [go_sem, simprocAttr, hs2, List.length_append, List.length_singleton]
      · have hs2 : putAt L x (i + 1) = (M ++ [e], true) := by rw [hst]; simp [h2]
        simp only [go_sem, simprocAttr, beqF h2, bne, hb4]
        repeat (refine And.intro (by omega) ?_)
        refine ⟨_, Weak.to 2 ⟨?_, by simp only [go_sem, simprocAttr], ?_, ?_⟩, (g+1), 0, _, by rw [hs2]; exact hre, rfl⟩
        · simp only [go_sem, simprocAttr, hwr, hs2, List.length_append, List.length_singleton]
        · exact ⟨fun j _ => klsUp2 x, fun j hj => (hre).upto klsUp2 j (by have hj2 := hj; simp only [hs2] at hj2; simpa using hj2), trivial⟩
        · simp only [go_sem, simprocAttr, hs2, List.length_append, List.length_singleton]
    · simp only [go_sem, simprocAttr]
      by_cases h1 : x.iD ≤ e.iD
      · simp only [go_sem, simprocAttr, decide_eq_true h1, hb4, h1]
        by_cases h2 : e.iD = x.iD
        · have hs2 : putAt L x (i + 1) = (M ++ [x], true) := by rw [hst]; simp [h2]
          simp only [go_sem, simprocAttr, beqT h2, bne, hb4]
          repeat (refine And.intro (by omega) ?_)
          refine ⟨_, Weak.to 2 ⟨?_, by simp only [go_sem, simprocAttr], ?_, ?_⟩, (g+1), 0, _, by rw [hs2]; exact hrx, rfl⟩
          · simp only [go_sem, simprocAttr, hwr, hs2, List.length_append, List.length_singleton]
          · exact ⟨fun j _ => klsUp2 x, fun j hj => (hrx).upto klsUp2 j (by have hj2 := hj; simp only [hs2] at hj2; simpa using hj2), trivial⟩
          · simp only [go_sem, simprocAttr, hs2, List.length_append, List.length_singleton]
        · have hs2 : putAt L x (i + 1) = (M ++ [x] ++ [e], true) := by rw [hst]; simp [h2, h1]
          simp only [go_sem, simprocAttr, beqF h2, bne, hb4, hb5]
          rw [hlx] at hrxe
          repeat (refine And.intro (by omega) ?_)
          refine ⟨_, Weak.to 2 ⟨?_, by simp only [go_sem, simprocAttr], ?_, ?_⟩, (g+1+1), 0, _, by rw [hs2]; exact hrxe, rfl⟩
          · simp only [go_sem, simprocAttr, hwr, hs2, List.length_append, List.length_singleton]
          · exact ⟨fun j _ => klsUp2 x, fun j hj => (hrxe).upto klsUp2 j (by have hj2 := hj; simp only [hs2] at hj2; simpa using hj2), trivial⟩
          · simp only [go_sem, simprocAttr, hs2, List.length_append, List.length_singleton]
      · simp only [go_sem, simprocAttr, decide_eq_false h1, hb4, h1]
        by_cases h2 : e.iD = x.iD
        · exact absurd (by omega) h1
        · have hs2 : putAt L x (i + 1) = (M ++ [e], false) := by rw [hst]; simp [h2, h1]
          simp only [go_sem, simprocAttr, beqF h2, bne, hb4]
          repeat (refine And.intro (by omega) ?_)
          refine ⟨_, Weak.to 2 ⟨?_, by simp only [go_sem, simprocAttr], ?_, ?_⟩, (g+1), 0, _, by rw [hs2]; exact hre, rfl⟩
          · simp only [go_sem, simprocAttr, hwr, hs2, List.length_append, List.length_singleton]
          · exact ⟨fun j _ => klsUp2 x, fun j hj => (hre).upto klsUp2 j (by have hj2 := hj; simp only [hs2] at hj2; simpa using hj2), trivial⟩
          · simp only [go_sem, simprocAttr, hs2, List.length_append, List.length_singleton]
  · have h1 : i = L.length := by omega
    subst h1
    have hb4 : (putAt L x L.length).1.length ≤ 4294967295 := by omega
    have hrx : RowsAt Kls.cells ((putAt L x L.length).1 ++ [x]) 0 (appRow (putAt L x L.length).1.length off row fun _ => x.cells) := hr.app x rfl
    refine kont_of_hx cx_ok hb 200 ?_
    simp only [go_sem, simprocAttr]
    by_cases h2 : (putAt L x L.length).2 = true
    · have e : putOut L x = (putAt L x L.length).1 := by rw [putOut, if_pos h2]
      simp only [go_sem, simprocAttr, h2]
      rw [e]
      exact ⟨hr.among1, g, off, _, rfl, rfl, hr.ren1⟩
    · have e : putOut L x = (putAt L x L.length).1 ++ [x] := by rw [putOut, if_neg h2]
      simp only [Bool.not_eq_true] at h2
      simp only [go_sem, simprocAttr, h2, hb4]
      rw [e]
      refine ⟨fun j hj => (by have h3 := hrx.among1 j (by simpa using hj); simpa only [go_sem, simprocAttr] using h3), g + 1, 0, _, ?_, ?_, hrx.ren1⟩
      · simp
      · rw [Nat.zero_add, List.length_append, List.length_singleton]; simp only [go_sem, simprocAttr]
end Go.Fg.X
namespace Go.Fg.X
open Go.Proofs Go.Fg
set_option maxRecDepth 100000
set_option maxHeartbeats 4000000
set_option linter.unusedSimpArgs false
set_option linter.unusedVariables false
theorem rputc_ok (L : List Kls) (x : Kls) (hl : L.length < 1000000) : AFn Tryz.prog 53 [kls L, dkl x] (Ret (kls (putOut L x))) := freezeS (fun _ => rfl) (rput_ok L x hl)
theorem rupc_ok (L : List Kls) (id : Int) (hl : L.length < 1000000) : AFn Tryz.prog 52 [kls L, dint id] (Ret (ints (upF L 70 id))) := freezeS (fun _ => rfl) (rup_ok L id hl)
theorem rchildrenc_ok (L : List Kls) (id : Int) (hl : L.length < 1000000) : AFn Tryz.prog 54 [kls L, dint id] (Ret (ints (childC L id))) := freezeS (fun _ => rfl) (rchildren_ok L id hl)
/-- What comes of a class that is to be put. -/
def addRE (L : List Kls) (x : Kls) : Int :=
  if wrongV x ≠ 0 then wrongV x else if 0 ≤ findI L x.iD then 8 else if L.length = 64 then 5
  else if x.parent ≠ 0 ∧ (findI L x.parent < 0 ∨ ((findC L x.parent).getD default).leaf = true) then 23
  else if 1 < ofI x.ls ∧ sharesC L x.parent = false then 29 else if 16 ≤ (upF L 70 x.parent).length then 25 else 0
theorem rtadd_ok (L : List Kls) (x : Kls) (hl : L.length < 1000000) (hn : ∀ c ∈ L, c.Nn) (hx : x.Nn) : AFn Tryz.prog 23 [kls L, dkl x] (Ret (.agg [kls (if addRE L x = 0 then putOut L x else L), dint (addRE L x)])) := by
  have hw : wrongV x ≠ 0 ∨ wrongV x = 0 := by omega
  have hnn : ¬ ((-1 : Int) ≥ 0) := by omega
  have calls : True := trivial
  rcases findI_cases L x.parent with ⟨h1, h2⟩ | ⟨i, hi, h2, h1⟩
  · obtain ⟨E, hE⟩ : ∃ E, E = addRE L x := ⟨_, rfl⟩
    rw [← hE]
    rw [addRE, h1, h2] at hE
    refine AFn_hxk 0 cx_ok 200 Tryz.func23 rfl Tryz.ntmps23 Tryz.results23 rfl fun base w hb => ?_
    simp only [go_sem, simprocAttr]
    repeat' (first | ((first | refine hite_dec (fun h => ?_) (fun h => ?_) | refine hite_beq (fun h => ?_) (fun h => ?_) | refine hite_bne (fun h => ?_) (fun h => ?_) | refine hite_intro (fun h => ?_) (fun h => ?_) | refine hite_decA (fun h => ?_) (fun h => ?_) | refine hite_beqA (fun h => ?_) (fun h => ?_) | refine hite_bneA (fun h => ?_) (fun h => ?_) | refine hite_intro' (fun h => ?_) (fun h => ?_)) <;> (try simp only [go_sem, simprocAttr, Go.undef, h2])) | (refine And.intro (by first | assumption | omega) ?_; try simp only [go_sem, simprocAttr, Go.undef, h2]) | (refine kont_call hb fn49 rfl ?_ (wrong_ok x hx) (Ret.flat rfl) rfl ?_; (· simp only [go_sem, simprocAttr, Go.undef, h2]); intro d h hR; obtain ⟨rfl, rfl⟩ := hR; refine kont_of_hx cx_ok hb 200 ?_; simp only [go_sem, simprocAttr, Go.undef, h2]) | (refine kont_call hb fn50 rfl ?_ (rfind_ok L x.iD hl) (Ret.flat rfl) rfl ?_; (· simp only [go_sem, simprocAttr, Go.undef, h2]); intro d h hR; obtain ⟨rfl, rfl⟩ := hR; refine kont_of_hx cx_ok hb 200 ?_; simp only [go_sem, simprocAttr, Go.undef, h2]) | (refine kont_call hb fn50 rfl ?_ (rfind_ok L x.parent hl) (Ret.flat rfl) rfl ?_; (· simp only [go_sem, simprocAttr, Go.undef, h2]); intro d h hR; obtain ⟨rfl, rfl⟩ := hR; refine kont_of_hx cx_ok hb 200 ?_; simp only [go_sem, simprocAttr, Go.undef, h2]) | (refine kont_call hb fn26 rfl ?_ (rofcI_ok x.ls hx.2.1.1 hx.2.1.2.1 hx.2.1.2.2) (Ret.flat rfl) rfl ?_; (· simp only [go_sem, simprocAttr, Go.undef, h2]); intro d h hR; obtain ⟨rfl, rfl⟩ := hR; refine kont_of_hx cx_ok hb 200 ?_; simp only [go_sem, simprocAttr, Go.undef, h2]) | (refine kont_call hb fn51 rfl ?_ (rshares_ok L x.parent hl hn) (Ret.flat rfl) rfl ?_; (· simp only [go_sem, simprocAttr, Go.undef, h2]); intro d h hR; obtain ⟨rfl, rfl⟩ := hR; refine kont_of_hx cx_ok hb 200 ?_; simp only [go_sem, simprocAttr, Go.undef, h2]) | (refine kont_callM hb [] fn52 rfl ?_ (rupc_ok L x.parent hl) rfl ?_; (· simp only [go_sem, simprocAttr, Go.undef, h2]); intro d h hR; obtain ⟨rfl, rfl⟩ := hR; (simp only [go_sem, simprocAttr, Go.undef, h2]); refine kont_of_hx cx_ok hb 200 ?_; simp only [go_sem, simprocAttr, Go.undef, h2]) | (refine kont_callM hb [] fn53 rfl ?_ (rputc_ok L x hl) rfl ?_; (· simp only [go_sem, simprocAttr, Go.undef, h2]); intro d h hR; obtain ⟨rfl, rfl⟩ := hR; (simp only [go_sem, simprocAttr, Go.undef, h2]); refine kont_of_hx cx_ok hb 200 ?_; simp only [go_sem, simprocAttr, Go.undef, h2]) | fail)
    all_goals (have h64 : ((L.length : Int) = 64 ↔ L.length = 64) := by omega
               have h16 : (((upF L 70 x.parent).length : Int) ≥ 16 ↔ 16 ≤ (upF L 70 x.parent).length) := by omega
               have h17 : (((upF L 70 x.parent).length : Int) < 16 ↔ (upF L 70 x.parent).length < 16) := by omega
               simp_all)
  · obtain ⟨E, hE⟩ : ∃ E, E = addRE L x := ⟨_, rfl⟩
    rw [← hE]
    rw [addRE, h1, h2] at hE
    refine AFn_hxk 0 cx_ok 200 Tryz.func23 rfl Tryz.ntmps23 Tryz.results23 rfl fun base w hb => ?_
    simp only [go_sem, simprocAttr]
    repeat' (first | ((first | refine hite_dec (fun h => ?_) (fun h => ?_) | refine hite_beq (fun h => ?_) (fun h => ?_) | refine hite_bne (fun h => ?_) (fun h => ?_) | refine hite_intro (fun h => ?_) (fun h => ?_) | refine hite_decA (fun h => ?_) (fun h => ?_) | refine hite_beqA (fun h => ?_) (fun h => ?_) | refine hite_bneA (fun h => ?_) (fun h => ?_) | refine hite_intro' (fun h => ?_) (fun h => ?_)) <;> (try simp only [go_sem, simprocAttr, Go.undef, h2, hi])) | (refine And.intro (by first | assumption | omega) ?_; try simp only [go_sem, simprocAttr, Go.undef, h2, hi]) | (refine kont_call hb fn49 rfl ?_ (wrong_ok x hx) (Ret.flat rfl) rfl ?_; (· simp only [go_sem, simprocAttr, Go.undef, h2, hi]); intro d h hR; obtain ⟨rfl, rfl⟩ := hR; refine kont_of_hx cx_ok hb 200 ?_; simp only [go_sem, simprocAttr, Go.undef, h2, hi]) | (refine kont_call hb fn50 rfl ?_ (rfind_ok L x.iD hl) (Ret.flat rfl) rfl ?_; (· simp only [go_sem, simprocAttr, Go.undef, h2, hi]); intro d h hR; obtain ⟨rfl, rfl⟩ := hR; refine kont_of_hx cx_ok hb 200 ?_; simp only [go_sem, simprocAttr, Go.undef, h2, hi]) | (refine kont_call hb fn50 rfl ?_ (rfind_ok L x.parent hl) (Ret.flat rfl) rfl ?_; (· simp only [go_sem, simprocAttr, Go.undef, h2, hi]); intro d h hR; obtain ⟨rfl, rfl⟩ := hR; refine kont_of_hx cx_ok hb 200 ?_; simp only [go_sem, simprocAttr, Go.undef, h2, hi]) | (refine kont_call hb fn26 rfl ?_ (rofcI_ok x.ls hx.2.1.1 hx.2.1.2.1 hx.2.1.2.2) (Ret.flat rfl) rfl ?_; (· simp only [go_sem, simprocAttr, Go.undef, h2, hi]); intro d h hR; obtain ⟨rfl, rfl⟩ := hR; refine kont_of_hx cx_ok hb 200 ?_; simp only [go_sem, simprocAttr, Go.undef, h2, hi]) | (refine kont_call hb fn51 rfl ?_ (rshares_ok L x.parent hl hn) (Ret.flat rfl) rfl ?_; (· simp only [go_sem, simprocAttr, Go.undef, h2, hi]); intro d h hR; obtain ⟨rfl, rfl⟩ := hR; refine kont_of_hx cx_ok hb 200 ?_; simp only [go_sem, simprocAttr, Go.undef, h2, hi]) | (refine kont_callM hb [] fn52 rfl ?_ (rupc_ok L x.parent hl) rfl ?_; (· simp only [go_sem, simprocAttr, Go.undef, h2, hi]); intro d h hR; obtain ⟨rfl, rfl⟩ := hR; (simp only [go_sem, simprocAttr, Go.undef, h2, hi]); refine kont_of_hx cx_ok hb 200 ?_; simp only [go_sem, simprocAttr, Go.undef, h2, hi]) | (refine kont_callM hb [] fn53 rfl ?_ (rputc_ok L x hl) rfl ?_; (· simp only [go_sem, simprocAttr, Go.undef, h2, hi]); intro d h hR; obtain ⟨rfl, rfl⟩ := hR; (simp only [go_sem, simprocAttr, Go.undef, h2, hi]); refine kont_of_hx cx_ok hb 200 ?_; simp only [go_sem, simprocAttr, Go.undef, h2, hi]) | fail)
    all_goals (have h64 : ((L.length : Int) = 64 ↔ L.length = 64) := by omega
               have h16 : (((upF L 70 x.parent).length : Int) ≥ 16 ↔ 16 ≤ (upF L 70 x.parent).length) := by omega
               have h17 : (((upF L 70 x.parent).length : Int) < 16 ↔ (upF L 70 x.parent).length < 16) := by omega
               simp_all)
end Go.Fg.X
namespace Go.Fg.X
open Go.Proofs Go.Fg
set_option maxRecDepth 100000
set_option maxHeartbeats 4000000
set_option linter.unusedSimpArgs false
set_option linter.unusedVariables false
def delRE (L : List Kls) (id : Int) : Int := if findI L id < 0 then 6 else if childC L id ≠ [] then 23 else 0
theorem takeF_succ {α : Type} [Inhabited α] (L : List α) (g : α → Bool) (i : Nat) (h : i < L.length) : (L.take (i + 1)).filter g = if g (L.getD i default) = true then (L.take i).filter g ++ [L.getD i default] else (L.take i).filter g := by
  rw [List.take_add_one, List.getElem?_eq_getElem h]
  simp only [Option.toList_some, List.filter_append, List.getD_eq_getElem?_getD, List.getElem?_eq_getElem h, Option.getD_some]
  by_cases hg : g L[i] = true
  · rw [if_pos hg, List.filter_cons_of_pos hg]; rfl
  · rw [if_neg hg, List.filter_cons_of_neg hg]; simp
theorem takeF_len {α : Type} (L : List α) (g : α → Bool) (i : Nat) : ((L.take i).filter g).length ≤ i := by
  have := List.length_filter_le g (L.take i)
  simp at this; omega
theorem rtdel_ok (L : List Kls) (id : Int) (hl : L.length < 1000000) : AFn Tryz.prog 24 [kls L, dint id] (Ret (.agg [kls (if delRE L id = 0 then delC L id else L), dint (delRE L id)])) := by
  by_cases h1 : findI L id < 0
  · have e : delRE L id = 6 := by rw [delRE, if_pos h1]
    rw [e]
    refine AFn_hxk 0 cx_ok 200 Tryz.func24 rfl Tryz.ntmps24 Tryz.results24 rfl fun base w hb => ?_
    simp only [go_sem, Nat.reduceAdd, Nat.reduceSub, Nat.reduceMul, Nat.reduceBEq, Nat.reduceLT, Nat.reduceLeDiff, Nat.reduceEqDiff, Int.reduceToNat, Int.reduceLE, Int.reduceLT, Int.reduceAdd, Int.reduceSub, Int.reduceNeg, Int.reduceBEq, Int.reduceBNe, Nat.reduceBNe, Nat.reduceDiv, Nat.reduceMod]
    refine kont_call hb fn50 rfl ?_ (rfind_ok L id hl) (Ret.flat rfl) rfl fun d h hR => ?_
    · simp only [go_sem, Nat.reduceAdd, Nat.reduceSub, Nat.reduceMul, Nat.reduceBEq, Nat.reduceLT, Nat.reduceLeDiff, Nat.reduceEqDiff, Int.reduceToNat, Int.reduceLE, Int.reduceLT, Int.reduceAdd, Int.reduceSub, Int.reduceNeg, Int.reduceBEq, Int.reduceBNe, Nat.reduceBNe, Nat.reduceDiv, Nat.reduceMod, decide_eq_true h1]
    obtain ⟨rfl, rfl⟩ := hR
    refine kont_of_hx cx_ok hb 200 ?_
    simp only [go_sem, Nat.reduceAdd, Nat.reduceSub, Nat.reduceMul, Nat.reduceBEq, Nat.reduceLT, Nat.reduceLeDiff, Nat.reduceEqDiff, Int.reduceToNat, Int.reduceLE, Int.reduceLT, Int.reduceAdd, Int.reduceSub, Int.reduceNeg, Int.reduceBEq, Int.reduceBNe, Nat.reduceBNe, Nat.reduceDiv, Nat.reduceMod, decide_eq_true h1]
    rfl
  · by_cases h2 : childC L id = []
    · have e : delRE L id = 0 := by rw [delRE, if_neg h1, if_neg (by simpa using h2)]
      rw [e]
      refine freezeSN (sz := 14) (enc := Kls.cells) (L := if (0 : Int) = 0 then delC L id else L) (v := .int .i64 0) (fun _ => rfl) ?_
      refine AFn_hxs [1] rfl cx_ok 200 Tryz.func24 rfl Tryz.ntmps24 Tryz.results24 rfl fun base w hb => ?_
      simp only [go_sem, Nat.reduceAdd, Nat.reduceSub, Nat.reduceMul, Nat.reduceBEq, Nat.reduceLT, Nat.reduceLeDiff, Nat.reduceEqDiff, Int.reduceToNat, Int.reduceLE, Int.reduceLT, Int.reduceAdd, Int.reduceSub, Int.reduceNeg, Int.reduceBEq, Int.reduceBNe, Nat.reduceBNe, Nat.reduceDiv, Nat.reduceMod]
      refine kont_call hb fn50 rfl ?_ (rfind_ok L id hl) (Ret.flat rfl) rfl fun d h hR => ?_
      · simp only [go_sem, Nat.reduceAdd, Nat.reduceSub, Nat.reduceMul, Nat.reduceBEq, Nat.reduceLT, Nat.reduceLeDiff, Nat.reduceEqDiff, Int.reduceToNat, Int.reduceLE, Int.reduceLT, Int.reduceAdd, Int.reduceSub, Int.reduceNeg, Int.reduceBEq, Int.reduceBNe, Nat.reduceBNe, Nat.reduceDiv, Nat.reduceMod, decide_eq_false h1]
      obtain ⟨rfl, rfl⟩ := hR
      refine kont_of_hx cx_ok hb 200 ?_
      simp only [go_sem, Nat.reduceAdd, Nat.reduceSub, Nat.reduceMul, Nat.reduceBEq, Nat.reduceLT, Nat.reduceLeDiff, Nat.reduceEqDiff, Int.reduceToNat, Int.reduceLE, Int.reduceLT, Int.reduceAdd, Int.reduceSub, Int.reduceNeg, Int.reduceBEq, Int.reduceBNe, Nat.reduceBNe, Nat.reduceDiv, Nat.reduceMod, decide_eq_false h1]
      refine kont_callM hb [] fn54 rfl ?_ (rchildrenc_ok L id hl) rfl fun d h hR => ?_
      · simp only [go_sem, Nat.reduceAdd, Nat.reduceSub, Nat.reduceMul, Nat.reduceBEq, Nat.reduceLT, Nat.reduceLeDiff, Nat.reduceEqDiff, Int.reduceToNat, Int.reduceLE, Int.reduceLT, Int.reduceAdd, Int.reduceSub, Int.reduceNeg, Int.reduceBEq, Int.reduceBNe, Nat.reduceBNe, Nat.reduceDiv, Nat.reduceMod, h2]
      obtain ⟨rfl, rfl⟩ := hR
      simp only [go_sem, Nat.reduceAdd, Nat.reduceSub, Nat.reduceMul, Nat.reduceBEq, Nat.reduceLT, Nat.reduceLeDiff, Nat.reduceEqDiff, Int.reduceToNat, Int.reduceLE, Int.reduceLT, Int.reduceAdd, Int.reduceSub, Int.reduceNeg, Int.reduceBEq, Int.reduceBNe, Nat.reduceBNe, Nat.reduceDiv, Nat.reduceMod, h2]
      refine kont_of_hx cx_ok hb 200 ?_
      simp only [go_sem, Nat.reduceAdd, Nat.reduceSub, Nat.reduceMul, Nat.reduceBEq, Nat.reduceLT, Nat.reduceLeDiff, Nat.reduceEqDiff, Int.reduceToNat, Int.reduceLE, Int.reduceLT, Int.reduceAdd, Int.reduceSub, Int.reduceNeg, Int.reduceBEq, Int.reduceBNe, Nat.reduceBNe, Nat.reduceDiv, Nat.reduceMod, h2]
      obtain ⟨g, hg⟩ : ∃ g : Kls → Bool, g = fun c => c.iD != id := ⟨_, rfl⟩
      have hdel : delC L id = (L.take L.length).filter g := by rw [List.take_length, hg]; rfl
      rw [if_pos trivial, hdel]
      refine kont_for (fun i s => ∃ gn off row, RowsAt Kls.cells ((L.take i).filter g) off row ∧ s = ⟨[(1, dint id), (4, .ptr 0 0 0 0), (5, .ref 1 gn off ((L.take i).filter g).length), (21, kls L), (22, dint L.length), (23, dint i)], [⟨.one, 0, 2, 1, fun _ => [.nil, dint 0]⟩, ⟨.arr, gn, 14, off + ((L.take i).filter g).length, row⟩]⟩) L.length
        (s0 := ⟨[(1, dint id), (4, .ptr 0 0 0 0), (5, .ref 1 0 0 0), (21, kls L), (22, dint L.length), (23, dint 0)], [⟨.one, 0, 2, 1, fun _ => [.nil, dint 0]⟩, ⟨.arr, 0, 14, 0, fun _ => []⟩]⟩)
        (Weak.trans (Weak.phantom 5 14 (fun i => []) rfl) (Weak.to 2 (by (simp only [go_sem, Nat.reduceAdd, Nat.reduceSub, Nat.reduceMul, Nat.reduceBEq, Nat.reduceLT, Nat.reduceLeDiff, Nat.reduceEqDiff, Int.reduceToNat, Int.reduceLE, Int.reduceLT, Int.reduceAdd, Int.reduceSub, Int.reduceNeg, Int.reduceBEq, Int.reduceBNe, Nat.reduceBNe, Nat.reduceDiv, Nat.reduceMod]) <;> simp))) ⟨0, 0, fun _ => [], .nil, rfl⟩ ?_
      rintro i s hi ⟨gn, off, row, hr, rfl⟩
      have hcl := takeF_len L g i
      have hwr := wrap_succ (show i < 4611686018427387904 by omega)
      refine kont_of_hx cx_ok hb 200 ?_
      simp only [go_sem, Nat.reduceAdd, Nat.reduceSub, Nat.reduceMul, Nat.reduceBEq, Nat.reduceLT, Nat.reduceLeDiff, Nat.reduceEqDiff, Int.reduceToNat, Int.reduceLE, Int.reduceLT, Int.reduceAdd, Int.reduceSub, Int.reduceNeg, Int.reduceBEq, Int.reduceBNe, Nat.reduceBNe, Nat.reduceDiv, Nat.reduceMod]
      first | refine hite_lt hi (fun hk1 => ?_) (fun hk1 => ?_) | refine hite_ltI hi (fun hk1 => ?_) (fun hk1 => ?_)
      · have hst := takeF_succ L g i hk1
        obtain ⟨M, hM⟩ : ∃ M, M = (L.take i).filter g := ⟨_, rfl⟩
        obtain ⟨c, he⟩ : ∃ e, e = L.getD i default := ⟨_, rfl⟩
        rw [← hM, ← he] at hst
        rw [← hM] at hr hcl ⊢
        simp only [go_sem, Nat.reduceAdd, Nat.reduceSub, Nat.reduceMul, Nat.reduceBEq, Nat.reduceLT, Nat.reduceLeDiff, Nat.reduceEqDiff, Int.reduceToNat, Int.reduceLE, Int.reduceLT, Int.reduceAdd, Int.reduceSub, Int.reduceNeg, Int.reduceBEq, Int.reduceBNe, Nat.reduceBNe, Nat.reduceDiv, Nat.reduceMod, hk1, ← he]
        by_cases hc : c.iD = id
        · rw [if_neg (by rw [hg]; simpa using hc)] at hst
          simp only [go_sem, Nat.reduceAdd, Nat.reduceSub, Nat.reduceMul, Nat.reduceBEq, Nat.reduceLT, Nat.reduceLeDiff, Nat.reduceEqDiff, Int.reduceToNat, Int.reduceLE, Int.reduceLT, Int.reduceAdd, Int.reduceSub, Int.reduceNeg, Int.reduceBEq, Int.reduceBNe, Nat.reduceBNe, Nat.reduceDiv, Nat.reduceMod, beqT hc, bne]
          repeat (refine And.intro (by omega) ?_)
          refine ⟨_, Weak.to 2 ⟨?_, by simp only [go_sem, Nat.reduceAdd, Nat.reduceSub, Nat.reduceMul, Nat.reduceBEq, Nat.reduceLT, Nat.reduceLeDiff, Nat.reduceEqDiff, Int.reduceToNat, Int.reduceLE, Int.reduceLT, Int.reduceAdd, Int.reduceSub, Int.reduceNeg, Int.reduceBEq, Int.reduceBNe, Nat.reduceBNe, Nat.reduceDiv, Nat.reduceMod], ?_, ?_⟩, gn, off, _, by rw [hst]; exact hr, rfl⟩
          · simp only [go_sem, Nat.reduceAdd, Nat.reduceSub, Nat.reduceMul, Nat.reduceBEq, Nat.reduceLT, Nat.reduceLeDiff, Nat.reduceEqDiff, Int.reduceToNat, Int.reduceLE, Int.reduceLT, Int.reduceAdd, Int.reduceSub, Int.reduceNeg, Int.reduceBEq, Int.reduceBNe, Nat.reduceBNe, Nat.reduceDiv, Nat.reduceMod, hwr, hst, List.length_append, List.length_singleton]
          · exact ⟨fun j _ => rfl, fun j hj => (hr).upto (fun a => rfl) j (by have hj2 := hj; simp only [hst] at hj2; simpa using hj2), trivial⟩
          · simp only [go_sem, Nat.reduceAdd, Nat.reduceSub, Nat.reduceMul, Nat.reduceBEq, Nat.reduceLT, Nat.reduceLeDiff, Nat.reduceEqDiff, Int.reduceToNat, Int.reduceLE, Int.reduceLT, Int.reduceAdd, Int.reduceSub, Int.reduceNeg, Int.reduceBEq, Int.reduceBNe, Nat.reduceBNe, Nat.reduceDiv, Nat.reduceMod, hst, List.length_append, List.length_singleton]
        · rw [if_pos (by rw [hg]; simpa using hc)] at hst
          have hb4 : M.length ≤ 4294967295 := by omega
          have hr2 : RowsAt Kls.cells (M ++ [c]) 0 (appRow M.length off row fun _ => c.cells) := hr.app c rfl
          simp only [go_sem, Nat.reduceAdd, Nat.reduceSub, Nat.reduceMul, Nat.reduceBEq, Nat.reduceLT, Nat.reduceLeDiff, Nat.reduceEqDiff, Int.reduceToNat, Int.reduceLE, Int.reduceLT, Int.reduceAdd, Int.reduceSub, Int.reduceNeg, Int.reduceBEq, Int.reduceBNe, Nat.reduceBNe, Nat.reduceDiv, Nat.reduceMod, beqF hc, bne, hb4]
          repeat (refine And.intro (by omega) ?_)
          refine ⟨_, Weak.to 2 ⟨?_, by simp only [go_sem, Nat.reduceAdd, Nat.reduceSub, Nat.reduceMul, Nat.reduceBEq, Nat.reduceLT, Nat.reduceLeDiff, Nat.reduceEqDiff, Int.reduceToNat, Int.reduceLE, Int.reduceLT, Int.reduceAdd, Int.reduceSub, Int.reduceNeg, Int.reduceBEq, Int.reduceBNe, Nat.reduceBNe, Nat.reduceDiv, Nat.reduceMod], ?_, ?_⟩, (gn+1), 0, _, by rw [hst]; exact hr2, rfl⟩
          · simp only [go_sem, Nat.reduceAdd, Nat.reduceSub, Nat.reduceMul, Nat.reduceBEq, Nat.reduceLT, Nat.reduceLeDiff, Nat.reduceEqDiff, Int.reduceToNat, Int.reduceLE, Int.reduceLT, Int.reduceAdd, Int.reduceSub, Int.reduceNeg, Int.reduceBEq, Int.reduceBNe, Nat.reduceBNe, Nat.reduceDiv, Nat.reduceMod, hwr, hst, List.length_append, List.length_singleton]
          · exact ⟨fun j _ => rfl, fun j hj => (hr2).upto (fun a => rfl) j (by have hj2 := hj; simp only [hst] at hj2; simpa using hj2), trivial⟩
          · simp only [go_sem, Nat.reduceAdd, Nat.reduceSub, Nat.reduceMul, Nat.reduceBEq, Nat.reduceLT, Nat.reduceLeDiff, Nat.reduceEqDiff, Int.reduceToNat, Int.reduceLE, Int.reduceLT, Int.reduceAdd, Int.reduceSub, Int.reduceNeg, Int.reduceBEq, Int.reduceBNe, Nat.reduceBNe, Nat.reduceDiv, Nat.reduceMod, hst, List.length_append, List.length_singleton]
      · have h1 : i = L.length := by omega
        subst h1
        refine kont_of_hx cx_ok hb 200 ?_
        simp only [go_sem, Nat.reduceAdd, Nat.reduceSub, Nat.reduceMul, Nat.reduceBEq, Nat.reduceLT, Nat.reduceLeDiff, Nat.reduceEqDiff, Int.reduceToNat, Int.reduceLE, Int.reduceLT, Int.reduceAdd, Int.reduceSub, Int.reduceNeg, Int.reduceBEq, Int.reduceBNe, Nat.reduceBNe, Nat.reduceDiv, Nat.reduceMod]
        exact ⟨hr.among1, gn, off, _, rfl, rfl, hr.ren1⟩
    · have e : delRE L id = 23 := by rw [delRE, if_neg h1, if_pos h2]
      have hpos : (((childC L id).length : Int) > 0) := by have := List.length_pos_iff.2 h2; omega
      have hpos2 : 0 < (childC L id).length := List.length_pos_iff.2 h2
      rw [e]
      refine AFn_hxk 0 cx_ok 200 Tryz.func24 rfl Tryz.ntmps24 Tryz.results24 rfl fun base w hb => ?_
      simp only [go_sem, Nat.reduceAdd, Nat.reduceSub, Nat.reduceMul, Nat.reduceBEq, Nat.reduceLT, Nat.reduceLeDiff, Nat.reduceEqDiff, Int.reduceToNat, Int.reduceLE, Int.reduceLT, Int.reduceAdd, Int.reduceSub, Int.reduceNeg, Int.reduceBEq, Int.reduceBNe, Nat.reduceBNe, Nat.reduceDiv, Nat.reduceMod]
      refine kont_call hb fn50 rfl ?_ (rfind_ok L id hl) (Ret.flat rfl) rfl fun d h hR => ?_
      · simp only [go_sem, Nat.reduceAdd, Nat.reduceSub, Nat.reduceMul, Nat.reduceBEq, Nat.reduceLT, Nat.reduceLeDiff, Nat.reduceEqDiff, Int.reduceToNat, Int.reduceLE, Int.reduceLT, Int.reduceAdd, Int.reduceSub, Int.reduceNeg, Int.reduceBEq, Int.reduceBNe, Nat.reduceBNe, Nat.reduceDiv, Nat.reduceMod, decide_eq_false h1]
      obtain ⟨rfl, rfl⟩ := hR
      refine kont_of_hx cx_ok hb 200 ?_
      simp only [go_sem, Nat.reduceAdd, Nat.reduceSub, Nat.reduceMul, Nat.reduceBEq, Nat.reduceLT, Nat.reduceLeDiff, Nat.reduceEqDiff, Int.reduceToNat, Int.reduceLE, Int.reduceLT, Int.reduceAdd, Int.reduceSub, Int.reduceNeg, Int.reduceBEq, Int.reduceBNe, Nat.reduceBNe, Nat.reduceDiv, Nat.reduceMod, decide_eq_false h1]
      refine kont_callM hb [] fn54 rfl ?_ (rchildrenc_ok L id hl) rfl fun d h hR => ?_
      · simp only [go_sem, Nat.reduceAdd, Nat.reduceSub, Nat.reduceMul, Nat.reduceBEq, Nat.reduceLT, Nat.reduceLeDiff, Nat.reduceEqDiff, Int.reduceToNat, Int.reduceLE, Int.reduceLT, Int.reduceAdd, Int.reduceSub, Int.reduceNeg, Int.reduceBEq, Int.reduceBNe, Nat.reduceBNe, Nat.reduceDiv, Nat.reduceMod, decide_eq_true hpos, decide_eq_true hpos2, hpos2]
      obtain ⟨rfl, rfl⟩ := hR
      simp only [go_sem, Nat.reduceAdd, Nat.reduceSub, Nat.reduceMul, Nat.reduceBEq, Nat.reduceLT, Nat.reduceLeDiff, Nat.reduceEqDiff, Int.reduceToNat, Int.reduceLE, Int.reduceLT, Int.reduceAdd, Int.reduceSub, Int.reduceNeg, Int.reduceBEq, Int.reduceBNe, Nat.reduceBNe, Nat.reduceDiv, Nat.reduceMod, decide_eq_true hpos, decide_eq_true hpos2, hpos2]
      refine kont_of_hx cx_ok hb 200 ?_
      simp only [go_sem, Nat.reduceAdd, Nat.reduceSub, Nat.reduceMul, Nat.reduceBEq, Nat.reduceLT, Nat.reduceLeDiff, Nat.reduceEqDiff, Int.reduceToNat, Int.reduceLE, Int.reduceLT, Int.reduceAdd, Int.reduceSub, Int.reduceNeg, Int.reduceBEq, Int.reduceBNe, Nat.reduceBNe, Nat.reduceDiv, Nat.reduceMod, decide_eq_true hpos, decide_eq_true hpos2, hpos2]
      rfl
end Go.Fg.X
namespace Go.Fg.X
open Go.Proofs Go.Fg
set_option maxRecDepth 100000
set_option maxHeartbeats 4000000
set_option linter.unusedSimpArgs false
set_option linter.unusedVariables false
/-- What comes of a class that is to be put in the place of another one. -/
def setRE (L : List Kls) (x : Kls) : Int :=
  if wrongV x ≠ 0 then wrongV x else if findI L x.iD < 0 then 6
  else if ¬ (((findC L x.iD).getD default).parent = x.parent ∧ ((findC L x.iD).getD default).leaf = x.leaf) then 1
  else if 1 < ofI x.ls ∧ sharesC L x.parent = false then 29
  else if ¬ 1 < ofI x.ls ∧ ((childC L x.iD).any fun id => sharesC L id) = true then 29 else 0
theorem any_take (l : List Int) (p : Int → Bool) : ∀ i, i ≤ l.length → ((∀ k, k < i → p (l.getD k 0) = false) ↔ (l.take i).any p = false)
  | 0, _ => by simp
  | i + 1, h => by
    have ih := any_take l p i (by omega)
    have hi : i < l.length := by omega
    rw [List.take_add_one, List.getElem?_eq_getElem hi, List.any_append, Bool.or_eq_false_iff, ← ih]
    simp only [Option.toList_some, List.any_cons, List.any_nil, Bool.or_false]
    constructor
    · intro h1
      refine ⟨fun k hk => h1 k (by omega), ?_⟩
      have := h1 i (by omega)
      simpa [List.getD_eq_getElem?_getD, hi] using this
    · rintro ⟨h1, h2⟩ k hk
      rcases Nat.lt_or_ge k i with h3 | h3
      · exact h1 k h3
      · have : k = i := by omega
        subst this
        simpa [List.getD_eq_getElem?_getD, hi] using h2
theorem rtset_ok (L : List Kls) (x : Kls) (hl : L.length < 1000000) (hn : ∀ c ∈ L, c.Nn) (hx : x.Nn) : AFn Tryz.prog 25 [kls L, dkl x] (Ret (.agg [kls (if setRE L x = 0 then putOut L x else L), dint (setRE L x)])) := by
  obtain ⟨E, hE⟩ : ∃ E, E = setRE L x := ⟨_, rfl⟩
  rw [← hE]
  obtain ⟨Cs, hCs⟩ : ∃ Cs, Cs = childC L x.iD := ⟨_, rfl⟩
  have hcl : Cs.length ≤ L.length := by rw [hCs, childC]; simp; exact List.length_filter_le _ _
  rw [setRE, ← hCs] at hE
  rcases findI_cases L x.iD with ⟨h1, h2⟩ | ⟨i, hi, h2, h1⟩
  · rw [h2] at hE
    refine AFn_hxk 0 cx_ok 200 Tryz.func25 rfl Tryz.ntmps25 Tryz.results25 rfl fun base w hb => ?_
    simp only [go_sem, simprocAttr]
    repeat' (first | ((first | refine hite_dec (fun h => ?_) (fun h => ?_) | refine hite_beq (fun h => ?_) (fun h => ?_) | refine hite_bne (fun h => ?_) (fun h => ?_) | refine hite_intro (fun h => ?_) (fun h => ?_) | refine hite_decA (fun h => ?_) (fun h => ?_) | refine hite_beqA (fun h => ?_) (fun h => ?_) | refine hite_bneA (fun h => ?_) (fun h => ?_) | refine hite_intro' (fun h => ?_) (fun h => ?_)) <;> (try simp only [go_sem, simprocAttr, Go.undef, h2])) | (refine And.intro (by first | assumption | omega) ?_; try simp only [go_sem, simprocAttr, Go.undef, h2]) | (refine kont_call hb fn49 rfl ?_ (wrong_ok x hx) (Ret.flat rfl) rfl ?_; (· simp only [go_sem, simprocAttr, Go.undef, h2]); intro d h hR; obtain ⟨rfl, rfl⟩ := hR; refine kont_of_hx cx_ok hb 200 ?_; simp only [go_sem, simprocAttr, Go.undef, h2]) | (refine kont_call hb fn50 rfl ?_ (rfind_ok L x.iD hl) (Ret.flat rfl) rfl ?_; (· simp only [go_sem, simprocAttr, Go.undef, h2]); intro d h hR; obtain ⟨rfl, rfl⟩ := hR; refine kont_of_hx cx_ok hb 200 ?_; simp only [go_sem, simprocAttr, Go.undef, h2]) | fail)
    all_goals simp_all
  · rw [h2, h1] at hE
    obtain ⟨was, hwas⟩ : ∃ was, was = L.getD i default := ⟨_, rfl⟩
    rw [← hwas, Option.getD_some] at hE
    have hany : ∀ j, j < Cs.length → sharesC L (Cs.getD j 0) = true → (Cs.any fun id => sharesC L id) = true := fun j hj hs => List.any_eq_true.2 ⟨Cs.getD j 0, by rw [List.getD_eq_getElem?_getD, List.getElem?_eq_getElem hj]; exact List.getElem_mem hj, hs⟩
    have hfin : (∀ k, k < Cs.length → (!decide (1 < ofI x.ls) && sharesC L (Cs.getD k 0)) = false) → ¬ (¬ 1 < ofI x.ls ∧ (Cs.any fun id => sharesC L id) = true) := by
      rintro h ⟨h3, h4⟩
      have h5 := (any_take Cs (fun id => sharesC L id) Cs.length (Nat.le_refl _)).1 fun k hk => by
        have := h k hk
        rw [decide_eq_false h3] at this
        simpa using this
      rw [List.take_length, h4] at h5; cases h5
    refine AFn_hxk 0 cx_ok 200 Tryz.func25 rfl Tryz.ntmps25 Tryz.results25 rfl fun base w hb => ?_
    simp only [go_sem, simprocAttr]
    repeat' (first | ((first | refine hite_dec (fun h => ?_) (fun h => ?_) | refine hite_beq (fun h => ?_) (fun h => ?_) | refine hite_bne (fun h => ?_) (fun h => ?_) | refine hite_intro (fun h => ?_) (fun h => ?_) | refine hite_decA (fun h => ?_) (fun h => ?_) | refine hite_beqA (fun h => ?_) (fun h => ?_) | refine hite_bneA (fun h => ?_) (fun h => ?_) | refine hite_intro' (fun h => ?_) (fun h => ?_)) <;> (try simp only [go_sem, simprocAttr, Go.undef, h2, hi, ← hwas])) | (refine And.intro (by first | assumption | omega) ?_; try simp only [go_sem, simprocAttr, Go.undef, h2, hi, ← hwas]) | (refine kont_call hb fn49 rfl ?_ (wrong_ok x hx) (Ret.flat rfl) rfl ?_; (· simp only [go_sem, simprocAttr, Go.undef, h2, hi, ← hwas]); intro d h hR; obtain ⟨rfl, rfl⟩ := hR; refine kont_of_hx cx_ok hb 200 ?_; simp only [go_sem, simprocAttr, Go.undef, h2, hi, ← hwas]) | (refine kont_call hb fn50 rfl ?_ (rfind_ok L x.iD hl) (Ret.flat rfl) rfl ?_; (· simp only [go_sem, simprocAttr, Go.undef, h2, hi, ← hwas]); intro d h hR; obtain ⟨rfl, rfl⟩ := hR; refine kont_of_hx cx_ok hb 200 ?_; simp only [go_sem, simprocAttr, Go.undef, h2, hi, ← hwas]) | (refine kont_hax cx_ok hb 200 mixed [(0, true), (1, true), (2, true), (3, true), (4, true), (5, true), (6, true), (7, true), (8, true), (9, true), (10, true), (11, true), (12, true), (13, true), (14, true), (15, true), (16, true), (17, true)] ?_ ?_ ?_; (· kernel_rfl); (· kernel_rfl); simp only [go_sem, simprocAttr, Go.undef, h2, hi, ← hwas]) | (refine kont_call hb fn26 rfl ?_ (rofcI_ok x.ls hx.2.1.1 hx.2.1.2.1 hx.2.1.2.2) (Ret.flat rfl) rfl ?_; (· simp only [go_sem, simprocAttr, Go.undef, h2, hi, ← hwas]); intro d h hR; obtain ⟨rfl, rfl⟩ := hR; refine kont_of_hx cx_ok hb 200 ?_; simp only [go_sem, simprocAttr, Go.undef, h2, hi, ← hwas]) | (refine kont_call hb fn51 rfl ?_ (rshares_ok L x.parent hl hn) (Ret.flat rfl) rfl ?_; (· simp only [go_sem, simprocAttr, Go.undef, h2, hi, ← hwas]); intro d h hR; obtain ⟨rfl, rfl⟩ := hR; refine kont_of_hx cx_ok hb 200 ?_; simp only [go_sem, simprocAttr, Go.undef, h2, hi, ← hwas]) | (refine kont_callM hb [] fn54 rfl ?_ (hCs ▸ rchildrenc_ok L x.iD hl) rfl ?_; (· simp only [go_sem, simprocAttr, Go.undef, h2, hi, ← hwas]); intro d h hR; obtain ⟨rfl, rfl⟩ := hR; (simp only [go_sem, simprocAttr, Go.undef, h2, hi, ← hwas]); refine kont_of_hx cx_ok hb 200 ?_; simp only [go_sem, simprocAttr, Go.undef, h2, hi, ← hwas]) | fail)
    all_goals try (simp_all; done)
    all_goals
      refine kont_for (fun j s => (∀ k, k < j → (!decide (1 < ofI x.ls) && sharesC L (Cs.getD k 0)) = false) ∧ s = ⟨[(0, kls L), (3, .ptr 0 0 0 0), (4, .ptr 1 0 0 0), (7, dbool (decide (1 < ofI x.ls))), (62, ints Cs), (63, dint Cs.length), (64, dint j)], [⟨.one, 0, 14, 1, fun _ => x.cells⟩, ⟨.one, 0, 2, 1, fun _ => [.nil, dint 0]⟩]⟩) Cs.length (Weak.to 2 (by (simp only [go_sem, simprocAttr]) <;> simp)) ⟨fun k hk => by omega, rfl⟩ ?_
      rintro j s hj ⟨hno, rfl⟩
      have hwr := wrap_succ (show j < 4611686018427387904 by omega)
      refine kont_of_hx cx_ok hb 200 ?_
      simp only [go_sem, simprocAttr]
      first | refine hite_lt hj (fun hk1 => ?_) (fun hk1 => ?_) | refine hite_ltI hj (fun hk1 => ?_) (fun hk1 => ?_)
      · simp only [go_sem, simprocAttr, hk1]
        repeat' (first | ((first | refine hite_dec (fun h => ?_) (fun h => ?_) | refine hite_beq (fun h => ?_) (fun h => ?_) | refine hite_bne (fun h => ?_) (fun h => ?_) | refine hite_intro (fun h => ?_) (fun h => ?_) | refine hite_decA (fun h => ?_) (fun h => ?_) | refine hite_beqA (fun h => ?_) (fun h => ?_) | refine hite_bneA (fun h => ?_) (fun h => ?_) | refine hite_intro' (fun h => ?_) (fun h => ?_)) <;> (try simp only [go_sem, simprocAttr, Go.undef])) | (refine And.intro (by first | assumption | omega) ?_; try simp only [go_sem, simprocAttr, Go.undef]) | (refine kont_call hb fn51 rfl ?_ (rshares_ok L (Cs.getD j 0) hl hn) (Ret.flat rfl) rfl ?_; (· simp only [go_sem, simprocAttr, Go.undef]); intro d h hR; obtain ⟨rfl, rfl⟩ := hR; refine kont_of_hx cx_ok hb 200 ?_; simp only [go_sem, simprocAttr, Go.undef]) | fail)
        all_goals first
          | (refine ⟨_, Weak.to 2 (by (simp only [go_sem, simprocAttr, hwr]) <;> simp), fun k hk => ?_, rfl⟩; rcases Nat.lt_succ_iff_lt_or_eq.1 hk with h3 | rfl; (· exact hno k h3); (· simp_all; done))
          | (have h3 := hany j hk1; simp_all; done)
      · subst hk1
        have h3 := hfin hno
        have h4 : E = 0 := by simp_all
        clear hfin hno hany
        refine kont_of_hx cx_ok hb 200 ?_
        simp only [go_sem, simprocAttr]
        repeat' (first | ((first | refine hite_dec (fun h => ?_) (fun h => ?_) | refine hite_beq (fun h => ?_) (fun h => ?_) | refine hite_bne (fun h => ?_) (fun h => ?_) | refine hite_intro (fun h => ?_) (fun h => ?_) | refine hite_decA (fun h => ?_) (fun h => ?_) | refine hite_beqA (fun h => ?_) (fun h => ?_) | refine hite_bneA (fun h => ?_) (fun h => ?_) | refine hite_intro' (fun h => ?_) (fun h => ?_)) <;> (try simp only [go_sem, simprocAttr, Go.undef, h4])) | (refine And.intro (by first | assumption | omega) ?_; try simp only [go_sem, simprocAttr, Go.undef, h4]) | (refine kont_callM hb [] fn53 rfl ?_ (rputc_ok L x hl) rfl ?_; (· simp only [go_sem, simprocAttr, Go.undef, h4]); intro d h hR; obtain ⟨rfl, rfl⟩ := hR; (simp only [go_sem, simprocAttr, Go.undef, h4]); refine kont_of_hx cx_ok hb 200 ?_; simp only [go_sem, simprocAttr, Go.undef, h4]) | fail)
        all_goals (first | rfl | (simp_all; done))
end Go.Fg.X
namespace Go.Fg.X
open Go.Proofs Go.Fg
set_option maxRecDepth 100000
set_option maxHeartbeats 4000000
set_option linter.unusedSimpArgs false
set_option linter.unusedVariables false
section
variable (h : List Ob) (l : List Int) (lo gn off : Nat) (row : Nat → List D) (hlen : l.length < 1000000) (ho : h[lo]? = some ⟨.arr, gn, 1, off + l.length, row⟩) (hr : ∀ i, i < l.length → row (off + i) = [dint (l.getD i 0)])
include hlen ho hr
end
end Go.Fg.X
namespace Go.Fg.X
open Go.Proofs Go.Fg
set_option maxRecDepth 100000
set_option maxHeartbeats 4000000
set_option linter.unusedSimpArgs false
set_option linter.unusedVariables false
section
variable (h : List Ob) (t m c : Nat) {es : List Ent} {L : List Kls} (T : TreeIs es L) (hlen : L.length < 1000000)
  (ht : (h.map Ob.ro)[t]? = some ⟨.rone, 0, 1, 1, fun _ => [.mref m 0]⟩) (hm : (h.map Ob.ro)[m]? = some (mapOb .i64 c es).ro)
include T ht hm hlen
end
end Go.Fg.X
