/- Walks of the functions that the statement reaches. No conditions: contracts and laws. -/
import Derived.Test.YtoenkapnfbcjeaaXM2b
namespace Go.Fg.X
open Go.Proofs Go.Fg
set_option maxRecDepth 100000
set_option maxHeartbeats 4000000
set_option linter.unusedSimpArgs false
set_option linter.unusedVariables false
def badL (m : Nat) (L : List Nat) (q : Nat) (lm : Int) : Prop := 64 < L.length ∨ L.any (fun x => !SL x) = true ∨ L.any (fun x => x == m) = false ∨ 1099511627776 < q ∨ lm < 1 ∨ 16384 < lm
instance (m : Nat) (L : List Nat) (q : Nat) (lm : Int) : Decidable (badL m L q lm) := by unfold badL; infer_instance
def ticksL (L : List Nat) (u : Nat) : Nat := cdiv (u * 65536) (lowL L)
def leastV (m : Nat) (L : List Nat) (q u : Nat) : Nat := if m * (q * 65536) < m * (2 * ticksL L u + 2) * sumL L then 0 else cdiv (m * (q * 65536) - m * (2 * ticksL L u + 2) * sumL L) (sumL L * 65536)
theorem sum_mem (L : List Nat) (m : Nat) (h : m ∈ L) : m ≤ sumL L := by
  have key : ∀ (L : List Nat) (a : Nat), a ≤ L.foldl (· + ·) a ∧ ∀ x ∈ L, x ≤ L.foldl (· + ·) a := by
    intro L
    induction L with
    | nil => intro a; exact ⟨Nat.le_refl _, fun x h => by cases h⟩
    | cons y L ih =>
      intro a
      obtain ⟨h1, h2⟩ := ih (a + y)
      refine ⟨by simp only [List.foldl_cons]; omega, fun x hx => ?_⟩
      simp only [List.foldl_cons]
      rcases List.mem_cons.1 hx with rfl | hx
      · omega
      · exact h2 x hx
  exact (key L 0).2 m h
theorem low_pos (L : List Nat) (h : ∀ x ∈ L, 0 < x) : 0 < lowL L := by
  have key : ∀ (L : List Nat) (a : Nat), 0 < a → (∀ x ∈ L, 0 < x) → 0 < L.foldl min a := by
    intro L
    induction L with
    | nil => intro a ha _; exact ha
    | cons y L ih =>
      intro a ha h
      refine ih _ ?_ (fun x hx => h x (List.mem_cons_of_mem _ hx))
      have := h y (List.mem_cons_self ..)
      omega
  exact key L _ (by decide) h
theorem low_le (L : List Nat) : lowL L ≤ 9223372036854775808 := by
  have key : ∀ (L : List Nat) (a : Nat), L.foldl min a ≤ a := by
    intro L
    induction L with
    | nil => intro a; exact Nat.le_refl _
    | cons y L ih => intro a; exact Nat.le_trans (ih _) (Nat.min_le_left _ _)
  exact key L _
theorem cdiv_mono' {a b d : Nat} (h : a ≤ b) : cdiv a d ≤ cdiv b d := Nat.div_le_div_right (by omega)
theorem cdiv_mul' (a d : Nat) (hd : 0 < d) : cdiv (a * d) d = a := by
  rw [cdiv_eq _ _ hd, Nat.mul_mod_left, if_pos rfl, Nat.mul_div_left _ hd]
structure GoodL (m : Nat) (L : List Nat) (q u : Nat) : Prop where
  len : L.length ≤ 64
  sl : ∀ x ∈ L, 0 < x ∧ x ≤ 4294967295
  mem : m ∈ L
  q : q ≤ 1099511627776
  u1 : 1 ≤ u
  u2 : u ≤ 16384
theorem goodL {m : Nat} {L : List Nat} {q : Nat} {lm : Int} (h : ¬ badL m L q lm) : ∃ u : Nat, lm = (u : Int) ∧ GoodL m L q u := by
  unfold badL at h
  refine ⟨lm.toNat, by omega, by omega, fun x hx => ?_, ?_, by omega, by omega, by omega⟩
  · have h2 : ¬ L.any (fun x => !SL x) = true := fun h' => h (.inr (.inl h'))
    rw [List.any_eq_true] at h2
    by_cases hs : SL x = true
    · exact SL_t hs
    · exact absurd ⟨x, hx, by simp [Bool.eq_false_iff.2 hs]⟩ h2
  · have h2 : ¬ L.any (fun x => x == m) = false := fun h' => h (.inr (.inr (.inl h')))
    rw [Bool.not_eq_false, List.any_eq_true] at h2
    obtain ⟨x, hx, he⟩ := h2
    have : x = m := by simpa using he
    rw [← this]; exact hx
structure Bnds (m : Nat) (L : List Nat) (q u : Nat) : Prop where
  m1 : 0 < m
  m2 : m ≤ 4294967295
  s1 : m ≤ sumL L
  s2 : sumL L ≤ 274877906880
  l1 : 0 < lowL L
  l2 : lowL L ≤ 9223372036854775808
  t : ticksL L u ≤ 1073741824
  g : m * (q * 65536) ≤ 4294967295 * 72057594037927936
  k : m * (2 * ticksL L u + 2) ≤ 4294967295 * 2147483650
theorem bnds {m : Nat} {L : List Nat} {q u : Nat} (h : GoodL m L q u) : Bnds m L q u := by
  have hm := h.sl m h.mem
  have hl := low_pos L (fun x hx => (h.sl x hx).1)
  have ht : ticksL L u ≤ 1073741824 := by
    have := cdiv_le (u * 65536) (lowL L) hl
    have := h.u2
    unfold ticksL; omega
  have hs := sumL_le L (fun x hx => (h.sl x hx).2) L.length (Nat.le_refl _)
  rw [List.take_length] at hs
  have h64 := h.len
  have hq := h.q
  have g1 : q * 65536 ≤ 72057594037927936 := by omega
  have g2 : 2 * ticksL L u + 2 ≤ 2147483650 := by omega
  have g3 : sumL L ≤ 274877906880 := by omega
  have g4 : m * (q * 65536) ≤ 4294967295 * 72057594037927936 := Nat.mul_le_mul hm.2 g1
  have g5 : m * (2 * ticksL L u + 2) ≤ 4294967295 * 2147483650 := Nat.mul_le_mul hm.2 g2
  exact ⟨hm.1, hm.2, sum_mem L m h.mem, g3, hl, low_le L, ht, g4, g5⟩
theorem least_le {m : Nat} {L : List Nat} {q u : Nat} (h : GoodL m L q u) : leastV m L q u ≤ q := by
  have b := bnds h
  have hs : 0 < sumL L := Nat.lt_of_lt_of_le b.m1 b.s1
  unfold leastV
  split
  · exact Nat.zero_le _
  · have h1 : m * (q * 65536) - m * (2 * ticksL L u + 2) * sumL L ≤ q * (sumL L * 65536) := by
      have : m * (q * 65536) ≤ sumL L * (q * 65536) := Nat.mul_le_mul_right _ b.s1
      have e : sumL L * (q * 65536) = q * (sumL L * 65536) := by rw [Nat.mul_left_comm]
      omega
    have h2 := cdiv_mono' (d := sumL L * 65536) h1
    rwa [cdiv_mul' _ _ (by omega)] at h2
end Go.Fg.X
