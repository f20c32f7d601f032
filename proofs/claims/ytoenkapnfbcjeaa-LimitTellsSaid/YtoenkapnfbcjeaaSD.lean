/- Walks of the functions that the statement reaches. No conditions: contracts and laws. -/
import Derived.Test.YtoenkapnfbcjeaaSC
namespace Go.Fg.X.SP
open Go.Proofs Go.Fg
set_option maxRecDepth 100000
set_option linter.unusedSimpArgs false
set_option linter.unusedVariables false
structure Good (l : List Ev) (out : List Sp) (k n : Nat) : Prop where
  a : ∀ i, i < out.length → ∃ f : Nat, (out.getD i default).fst = f ∧ f < k ∧ (out.getD i default).frm = (l.getD f default).at_ ∧
    ((out.getD i default).opn = false → ∃ t : Nat, (out.getD i default).lst = t ∧ f < t ∧ t < k ∧ (out.getD i default).to = (l.getD t default).at_)
  b : ∀ i, i + 1 < out.length → (out.getD i default).opn = false ∧ (out.getD i default).lst < (out.getD (i + 1) default).fst
  c : 0 < n ↔ 0 < out.length ∧ (out.getD (out.length - 1) default).opn = true
theorem good (lv : List Int) (l : List Ev) : ∀ k, Good l (spAt lv l k) k (lenAt lv l k)
  | 0 => ⟨fun i h => by simp [spAt] at h, fun i h => by simp [spAt] at h, by simp [spAt, lenAt]⟩
  | k + 1 => by
    have G := good lv l k
    have mono : ∀ i, i < (spAt lv l k).length → ∃ f : Nat, ((spAt lv l k).getD i default).fst = f ∧ f < k + 1 ∧ ((spAt lv l k).getD i default).frm = (l.getD f default).at_ ∧
        (((spAt lv l k).getD i default).opn = false → ∃ t : Nat, ((spAt lv l k).getD i default).lst = t ∧ f < t ∧ t < k + 1 ∧ ((spAt lv l k).getD i default).to = (l.getD t default).at_) := fun i hi => by
      obtain ⟨f, h1, h2, h3, h4⟩ := G.a i hi
      exact ⟨f, h1, by omega, h3, fun e => let ⟨t, t1, t2, t3, t4⟩ := h4 e; ⟨t, t1, t2, by omega, t4⟩⟩
    have G := G
    simp only [spAt, lenAt, spStep]
    generalize spAt lv l k = out at *
    generalize lenAt lv l k = n at *
    generalize lenN n (l.getD k default) lv = m at *
    by_cases h1 : n = 0 ∧ 0 < m
    · rw [if_pos h1]
      have hc : ¬ (0 < out.length ∧ (out.getD (out.length - 1) default).opn = true) := fun h => by have := G.c.2 h; omega
      refine ⟨fun i hi => ?_, fun i hi => ?_, ?_⟩
      · by_cases hi2 : i < out.length
        · rw [getD_lt _ _ _ _ hi2]; exact mono i hi2
        · have : i = out.length := by simp at hi; omega
          subst this
          rw [getD_end]
          exact ⟨k, rfl, by omega, rfl, fun e => by cases e⟩
      · simp only [List.length_append, List.length_cons, List.length_nil] at hi
        rw [getD_lt _ _ _ _ (by omega)]
        by_cases hi2 : i + 1 < out.length
        · rw [getD_lt _ _ _ _ hi2]; exact G.b i hi2
        · have e : i + 1 = out.length := by omega
          rw [e, getD_end]
          have hop : (out.getD i default).opn = false := by
            cases ho : (out.getD i default).opn
            · rfl
            · exact absurd ⟨by omega, by rw [show out.length - 1 = i by omega]; exact ho⟩ hc
          obtain ⟨f, h1, h2, h3, h4⟩ := G.a i (by omega)
          obtain ⟨t, t1, t2, t3, t4⟩ := h4 hop
          exact ⟨hop, by rw [t1]; simp; omega⟩
      · simp only [List.length_append, List.length_cons, List.length_nil, Nat.add_sub_cancel, Nat.zero_add]
        rw [getD_end]
        exact ⟨fun _ => ⟨by omega, rfl⟩, fun _ => h1.2⟩
    · rw [if_neg h1]
      by_cases h2 : 0 < n ∧ m = 0
      · rw [if_pos h2]
        obtain ⟨c1, c2⟩ := G.c.1 h2.1
        obtain ⟨f, f1, f2, f3, f4⟩ := G.a (out.length - 1) (by omega)
        refine ⟨fun i hi => ?_, fun i hi => ?_, ?_⟩
        · rw [List.length_set] at hi
          by_cases hi2 : i = out.length - 1
          · subst hi2
            rw [getD_set_eq _ _ _ _ (by omega)]
            exact ⟨f, f1, by omega, f3, fun _ => ⟨k, rfl, f2, by omega, rfl⟩⟩
          · rw [getD_set_ne' _ _ _ _ _ (Ne.symm hi2)]; exact mono i hi
        · rw [List.length_set] at hi
          rw [getD_set_ne' _ _ _ _ _ (show out.length - 1 ≠ i by omega)]
          by_cases hi2 : i + 1 = out.length - 1
          · rw [hi2, getD_set_eq _ _ _ _ (by omega)]
            have := G.b i hi
            rw [hi2] at this
            exact this
          · rw [getD_set_ne' _ _ _ _ _ (Ne.symm hi2)]; exact G.b i hi
        · rw [List.length_set, getD_set_eq _ _ _ _ (by omega)]
          exact ⟨fun h => by omega, fun h => by cases h.2⟩
      · rw [if_neg h2]
        refine ⟨mono, G.b, ?_⟩
        rw [← G.c]; omega
def lastAt (L : List Sp) (k : Nat) : Int := if k = 0 then -1 else (L.getD (k - 1) default).lst
def openAt (L : List Sp) (k : Nat) : Bool := if k = 0 then false else (L.getD (k - 1) default).opn
end Go.Fg.X.SP
