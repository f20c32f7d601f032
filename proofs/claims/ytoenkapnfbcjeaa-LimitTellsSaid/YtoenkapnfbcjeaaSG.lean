/- Walks of the functions that the statement reaches. No conditions: contracts and laws. -/
import Derived.Test.YtoenkapnfbcjeaaSF
namespace Go.Fg.X.SP
set_option linter.unusedSimpArgs false
set_option linter.unusedVariables false
open Go.Proofs Go.Fg
set_option maxRecDepth 100000
theorem isOpen_at (lv : List Int) (l : List Ev) (i : Nat) : ∀ j, (isOpenAt lv l i j).frm = (l.getD i default).at_ ∧ (isOpenAt lv l i j).fst = i
  | 0 => ⟨rfl, rfl⟩
  | j + 1 => by simp only [isOpenAt]; split; exact ⟨rfl, rfl⟩; exact isOpen_at lv l i j
theorem isOpen_init (lv : List Int) (l : List Ev) (i : Nat) : ∀ j, j ≤ i + 1 → isOpenAt lv l i j = ⟨(l.getD i default).at_, 0, i, 0, true⟩
  | 0, _ => rfl
  | j + 1, h => by simp only [isOpenAt]; rw [if_neg (by omega)]; exact isOpen_init lv l i j (by omega)
def starts (lv : List Int) (l : List Ev) : Nat → List Nat
  | 0 => []
  | i + 1 => if 0 < lenAt lv l i ∨ lenAt lv l (i + 1) = 0 then starts lv l i else starts lv l i ++ [i]
theorem starts_lt (lv : List Int) (l : List Ev) : ∀ k, ∀ a ∈ starts lv l k, a < k
  | 0, a, h => by simp [starts] at h
  | k + 1, a, h => by
    simp only [starts] at h
    split at h
    · have := starts_lt lv l k a h; omega
    · rcases List.mem_append.1 h with h | h
      · have := starts_lt lv l k a h; omega
      · simp at h; omega
theorem rfAt_map (lv : List Int) (l : List Ev) : ∀ k, rfAt lv l k = (starts lv l k).map fun a => isOpenAt lv l a l.length
  | 0 => rfl
  | k + 1 => by simp only [rfAt, starts]; split; exact rfAt_map lv l k; rw [rfAt_map lv l k]; simp
theorem spAt_map (lv : List Int) (l : List Ev) : ∀ k, spAt lv l k = (starts lv l k).map fun a => isOpenAt lv l a k
  | 0 => rfl
  | k + 1 => by
    have ih := spAt_map lv l k
    have G := good lv l k
    rw [ih] at G
    have hs := starts_lt lv l k
    have same : (∀ a ∈ starts lv l k, (isOpenAt lv l a k).opn = true → lenAt lv l (k + 1) ≠ 0) → (starts lv l k).map (fun a => isOpenAt lv l a (k + 1)) = (starts lv l k).map fun a => isOpenAt lv l a k := fun h => by
      apply List.map_congr_left
      intro a ha
      simp only [isOpenAt]
      rw [if_neg (fun x => h a ha x.2.1 x.2.2)]
    simp only [spAt, spStep, starts]
    rw [ih]
    rw [show lenN (lenAt lv l k) (l.getD k default) lv = lenAt lv l (k + 1) from rfl]
    by_cases h1 : lenAt lv l k = 0 ∧ 0 < lenAt lv l (k + 1)
    · rw [if_pos h1, if_neg (by omega), List.map_append, same (fun a _ _ => by omega)]
      simp [isOpen_init lv l k (k + 1) (by omega)]
    · rw [if_neg h1]
      by_cases h2 : 0 < lenAt lv l k ∧ lenAt lv l (k + 1) = 0
      · rw [if_pos h2, if_pos (by omega)]
        obtain ⟨g1, g2⟩ := G.c.1 h2.1
        have g0 := G.b
        generalize hL : starts lv l k = L at *
        rcases List.eq_nil_or_concat L with rfl | ⟨I, a, rfl⟩
        · simp at g1
        · simp only [List.concat_eq_append, List.map_append, List.map_cons, List.map_nil, List.length_append, List.length_map, List.length_cons, List.length_nil, Nat.add_sub_cancel, Nat.zero_add] at *
          have e1 : (I.map (fun a => isOpenAt lv l a k) ++ [isOpenAt lv l a k]).getD I.length default = isOpenAt lv l a k := by
            simp
          rw [e1] at g2 ⊢
          have ha : a < k := hs a (by simp)
          have hI : I.map (fun a => isOpenAt lv l a (k + 1)) = I.map fun a => isOpenAt lv l a k := by
            apply List.map_congr_left
            intro b hb
            obtain ⟨i, hi, rfl⟩ := List.getElem_of_mem hb
            have := (g0 i (by omega)).1
            rw [getD_lt _ _ _ _ (by simpa using hi)] at this
            simp only [List.getD_eq_getElem?_getD, List.getElem?_map, List.getElem?_eq_getElem hi, Option.map_some, Option.getD_some] at this
            simp only [isOpenAt]
            rw [if_neg (fun x => by rw [this] at x; cases x.2.1)]
          rw [hI, List.set_append_right _ _ (by simp)]
          obtain ⟨f1, f2⟩ := isOpen_at lv l a k
          have e2 : isOpenAt lv l a (k + 1) = ⟨(l.getD a default).at_, (l.getD k default).at_, a, k, false⟩ := by
            simp only [isOpenAt]; rw [if_pos ⟨ha, g2, h2.2⟩]
          rw [e2]
          simp [f1, f2]
      · rw [if_neg h2]
        by_cases h3 : lenAt lv l (k + 1) = 0
        · rw [if_pos (by omega)]
          rw [same]
          intro a ha ho
          exfalso
          have hn : lenAt lv l k = 0 := by omega
          obtain ⟨i, hi, rfl⟩ := List.getElem_of_mem ha
          have e1 : ((starts lv l k).map fun a => isOpenAt lv l a k).getD i default = isOpenAt lv l (starts lv l k)[i] k := by
            simp [List.getD_eq_getElem?_getD, hi]
          by_cases hlast : i + 1 < (starts lv l k).length
          · have := (G.b i (by simpa using hlast)).1
            rw [e1, ho] at this; cases this
          · have : 0 < lenAt lv l k := G.c.2 ⟨by simp; omega, by
              rw [show ((starts lv l k).map fun a => isOpenAt lv l a k).length - 1 = i by simp; omega, e1]; exact ho⟩
            omega
        · rw [if_pos (by omega), same (fun _ _ _ => h3)]
theorem spans_law (l : List Ev) (lv : List Int) : rfAt lv l l.length = spAt lv l l.length := by rw [rfAt_map, spAt_map]
end Go.Fg.X.SP
