/- Walks of the functions that the statement reaches. No conditions: contracts and laws. -/
import Derived.Test.YtoenkapnfbcjeaaXK2
namespace Go.Fg.X
open Go.Proofs Go.Fg
set_option maxRecDepth 100000
set_option maxHeartbeats 4000000
set_option linter.unusedSimpArgs false
set_option linter.unusedVariables false
def totB (L : List Cm) : Nat := (L.map Cm.b).foldl (· + ·) 0
theorem totB_snoc (L : List Cm) (c : Cm) : totB (L ++ [c]) = totB L + c.b := by simp [totB, List.foldl_append]
theorem take_snoc {α : Type} [Inhabited α] (L : List α) (k : Nat) (h : k < L.length) : L.take (k + 1) = L.take k ++ [L.getD k default] := by
  rw [List.getD_eq_getElem?_getD, List.getElem?_eq_getElem h, Option.getD_some, List.take_succ_eq_append_getElem h]
theorem bu_sum (m : Nat) (L : List Cm) : ∀ k, k ≤ L.length → (buF m (L.take k)).sum = capB (totB (L.take k))
  | 0, _ => rfl
  | k + 1, h => by
    have ih := bu_sum m L k (by omega)
    rw [take_snoc L k (by omega), buF_snoc, totB_snoc]
    show capB ((buF m (L.take k)).sum + capB _) = _
    rw [ih]; unfold capB; omega
theorem bu_sum_all (m : Nat) (L : List Cm) : (buF m L).sum = capB (totB L) := by
  have := bu_sum m L L.length (Nat.le_refl _)
  rwa [List.take_length] at this
theorem lastB (m : Nat) (L : List Cm) : ∀ k, k < L.length → (buF m (L.take (k + 1))).last = (L.getD k default).t := by
  intro k h
  rw [take_snoc L k h, buF_snoc]; rfl
theorem bad_take (m : Nat) (L : List Cm) (k : Nat) (h : k + 1 < L.length) : badF (L.take (k + 2)) = (badF (L.take (k + 1)) || decide ((L.getD (k + 1) default).t < (L.getD k default).t)) := by
  rw [take_snoc L (k + 1) h, badF_snoc m, lastB m L k (by omega)]
theorem bad_mono (L : List Cm) (k : Nat) : ∀ d, k + d ≤ L.length → badF (L.take k) = true → badF (L.take (k + d)) = true
  | 0, _, h => h
  | d + 1, hl, h => by
    have ih := bad_mono L k d (by omega) h
    show badF (L.take ((k + d) + 1)) = true
    rw [take_snoc L (k + d) (by omega), badF_snoc 0, ih]; rfl
theorem bad_take_false (L : List Cm) (h : badF L = false) (k : Nat) (hk : k ≤ L.length) : badF (L.take k) = false := by
  cases hb : badF (L.take k)
  · rfl
  · have := bad_mono L k (L.length - k) (by omega) hb
    rw [show k + (L.length - k) = L.length by omega, List.take_length, h] at this
    cases this
theorem mono1 (L : List Cm) (h : badF L = false) (k : Nat) (hk : k + 1 < L.length) : (L.getD k default).t ≤ (L.getD (k + 1) default).t := by
  have h1 := bad_take_false L h (k + 2) (by omega)
  rw [bad_take 0 L k hk] at h1
  simp only [Bool.or_eq_false_iff, decide_eq_false_iff_not] at h1
  omega
theorem mono2 (L : List Cm) (h : badF L = false) (i : Nat) : ∀ d, i + d < L.length → (L.getD i default).t ≤ (L.getD (i + d) default).t
  | 0, _ => Nat.le_refl _
  | d + 1, hd => Nat.le_trans (mono2 L h i d (by omega)) (mono1 L h (i + d) (by omega))
theorem mono3 (L : List Cm) (h : badF L = false) (i k : Nat) (hi : i ≤ k) (hk : k < L.length) : (L.getD i default).t ≤ (L.getD k default).t := by
  have := mono2 L h i (k - i) (by omega)
  rwa [show i + (k - i) = k by omega] at this
theorem totB_take_le (L : List Cm) (k : Nat) : ∀ d, k + d ≤ L.length → totB (L.take k) ≤ totB (L.take (k + d))
  | 0, _ => Nat.le_refl _
  | d + 1, hl => by
    have ih := totB_take_le L k d (by omega)
    show _ ≤ totB (L.take ((k + d) + 1))
    rw [take_snoc L (k + d) (by omega), totB_snoc]; omega
theorem tot_le (L : List Cm) (k : Nat) (hk : k ≤ L.length) : totB (L.take k) ≤ totB L := by
  have := totB_take_le L k (L.length - k) (by omega)
  rwa [show k + (L.length - k) = L.length by omega, List.take_length] at this
theorem b_le (L : List Cm) (k : Nat) (hk : k < L.length) : (L.getD k default).b ≤ totB L := by
  have h1 := tot_le L (k + 1) hk
  rw [take_snoc L k hk, totB_snoc] at h1
  omega
/-- The bytes from a place up to another one. -/
def seg (L : List Cm) (i : Nat) : Nat → Nat
  | 0 => 0
  | k + 1 => if k < i then 0 else seg L i k + (L.getD k default).b
theorem seg_le (L : List Cm) (i : Nat) : ∀ k, k ≤ L.length → seg L i k ≤ totB (L.take k)
  | 0, _ => Nat.zero_le _
  | k + 1, h => by
    have ih := seg_le L i k (by omega)
    rw [take_snoc L k (by omega), totB_snoc]
    simp only [seg]; split <;> omega
def gB (m : Nat) (L : List Cm) (i k : Nat) : Nat := seg L i (k + 1) * 65536 - m * ((L.getD k default).t - (L.getD i default).t)
/-- r is the greatest of them, or 0. -/
structure Greatest (m : Nat) (L : List Cm) (P : Nat → Nat → Prop) (r : Nat) : Prop where
  le : ∀ i k, i ≤ k → P i k → gB m L i k ≤ r
  is : r = 0 ∨ ∃ i k, i ≤ k ∧ P i k ∧ r = gB m L i k
theorem Greatest.eq {m : Nat} {L : List Cm} {P : Nat → Nat → Prop} {r r' : Nat} (h : Greatest m L P r) (h' : Greatest m L P r') : r = r' := by
  refine Nat.le_antisymm ?_ ?_
  · rcases h.is with h1 | ⟨i, k, h1, h2, h3⟩
    · omega
    · rw [h3]; exact h'.le i k h1 h2
  · rcases h'.is with h1 | ⟨i, k, h1, h2, h3⟩
    · omega
    · rw [h3]; exact h.le i k h1 h2
theorem seg_self (L : List Cm) (k : Nat) : seg L k (k + 1) = (L.getD k default).b := by
  have h0 : seg L k k = 0 := by
    cases k with
    | zero => rfl
    | succ k => simp only [seg]; rw [if_pos (Nat.lt_succ_self k)]
  simp only [seg, Nat.lt_irrefl, if_false, h0, Nat.zero_add]
theorem gB_self (m : Nat) (L : List Cm) (k : Nat) : gB m L k k = (L.getD k default).b * 65536 := by simp [gB, seg_self]
theorem gB_step (m : Nat) (L : List Cm) (i k : Nat) (hi : i ≤ k) (h1 : (L.getD i default).t ≤ (L.getD k default).t) (h2 : (L.getD k default).t ≤ (L.getD (k + 1) default).t) :
    ∃ X Y, gB m L i k = X - Y ∧ gB m L i (k + 1) = X + (L.getD (k + 1) default).b * 65536 - (Y + m * ((L.getD (k + 1) default).t - (L.getD k default).t)) := by
  refine ⟨seg L i (k + 1) * 65536, m * ((L.getD k default).t - (L.getD i default).t), rfl, ?_⟩
  have e1 : seg L i (k + 2) = seg L i (k + 1) + (L.getD (k + 1) default).b := by
    show (if k + 1 < i then 0 else _) = _
    rw [if_neg (by omega)]
  have e2 : (L.getD (k + 1) default).t - (L.getD i default).t = ((L.getD k default).t - (L.getD i default).t) + ((L.getD (k + 1) default).t - (L.getD k default).t) := by omega
  rw [gB, e1, e2, Nat.add_mul, Nat.mul_add]
theorem bu_inv (m : Nat) (L : List Cm) (hb : badF L = false) (ht : totB L ≤ 1099511627776) : ∀ n, n ≤ L.length →
    (n = 0 → (buF m (L.take n)).fill = 0) ∧ (∀ k, n = k + 1 → (∀ i, i ≤ k → gB m L i k ≤ (buF m (L.take n)).fill) ∧ ∃ i, i ≤ k ∧ (buF m (L.take n)).fill = gB m L i k) ∧
    Greatest m L (fun _ k => k < n) (buF m (L.take n)).most
  | 0, _ => ⟨fun _ => rfl, fun k h => by omega, ⟨fun i k _ h => by omega, .inl rfl⟩⟩
  | n + 1, hn => by
    obtain ⟨h0, h1, h2⟩ := bu_inv m L hb ht n (by omega)
    have hcap : capB (L.getD n default).b = (L.getD n default).b := by
      have := b_le L n (by omega)
      unfold capB; omega
    have eN : buF m (L.take (n + 1)) = (buF m (L.take n)).next m (L.getD n default) := by rw [take_snoc L n (by omega), buF_snoc]
    have ef : (buF m (L.take (n + 1))).fill = ((buF m (L.take n)).fill - m * ((L.getD n default).t - (buF m (L.take n)).last)) + (L.getD n default).b * 65536 := by
      rw [eN]; show _ - _ + capB _ * 65536 = _; rw [hcap]
    have em : (buF m (L.take (n + 1))).most = max (buF m (L.take n)).most (buF m (L.take (n + 1))).fill := by rw [eN]; rfl
    have hfill : (∀ i, i ≤ n → gB m L i n ≤ (buF m (L.take (n + 1))).fill) ∧ ∃ i, i ≤ n ∧ (buF m (L.take (n + 1))).fill = gB m L i n := by
      rw [ef]
      cases n with
      | zero =>
        have hz := h0 rfl
        refine ⟨fun i hi => ?_, 0, Nat.le_refl _, ?_⟩
        · obtain rfl : i = 0 := by omega
          rw [gB_self]; omega
        · rw [gB_self, hz]; omega
      | succ k =>
        obtain ⟨g1, i0, g2, g3⟩ := h1 k rfl
        rw [lastB m L k (by omega)]
        have hm1 := mono1 L hb k (by omega)
        refine ⟨fun i hi => ?_, ?_⟩
        · by_cases hik : i ≤ k
          · obtain ⟨X, Y, x1, x2⟩ := gB_step m L i k hik (mono3 L hb i k hik (by omega)) hm1
            have := g1 i hik
            rw [x2]; omega
          · obtain rfl : i = k + 1 := by omega
            rw [gB_self]; omega
        · by_cases hd : (buF m (L.take (k + 1))).fill ≤ m * ((L.getD (k + 1) default).t - (L.getD k default).t)
          · exact ⟨k + 1, Nat.le_refl _, by rw [gB_self]; omega⟩
          · obtain ⟨X, Y, x1, x2⟩ := gB_step m L i0 k g2 (mono3 L hb i0 k g2 (by omega)) hm1
            exact ⟨i0, by omega, by rw [x2]; omega⟩
    refine ⟨fun h => by omega, fun k hk => ?_, ?_⟩
    · obtain rfl : k = n := by omega
      exact hfill
    · refine ⟨fun i k hi hk => ?_, ?_⟩
      · rw [em]
        rcases Nat.lt_succ_iff_lt_or_eq.1 hk with h | rfl
        · have := h2.le i k hi h; omega
        · have := hfill.1 i hi; omega
      · rw [em]
        by_cases hc : (buF m (L.take n)).most ≤ (buF m (L.take (n + 1))).fill
        · obtain ⟨i, hi, he⟩ := hfill.2
          exact .inr ⟨i, n, hi, Nat.lt_succ_self n, by rw [← he]; omega⟩
        · rcases h2.is with h3 | ⟨i, k, h3, h4, h5⟩
          · omega
          · exact .inr ⟨i, k, h3, Nat.lt_succ_of_lt h4, by rw [← h5]; omega⟩
theorem bu_greatest (m : Nat) (L : List Cm) (hb : badF L = false) (ht : totB L ≤ 1099511627776) : Greatest m L (fun _ k => k < L.length) (buF m L).most := by
  have := (bu_inv m L hb ht L.length (Nat.le_refl _)).2.2
  rwa [List.take_length] at this
/-! The reference goes through all pairs. -/
def rbIn (m : Nat) (L : List Cm) (i a : Nat) : Nat → Nat
  | 0 => a
  | k + 1 => if k < i then rbIn m L i a k else max (rbIn m L i a k) (gB m L i k)
def rbOut (m : Nat) (L : List Cm) : Nat → Nat
  | 0 => 0
  | i + 1 => rbIn m L i (rbOut m L i) L.length
theorem rbIn_greatest (m : Nat) (L : List Cm) (i a : Nat) (ha : Greatest m L (fun j k => j < i ∧ k < L.length) a) : ∀ n, n ≤ L.length → Greatest m L (fun j k => j < i ∧ k < L.length ∨ j = i ∧ k < n) (rbIn m L i a n)
  | 0, _ => ⟨fun j k hj hp => by rcases hp with h | h; exact ha.le j k hj h; omega, by
      rcases ha.is with h | ⟨j, k, h1, h2, h3⟩
      · exact .inl h
      · exact .inr ⟨j, k, h1, .inl h2, h3⟩⟩
  | n + 1, hn => by
    have ih := rbIn_greatest m L i a ha n (by omega)
    simp only [rbIn]
    split
    · rename_i hlt
      refine ⟨fun j k hj hp => ih.le j k hj ?_, ?_⟩
      · rcases hp with h | ⟨h, h'⟩
        · exact .inl h
        · omega
      · rcases ih.is with h | ⟨j, k, h1, h2, h3⟩
        · exact .inl h
        · refine .inr ⟨j, k, h1, ?_, h3⟩
          rcases h2 with h | ⟨h, h'⟩
          · exact .inl h
          · exact .inr ⟨h, by omega⟩
    · rename_i hge
      refine ⟨fun j k hj hp => ?_, ?_⟩
      · by_cases hkn : j = i ∧ k = n
        · obtain ⟨rfl, rfl⟩ := hkn; omega
        · have := ih.le j k hj (by rcases hp with h | ⟨h, h'⟩; exact .inl h; exact .inr ⟨h, by omega⟩)
          omega
      · by_cases hc : rbIn m L i a n ≤ gB m L i n
        · exact .inr ⟨i, n, by omega, .inr ⟨rfl, by omega⟩, by omega⟩
        · rcases ih.is with h | ⟨j, k, h1, h2, h3⟩
          · omega
          · refine .inr ⟨j, k, h1, ?_, by omega⟩
            rcases h2 with h | ⟨h, h'⟩
            · exact .inl h
            · exact .inr ⟨h, by omega⟩
theorem rbOut_greatest (m : Nat) (L : List Cm) : ∀ n, n ≤ L.length → Greatest m L (fun j k => j < n ∧ k < L.length) (rbOut m L n)
  | 0, _ => ⟨fun j k _ h => by omega, .inl rfl⟩
  | n + 1, hn => by
    have h := rbIn_greatest m L n _ (rbOut_greatest m L n (by omega)) L.length (Nat.le_refl _)
    refine ⟨fun j k hj hp => h.le j k hj ?_, ?_⟩
    · by_cases hjn : j = n
      · exact .inr ⟨hjn, hp.2⟩
      · exact .inl ⟨by omega, hp.2⟩
    · rcases h.is with h1 | ⟨j, k, h1, h2, h3⟩
      · exact .inl h1
      · refine .inr ⟨j, k, h1, ?_, h3⟩
        rcases h2 with h4 | h4
        · exact ⟨by omega, h4.2⟩
        · exact ⟨by omega, h4.2⟩
theorem burst_eq (m : Nat) (L : List Cm) (hb : badF L = false) (ht : totB L ≤ 1099511627776) : (buF m L).most = rbOut m L L.length := by
  have h1 := bu_greatest m L hb ht
  have h2 := rbOut_greatest m L L.length (Nat.le_refl _)
  refine Greatest.eq (P := fun _ k => k < L.length) h1 ⟨fun i k hi hk => h2.le i k hi ⟨by omega, hk⟩, ?_⟩
  rcases h2.is with h3 | ⟨i, k, h3, h4, h5⟩
  · exact .inl h3
  · exact .inr ⟨i, k, h3, h4.2, h5⟩
theorem gB_le (m : Nat) (L : List Cm) (i k : Nat) (hk : k < L.length) : gB m L i k ≤ totB L * 65536 := by
  have h1 := seg_le L i (k + 1) hk
  have h2 := tot_le L (k + 1) hk
  unfold gB
  exact Nat.le_trans (Nat.sub_le _ _) (Nat.mul_le_mul_right _ (Nat.le_trans h1 h2))
theorem rbOut_le (m : Nat) (L : List Cm) (n : Nat) (hn : n ≤ L.length) : rbOut m L n ≤ totB L * 65536 := by
  rcases (rbOut_greatest m L n hn).is with h | ⟨i, k, h1, h2, h3⟩
  · omega
  · rw [h3]; exact gB_le m L i k h2.2
theorem rbIn_le (m : Nat) (L : List Cm) (i : Nat) (hi : i ≤ L.length) (n : Nat) (hn : n ≤ L.length) : rbIn m L i (rbOut m L i) n ≤ totB L * 65536 := by
  rcases (rbIn_greatest m L i _ (rbOut_greatest m L i hi) n hn).is with h | ⟨j, k, h1, h2, h3⟩
  · omega
  · rw [h3]; exact gB_le m L j k (by rcases h2 with h | h <;> omega)
theorem gB_anti {m m' : Nat} (h : m ≤ m') (L : List Cm) (i k : Nat) : gB m' L i k ≤ gB m L i k := by
  unfold gB
  have := Nat.mul_le_mul_right ((L.getD k default).t - (L.getD i default).t) h
  omega
theorem most_anti {m m' : Nat} (h : m ≤ m') (L : List Cm) (hb : badF L = false) (ht : totB L ≤ 1099511627776) : (buF m' L).most ≤ (buF m L).most := by
  have h1 := bu_greatest m L hb ht
  rcases (bu_greatest m' L hb ht).is with h2 | ⟨i, k, h2, h3, h4⟩
  · omega
  · rw [h4]; exact Nat.le_trans (gB_anti h L i k) (h1.le i k h2 h3)
theorem most_packet (m : Nat) (L : List Cm) (hb : badF L = false) (ht : totB L ≤ 1099511627776) (k : Nat) (hk : k < L.length) : (L.getD k default).b * 65536 ≤ (buF m L).most := by
  have := (bu_greatest m L hb ht).le k k (Nat.le_refl _) hk
  rwa [gB_self] at this
theorem most_all (m : Nat) (L : List Cm) (hb : badF L = false) (ht : totB L ≤ 1099511627776) : (buF m L).most ≤ totB L * 65536 := by
  rw [burst_eq m L hb ht]; exact rbOut_le m L _ (Nat.le_refl _)
theorem cdiv_mono {a b d : Nat} (h : a ≤ b) : cdiv a d ≤ cdiv b d := Nat.div_le_div_right (by omega)
theorem cdiv_mul (a d : Nat) (hd : 0 < d) : cdiv (a * d) d = a := by
  rw [cdiv_eq _ _ hd, Nat.mul_mod_left, if_pos rfl, Nat.mul_div_left _ hd]
end Go.Fg.X
