/- Walks of the functions that the statement reaches. No conditions: contracts and laws. -/
import Derived.Test.YtbijdpnacnnaoaaGreatYHd
import Derived.Test.YtbijdpnacnnaoaaGreatYH3
import Derived.Test.YtbijdpnacnnaoaaGreatXW0
import Derived.Test.YtbijdpnacnnaoaaGreatSU3
import Derived.Test.YtbijdpnacnnaoaaGreatXW5
namespace Go.Fg.X
open Go.Proofs Go.Fg
set_option maxRecDepth 100000
set_option maxHeartbeats 4000000
set_option linter.unusedSimpArgs false
set_option linter.unusedVariables false
theorem findC_put {L : List Kls} (h : Rising L) (x : Kls) (k : Int) : findC (putC L x) k = if k = x.iD then some x else findC L k := by
  have hr := putC_rising x h
  have hm := fun c => (putC_perm x h).mem_iff (a := c)
  by_cases hk : k = x.iD
  · rw [if_pos hk]
    exact (findC_iff hr).2 ⟨(hm x).2 (by simp), hk.symm⟩
  · rw [if_neg hk]
    cases hf : findC L k with
    | some c =>
      obtain ⟨h1, h2⟩ := (findC_iff h).1 hf
      exact (findC_iff hr).2 ⟨(hm c).2 (List.mem_cons.2 (.inr (List.mem_filter.2 ⟨h1, by simp; omega⟩))), h2⟩
    | none =>
      rw [findC_none] at hf ⊢
      intro c hc
      rcases List.mem_cons.1 ((hm c).1 hc) with rfl | hc
      · exact fun e => hk e.symm
      · exact hf c (List.mem_filter.1 hc).1
theorem findC_del {L : List Kls} (h : Rising L) (k0 k : Int) : findC (delC L k0) k = if k = k0 then none else findC L k := by
  have hr := delC_rising k0 h
  by_cases hk : k = k0
  · rw [if_pos hk, findC_none]
    intro c hc
    have := (List.mem_filter.1 hc).2
    simp at this; omega
  · rw [if_neg hk]
    cases hf : findC L k with
    | some c =>
      obtain ⟨h1, h2⟩ := (findC_iff h).1 hf
      exact (findC_iff hr).2 ⟨List.mem_filter.2 ⟨h1, by simp; omega⟩, h2⟩
    | none =>
      rw [findC_none] at hf ⊢
      exact fun c hc => hf c (List.mem_filter.1 hc).1
theorem Ends.succ {L : List Kls} : ∀ {n : Nat} {id : Int}, Ends L n id → Ends L (n + 1) id
  | 0, id, h => by simp only [Ends] at h ⊢; rw [h]; trivial
  | n + 1, id, h => by
    rw [Ends] at h ⊢
    cases hf : findC L id with
    | none => trivial
    | some c => rw [hf] at h; exact Ends.succ h
theorem Ends.le {L : List Kls} {n k : Nat} {id : Int} (h : Ends L n id) (hk : n ≤ k) : Ends L k id := by
  induction hk with
  | refl => exact h
  | step _ ih => exact ih.succ
theorem upF_succ {L : List Kls} : ∀ {n : Nat} {id : Int}, Ends L n id → upF L (n + 1) id = upF L n id
  | 0, id, h => by simp only [Ends] at h; simp only [upF, h]
  | n + 1, id, h => by
    rw [Ends] at h
    rw [upF]
    conv => rhs; rw [upF]
    cases hf : findC L id with
    | none => rfl
    | some c => rw [hf] at h; simp only [upF_succ h]
theorem upF_le {L : List Kls} {n k : Nat} {id : Int} (h : Ends L n id) (hk : n ≤ k) : upF L k id = upF L n id := by
  induction hk with
  | refl => rfl
  | step hk ih => rw [upF_succ (h.le hk), ih]
theorem upF_len {L : List Kls} : ∀ {n : Nat} {id : Int}, (upF L n id).length ≤ n
  | 0, _ => Nat.le_refl _
  | n + 1, id => by
    rw [upF]
    cases findC L id with
    | none => exact Nat.zero_le _
    | some c => have := upF_len (L := L) (n := n) (id := c.parent); simp only [List.length_cons]; omega
theorem Ends.short {L : List Kls} : ∀ {n k : Nat} {id : Int}, Ends L n id → (upF L n id).length ≤ k → Ends L k id
  | 0, k, id, h, _ => h.le (Nat.zero_le _)
  | n + 1, k, id, h, hk => by
    rw [Ends] at h
    rw [upF] at hk
    cases hf : findC L id with
    | none => cases k with
      | zero => exact hf
      | succ k => rw [Ends, hf]; trivial
    | some c =>
      rw [hf] at h hk
      simp only [List.length_cons] at hk
      cases k with
      | zero => omega
      | succ k => rw [Ends, hf]; exact Ends.short h (by omega)
/-- What always holds of a tree. -/
structure TreeInv (L : List Kls) : Prop where
  rising : Rising L
  ids : ∀ c ∈ L, 1 ≤ c.iD
  par : ∀ c ∈ L, c.parent = 0 ∨ (findC L c.parent).isSome = true
  ends : ∀ id, Ends L 16 id
theorem TreeInv.nil : TreeInv [] := ⟨by simp [Rising], by simp, by simp, fun id => by simp [Ends, findC]⟩
end Go.Fg.X
namespace Go.Fg.X
open Go.Proofs Go.Fg
set_option maxRecDepth 100000
set_option maxHeartbeats 4000000
set_option linter.unusedSimpArgs false
set_option linter.unusedVariables false
theorem right_id {x : Kls} (h : rightV x = 0) : 1 ≤ x.iD ∧ x.iD ≤ 65536 ∧ x.parent ≠ x.iD := by
  have h2 : idOk x = true := by
    cases h3 : idOk x with
    | true => rfl
    | false => rw [rightV, h3] at h; simp at h
  simp [idOk, frI] at h2
  exact ⟨h2.1.1.1, h2.1.1.2, h2.2⟩
theorem some_put {L : List Kls} (h : Rising L) (x : Kls) {k : Int} (hk : (findC L k).isSome = true) : (findC (putC L x) k).isSome = true := by
  rw [findC_put h]; split
  · rfl
  · exact hk
theorem mem_put {L : List Kls} (h : Rising L) (x : Kls) {c : Kls} (hc : c ∈ putC L x) : c = x ∨ c ∈ L := by
  rcases List.mem_cons.1 ((putC_perm x h).mem_iff.1 hc) with h1 | h1
  · exact .inl h1
  · exact .inr (List.mem_filter.1 h1).1
theorem TreeInv.add {L : List Kls} (I : TreeInv L) {x : Kls} (h0 : rightV x = 0) (h1 : findC L x.iD = none) (h2 : x.parent = 0 ∨ (findC L x.parent).isSome = true) (h3 : (upF L 16 x.parent).length ≠ 16) : TreeInv (putC L x) := by
  obtain ⟨i1, _, i3⟩ := right_id h0
  have key : ∀ n id, id ≠ x.iD → Ends L n id → Ends (putC L x) n id := by
    intro n
    induction n with
    | zero => intro id hid h; rw [Ends] at h ⊢; rw [findC_put I.rising, if_neg hid]; exact h
    | succ n ih =>
      intro id hid h
      rw [Ends] at h ⊢
      rw [findC_put I.rising, if_neg hid]
      cases hf : findC L id with
      | none => trivial
      | some c =>
        rw [hf] at h
        refine ih _ ?_ h
        rcases I.par c ((findC_iff I.rising).1 hf).1 with hp | hp
        · rw [hp]; omega
        · intro e; rw [e, h1] at hp; cases hp
  refine ⟨putC_rising x I.rising, fun c hc => ?_, fun c hc => ?_, fun id => ?_⟩
  · rcases mem_put I.rising x hc with rfl | hc
    · exact i1
    · exact I.ids c hc
  · rcases mem_put I.rising x hc with rfl | hc
    · exact h2.imp id fun h => some_put I.rising c h
    · exact (I.par c hc).imp id fun h => some_put I.rising x h
  · by_cases hid : id = x.iD
    · subst hid
      rw [Ends, findC_put I.rising, if_pos rfl]
      refine key 15 _ i3 ((I.ends x.parent).short ?_)
      have := upF_len (L := L) (n := 16) (id := x.parent)
      omega
    · exact key 16 id hid (I.ends id)
theorem TreeInv.del {L : List Kls} (I : TreeInv L) {k0 : Int} (h : childC L k0 = []) : TreeInv (delC L k0) := by
  have hno : ∀ c ∈ L, c.parent ≠ k0 := fun c hc e => by
    have : c ∈ L.filter (fun y => y.parent == k0) := List.mem_filter.2 ⟨hc, by simp [e]⟩
    have h2 : (L.filter fun y => y.parent == k0) = [] := by simpa [childC] using h
    rw [h2] at this; simp at this
  refine ⟨delC_rising k0 I.rising, fun c hc => I.ids c (List.mem_filter.1 hc).1, fun c hc => ?_, fun id => ?_⟩
  · have hc2 := (List.mem_filter.1 hc).1
    exact (I.par c hc2).imp id fun hp => by rw [findC_del I.rising, if_neg (hno c hc2)]; exact hp
  · have key : ∀ n id, Ends L n id → Ends (delC L k0) n id := by
      intro n
      induction n with
      | zero => intro id h; rw [Ends] at h ⊢; rw [findC_del I.rising]; split <;> simp [h]
      | succ n ih =>
        intro id h
        rw [Ends] at h ⊢
        rw [findC_del I.rising]
        by_cases hid : id = k0
        · rw [if_pos hid]; trivial
        · rw [if_neg hid]
          cases hf : findC L id with
          | none => trivial
          | some c => rw [hf] at h; exact ih _ h
    exact key 16 id (I.ends id)
theorem TreeInv.set {L : List Kls} (I : TreeInv L) {x y : Kls} (h0 : rightV x = 0) (h1 : findC L x.iD = some y) (h2 : x.parent = y.parent) : TreeInv (putC L x) := by
  obtain ⟨i1, _, i3⟩ := right_id h0
  have key : ∀ n id, Ends L n id → Ends (putC L x) n id := by
    intro n
    induction n with
    | zero =>
      intro id h
      rw [Ends] at h ⊢
      rw [findC_put I.rising]
      by_cases hid : id = x.iD
      · subst hid; rw [h1] at h; cases h
      · rw [if_neg hid]; exact h
    | succ n ih =>
      intro id h
      rw [Ends] at h ⊢
      rw [findC_put I.rising]
      by_cases hid : id = x.iD
      · subst hid; rw [if_pos rfl]; rw [h1] at h; show Ends (putC L x) n x.parent; rw [h2]; exact ih _ h
      · rw [if_neg hid]
        cases hf : findC L id with
        | none => trivial
        | some c => rw [hf] at h; exact ih _ h
  refine ⟨putC_rising x I.rising, fun c hc => ?_, fun c hc => ?_, fun id => key 16 id (I.ends id)⟩
  · rcases mem_put I.rising x hc with rfl | hc
    · exact i1
    · exact I.ids c hc
  · rcases mem_put I.rising x hc with rfl | hc
    · rw [h2]
      exact (I.par y ((findC_iff I.rising).1 h1).1).imp id fun h => some_put I.rising c h
    · exact (I.par c hc).imp id fun h => some_put I.rising x h
end Go.Fg.X
namespace Go.Fg.X
open Go.Proofs Go.Fg
set_option maxRecDepth 100000
set_option maxHeartbeats 4000000
set_option linter.unusedSimpArgs false
set_option linter.unusedVariables false
@[go_sem] def kls (l : List Kls) : D := .imm 14 l.length (Kls.rows l)
theorem hnew_ok (h : List Ob) : MFn Tryz.prog 5 h [] (fun d h' => d = .ptr (h.length + 1) 0 0 0 ∧ h' = h ++ [mapOb .i64 0 [], ⟨.one, 0, 1, 1, fun _ => [.mref h.length 0]⟩]) := by
  refine MFn_hx cx_ok 200 Tryz.func5 rfl Tryz.ntmps5 Tryz.results5 rfl fun base w pl hb => ?_
  simp only [go_sem, simprocAttr, hgetA, hgetL, hgetLk, hsetA, hsetL, hsetLk, List.length_append, List.length_set, List.append_assoc, List.set_set]
def findI (L : List Kls) (k : Int) : Int := match L.findIdx? (fun c => c.iD == k) with
  | some i => i
  | none => -1
theorem findI_at {L : List Kls} {k : Int} {i : Nat} (hi : i < L.length) (h : ∀ j, j < i → (L.getD j default).iD ≠ k) (hg : (L.getD i default).iD = k) : findI L k = i := by
  have e : L.findIdx? (fun c => c.iD == k) = some i := by
    rw [List.findIdx?_eq_some_iff_getElem]
    refine ⟨hi, by simpa [List.getD_eq_getElem?_getD, hi] using hg, fun j hj => ?_⟩
    have := h j hj
    simpa [List.getD_eq_getElem?_getD, show j < L.length by omega] using this
  rw [findI, e]
theorem findI_none {L : List Kls} {k : Int} (h : ∀ j, j < L.length → (L.getD j default).iD ≠ k) : findI L k = -1 := by
  have e : L.findIdx? (fun c => c.iD == k) = none := by
    rw [List.findIdx?_eq_none_iff]
    intro x hx
    obtain ⟨i, hi, rfl⟩ := List.getElem_of_mem hx
    have := h i hi
    simpa [List.getD_eq_getElem?_getD, hi] using this
  rw [findI, e]
theorem rfind_ok (L : List Kls) (k : Int) (hl : L.length < 1000000) : AFn Tryz.prog 50 [kls L, dint k] (Ret (dint (findI L k))) := by
  refine AFn_hxk 0 cx_ok 200 Tryz.func50 rfl Tryz.ntmps50 Tryz.results50 rfl fun base w hb => ?_
  simp only [go_sem, simprocAttr]
  refine kont_for (fun i s => (∀ j, j < i → (L.getD j default).iD ≠ k) ∧ s = ⟨[(1, dint k), (7, kls L), (8, dint L.length), (9, dint i)], []⟩) L.length (Weak.frame (by simp only [go_sem, simprocAttr])) ⟨fun j hj => absurd hj (by omega), rfl⟩ ?_
  rintro i s hi ⟨hn, rfl⟩
  have hwr := wrap_succ (show i < 4611686018427387904 by omega)
  refine kont_of_hx cx_ok hb 200 ?_
  simp only [go_sem, simprocAttr]
  first | refine hite_lt hi (fun hk1 => ?_) (fun hk1 => ?_) | refine hite_ltI hi (fun hk1 => ?_) (fun hk1 => ?_)
  · simp only [go_sem, simprocAttr, hk1]
    by_cases hc : (L.getD i default).iD = k
    · rw [findI_at hk1 hn hc]
      simp only [go_sem, simprocAttr, beqT hc]
    · simp only [go_sem, simprocAttr, beqF hc]
      refine ⟨hk1, _, Weak.to 0 ⟨?_, by simp only [go_sem, simprocAttr], ?_, ?_⟩, fun j hj => ?_, rfl⟩
      · simp only [go_sem, simprocAttr, hwr]
      · simp only [go_sem, simprocAttr]
      · simp only [go_sem, simprocAttr]
      · rcases Nat.lt_succ_iff_lt_or_eq.1 hj with h1 | rfl
        · exact hn j h1
        · exact hc
  · have h1 : i = L.length := by omega
    subst h1
    rw [findI_none hn]
    refine kont_of_hx cx_ok hb 200 ?_
    simp only [go_sem, simprocAttr]
end Go.Fg.X
namespace Go.Fg.X
open Go.Proofs Go.Fg
set_option maxRecDepth 100000
set_option maxHeartbeats 4000000
set_option linter.unusedSimpArgs false
set_option linter.unusedVariables false
/-- Rows of a list, from 'off' on. -/
structure RowsAt {α : Type} [Inhabited α] (enc : α → List D) (L : List α) (off : Nat) (row : Nat → List D) : Prop where
  at_ : ∀ i, i < L.length → row (off + i) = enc (L.getD i default)
  all : ∀ i, i < off + L.length → ∃ a, row i = enc a
/-- A slice of an array that the call made, as a list. -/
def RetS {α : Type} [Inhabited α] (sz : Nat) (enc : α → List D) (L : List α) (d : D) (h : List Ob) : Prop := ∃ g off row, d = .ref 0 g off L.length ∧ h = [⟨.arr, g, sz, off + L.length, row⟩] ∧ RowsAt enc L off row
theorem RetS.flat {α : Type} [Inhabited α] {sz : Nat} {enc : α → List D} {L : List α} (hf : ∀ a, flatL (enc a) = true) : ∀ d h, RetS sz enc L d h → d.flat = true ∧ ∀ o ∈ h, o.flat := by
  rintro d h ⟨g, off, row, rfl, rfl, hr⟩
  refine ⟨rfl, fun o ho i hi => ?_⟩
  simp at ho; subst ho
  obtain ⟨a, ha⟩ := hr.all i hi
  show flatL (row i) = true
  rw [ha]; exact hf a
theorem RowsAt.nil {α : Type} [Inhabited α] {enc : α → List D} {row : Nat → List D} : RowsAt enc [] 0 row := ⟨fun i hi => absurd hi (Nat.not_lt_zero i), fun i hi => absurd hi (Nat.not_lt_zero i)⟩
theorem RowsAt.app {α : Type} [Inhabited α] {enc : α → List D} {L : List α} {off : Nat} {row : Nat → List D} (h : RowsAt enc L off row) (x : α) {r2 : Nat → List D} (h2 : r2 0 = enc x) : RowsAt enc (L ++ [x]) 0 (appRow L.length off row r2) := by
  have key : ∀ i, i < L.length + 1 → appRow L.length off row r2 i = enc ((L ++ [x]).getD i default) := fun i hi => by
    by_cases hlt2 : i < L.length
    · rw [appRow_lt hlt2, h.at_ i hlt2]; simp [hlt2, List.getElem?_append_left hlt2]
    · have : i = L.length := by omega
      subst this
      rw [appRow_ge (Nat.le_refl _), Nat.sub_self, h2]; simp
  exact ⟨fun i hi => by simp at hi; rw [Nat.zero_add]; exact key i hi, fun i hi => by simp at hi; exact ⟨_, key i hi⟩⟩
theorem RowsAt.upto {α : Type} [Inhabited α] {enc : α → List D} {L : List α} {off : Nat} {row : Nat → List D} (h : RowsAt enc L off row) {k : Nat} (hu : ∀ a, uptoL k (enc a) = true) : ∀ i, i < off + L.length → uptoL k (row i) = true := fun i hi => by
  obtain ⟨a, ha⟩ := h.all i hi
  rw [ha]; exact hu a
theorem intUp (a : Int) : uptoL 1 [dint a] = true := rfl
/-- What was picked of the first ones of a list. -/
def chAt (L : List Kls) (g : Kls → Bool) : Nat → List Int
  | 0 => []
  | i + 1 => if g (L.getD i default) = true then chAt L g i ++ [(L.getD i default).iD] else chAt L g i
theorem chAt_len (L : List Kls) (g : Kls → Bool) : ∀ i, (chAt L g i).length ≤ i
  | 0 => Nat.le_refl _
  | i + 1 => by
    have := chAt_len L g i
    rw [chAt]; split
    · simp; omega
    · omega
theorem chAt_eq (L : List Kls) (g : Kls → Bool) : ∀ i, i ≤ L.length → chAt L g i = ((L.take i).filter g).map (·.iD)
  | 0, _ => by simp [chAt]
  | i + 1, h => by
    have hi : i < L.length := by omega
    rw [chAt, chAt_eq L g i (by omega), List.take_add_one, List.getElem?_eq_getElem hi]
    simp only [Option.toList_some, List.filter_append, List.map_append, List.getD_eq_getElem?_getD, List.getElem?_eq_getElem hi, Option.getD_some]
    by_cases hg : g L[i] = true
    · rw [if_pos hg, List.filter_cons_of_pos hg]; rfl
    · rw [if_neg hg, List.filter_cons_of_neg hg]; simp
theorem chAt_all (L : List Kls) (g : Kls → Bool) : chAt L g L.length = (L.filter g).map (·.iD) := by rw [chAt_eq L g _ (Nat.le_refl _), List.take_length]
theorem rchildren_ok (L : List Kls) (k : Int) (hl : L.length < 1000000) : AFn Tryz.prog 54 [kls L, dint k] (RetS 1 (fun n : Int => [dint n]) (childC L k)) := by
  have hall : childC L k = chAt L (fun y => y.parent == k) L.length := (chAt_all L _).symm
  refine AFn_hxk 1 cx_ok 200 Tryz.func54 rfl Tryz.ntmps54 Tryz.results54 rfl fun base w hb => ?_
  simp only [go_sem, simprocAttr]
  refine kont_for (fun i s => ∃ g off row, RowsAt (fun n : Int => [dint n]) (chAt L (fun y => y.parent == k) i) off row ∧ s = ⟨[(1, dint k), (5, .ref 0 g off (chAt L (fun y => y.parent == k) i).length), (8, kls L), (9, dint L.length), (10, dint i)], [⟨.arr, g, 1, off + (chAt L (fun y => y.parent == k) i).length, row⟩]⟩) L.length
    (s0 := ⟨[(1, dint k), (5, .ref 0 0 0 0), (8, kls L), (9, dint L.length), (10, dint 0)], [⟨.arr, 0, 1, 0, fun _ => []⟩]⟩)
    (Weak.trans (Weak.phantom 5 1 (fun i => []) rfl) (Weak.frame (by simp only [go_sem, simprocAttr]))) ⟨0, 0, fun _ => [], .nil, rfl⟩ ?_
  rintro i s hi ⟨g, off, row, hr, rfl⟩
  have hcl := chAt_len L (fun y => y.parent == k) i
  have hwr := wrap_succ (show i < 4611686018427387904 by omega)
  refine kont_of_hx cx_ok hb 200 ?_
  simp only [go_sem, simprocAttr]
  first | refine hite_lt hi (fun hk1 => ?_) (fun hk1 => ?_) | refine hite_ltI hi (fun hk1 => ?_) (fun hk1 => ?_)
  · obtain ⟨M, hM⟩ : ∃ M, M = chAt L (fun y => y.parent == k) i := ⟨_, rfl⟩
    obtain ⟨e, he⟩ : ∃ e, e = L.getD i default := ⟨_, rfl⟩
    have hst : chAt L (fun y => y.parent == k) (i + 1) = if (e.parent == k) = true then M ++ [e.iD] else M := by rw [hM, he]; rfl
    rw [← hM] at hr hcl ⊢
    simp only [go_sem, simprocAttr, hk1, ← he]
    by_cases hc : e.parent = k
    · rw [if_pos (beqT hc)] at hst
      have hb4 : M.length ≤ 4294967295 := by omega
      have hr2 : RowsAt (fun n : Int => [dint n]) (chAt L (fun y => y.parent == k) (i + 1)) 0 (appRow M.length off row fun _ => [dint e.iD]) := by rw [hst]; exact hr.app e.iD rfl
      have hl2 : (chAt L (fun y => y.parent == k) (i + 1)).length = M.length + 1 := by rw [hst]; simp
      simp only [go_sem, simprocAttr, beqT hc, hb4]
      refine ⟨hk1, _, Weak.to 1 ⟨?_, by simp only [go_sem, simprocAttr], ?_, ?_⟩, g + 1, 0, _, hr2, rfl⟩
      · simp only [go_sem, simprocAttr, hwr, hl2]
      · exact ⟨hr2.upto intUp, trivial⟩
      · simp only [go_sem, simprocAttr, hl2]
    · rw [if_neg (by simpa using hc)] at hst
      have hr2 : RowsAt (fun n : Int => [dint n]) (chAt L (fun y => y.parent == k) (i + 1)) off row := by rw [hst]; exact hr
      simp only [go_sem, simprocAttr, beqF hc]
      refine ⟨hk1, _, Weak.to 1 ⟨?_, by simp only [go_sem, simprocAttr], ?_, ?_⟩, g, off, row, hr2, rfl⟩
      · simp only [go_sem, simprocAttr, hwr, hst]
      · exact ⟨hr2.upto intUp, trivial⟩
      · simp only [go_sem, simprocAttr, hst]
  · have h1 : i = L.length := by omega
    subst h1
    rw [hall]
    refine kont_of_hx cx_ok hb 200 ?_
    simp only [go_sem, simprocAttr]
    exact ⟨hr.upto intUp, g, off, row, rfl, rfl, hr⟩
end Go.Fg.X
namespace Go.Fg.X
open Go.Proofs Go.Fg
set_option maxRecDepth 100000
set_option maxHeartbeats 4000000
set_option linter.unusedSimpArgs false
set_option linter.unusedVariables false
theorem findI_cases (L : List Kls) (k : Int) : (findC L k = none ∧ findI L k = -1) ∨ ∃ i, i < L.length ∧ findI L k = (i : Int) ∧ findC L k = some (L.getD i default) := by
  cases h : L.findIdx? (fun c => c.iD == k) with
  | none =>
    refine .inl ⟨?_, by rw [findI, h]⟩
    rw [findC, List.find?_eq_none]
    intro x hx
    have := List.findIdx?_eq_none_iff.1 h x hx
    simp [this]
  | some i =>
    obtain ⟨h1, h2, h3⟩ := List.findIdx?_eq_some_iff_getElem.1 h
    refine .inr ⟨i, h1, by rw [findI, h], ?_⟩
    rw [findC, List.find?_eq_some_iff_getElem]
    refine ⟨by simpa [List.getD_eq_getElem?_getD, h1] using h2, i, h1, by simp [List.getD_eq_getElem?_getD, h1], fun j hj => ?_⟩
    have := h3 j hj
    simpa using this
theorem rshares_ok (L : List Kls) (id : Int) (hl : L.length < 1000000) (hn : ∀ c ∈ L, c.Nn) : AFn Tryz.prog 51 [kls L, dint id] (Ret (dbool (sharesC L id))) := by
  refine AFn_hxk 0 cx_ok 200 Tryz.func51 rfl Tryz.ntmps51 Tryz.results51 rfl fun base w hb => ?_
  simp only [go_sem, simprocAttr]
  refine kont_call hb fn50 rfl ?_ (rfind_ok L id hl) (Ret.flat rfl) rfl fun d h hR => ?_
  · simp only [go_sem, simprocAttr]
  obtain ⟨rfl, rfl⟩ := hR
  refine kont_of_hx cx_ok hb 200 ?_
  simp only [go_sem, simprocAttr]
  by_cases h0 : id = 0
  · have e : sharesC L id = true := by simp [sharesC, h0]
    simp only [go_sem, simprocAttr, beqT h0, Go.undef, e]
  · have e : sharesC L id = decide (1 < ofI ((findC L id).getD default).ls) := by simp [sharesC, h0]
    rw [e]
    simp only [go_sem, simprocAttr, beqF h0, Go.undef]
    rcases findI_cases L id with ⟨h1, h2⟩ | ⟨i, hi, h2, h1⟩
    · rw [h1, h2]
      simp only [go_sem, simprocAttr, Go.undef]
      rfl
    · rw [h1, h2]
      have hmem : L.getD i default ∈ L := by rw [List.getD_eq_getElem?_getD, List.getElem?_eq_getElem hi]; exact List.getElem_mem hi
      have hN := hn _ hmem
      have hge : (0 : Int) ≤ (i : Int) := by omega
      simp only [go_sem, simprocAttr, Go.undef, decide_eq_true hge, hi]
      refine kont_call hb fn26 rfl ?_ (rofcI_ok (L.getD i default).ls hN.2.1.1 hN.2.1.2.1 hN.2.1.2.2) (Ret.flat rfl) rfl fun d h hR => ?_
      · simp only [go_sem, simprocAttr, Go.undef, Option.getD_some]
      obtain ⟨rfl, rfl⟩ := hR
      refine kont_of_hx cx_ok hb 200 ?_
      simp only [go_sem, simprocAttr, Go.undef, Option.getD_some]
end Go.Fg.X
namespace Go.Fg.X
open Go.Proofs Go.Fg
set_option maxRecDepth 100000
set_option maxHeartbeats 4000000
set_option linter.unusedSimpArgs false
set_option linter.unusedVariables false
theorem rup_ok (L : List Kls) (id : Int) (hl : L.length < 1000000) : AFn Tryz.prog 52 [kls L, dint id] (RetS 1 (fun n : Int => [dint n]) (upF L 70 id)) := by
  refine AFn_hxk 1 cx_ok 200 Tryz.func52 rfl Tryz.ntmps52 Tryz.results52 rfl fun base w hb => ?_
  simp only [go_sem, Nat.reduceAdd, Nat.reduceSub, Nat.reduceMul, Nat.reduceBEq, Nat.reduceLT, Nat.reduceLeDiff, Nat.reduceEqDiff, Int.reduceToNat, Int.reduceLE, Int.reduceLT, Int.reduceAdd, Int.reduceSub, Int.reduceNeg, Int.reduceBEq, Int.reduceBNe, Nat.reduceBNe, Nat.reduceDiv, Nat.reduceMod]
  refine kont_for (fun i s => ∃ dn cur g off row, dn ++ upF L (70 - i) cur = upF L 70 id ∧ dn.length = i ∧ RowsAt (fun n : Int => [dint n]) dn off row ∧ s = ⟨[(0, kls L), (5, .ref 0 g off dn.length), (6, dint cur), (9, dint i)], [⟨.arr, g, 1, off + dn.length, row⟩]⟩) 70
    (s0 := ⟨[(0, kls L), (5, .ref 0 0 0 0), (6, dint id), (9, dint 0)], [⟨.arr, 0, 1, 0, fun _ => []⟩]⟩)
    (Weak.trans (Weak.phantom 5 1 (fun i => []) rfl) (Weak.frame (by simp only [go_sem, Nat.reduceAdd, Nat.reduceSub, Nat.reduceMul, Nat.reduceBEq, Nat.reduceLT, Nat.reduceLeDiff, Nat.reduceEqDiff, Int.reduceToNat, Int.reduceLE, Int.reduceLT, Int.reduceAdd, Int.reduceSub, Int.reduceNeg, Int.reduceBEq, Int.reduceBNe, Nat.reduceBNe, Nat.reduceDiv, Nat.reduceMod]))) ⟨[], id, 0, 0, fun _ => [], rfl, rfl, .nil, rfl⟩ ?_
  rintro i s hi ⟨dn, cur, g, off, row, hd, hdl, hr, rfl⟩
  have hwr := wrap_succ (show i < 4611686018427387904 by omega)
  by_cases hk1 : i < 70
  · have hki : ((i : Int) < 70) := by omega
    obtain ⟨n, hn⟩ : ∃ n, 70 - i = n + 1 := ⟨69 - i, by omega⟩
    have hn2 : 70 - (i + 1) = n := by omega
    rw [hn, upF] at hd
    rcases findI_cases L cur with ⟨h1, h2⟩ | ⟨j, hj, h2, h1⟩
    · rw [h1, List.append_nil] at hd
      rw [← hd]
      refine kont_of_hx cx_ok hb 200 ?_
      simp only [go_sem, Nat.reduceAdd, Nat.reduceSub, Nat.reduceMul, Nat.reduceBEq, Nat.reduceLT, Nat.reduceLeDiff, Nat.reduceEqDiff, Int.reduceToNat, Int.reduceLE, Int.reduceLT, Int.reduceAdd, Int.reduceSub, Int.reduceNeg, Int.reduceBEq, Int.reduceBNe, Nat.reduceBNe, Nat.reduceDiv, Nat.reduceMod, hki, decide_eq_true hki]
      refine kont_call hb fn50 rfl ?_ (rfind_ok L cur hl) (Ret.flat rfl) rfl fun d h hR => ?_
      · simp only [go_sem, Nat.reduceAdd, Nat.reduceSub, Nat.reduceMul, Nat.reduceBEq, Nat.reduceLT, Nat.reduceLeDiff, Nat.reduceEqDiff, Int.reduceToNat, Int.reduceLE, Int.reduceLT, Int.reduceAdd, Int.reduceSub, Int.reduceNeg, Int.reduceBEq, Int.reduceBNe, Nat.reduceBNe, Nat.reduceDiv, Nat.reduceMod, h2]
      obtain ⟨rfl, rfl⟩ := hR
      refine kont_of_hx cx_ok hb 200 ?_
      simp only [go_sem, Nat.reduceAdd, Nat.reduceSub, Nat.reduceMul, Nat.reduceBEq, Nat.reduceLT, Nat.reduceLeDiff, Nat.reduceEqDiff, Int.reduceToNat, Int.reduceLE, Int.reduceLT, Int.reduceAdd, Int.reduceSub, Int.reduceNeg, Int.reduceBEq, Int.reduceBNe, Nat.reduceBNe, Nat.reduceDiv, Nat.reduceMod, h2]
      refine kont_of_hx cx_ok hb 200 ?_
      simp only [go_sem, Nat.reduceAdd, Nat.reduceSub, Nat.reduceMul, Nat.reduceBEq, Nat.reduceLT, Nat.reduceLeDiff, Nat.reduceEqDiff, Int.reduceToNat, Int.reduceLE, Int.reduceLT, Int.reduceAdd, Int.reduceSub, Int.reduceNeg, Int.reduceBEq, Int.reduceBNe, Nat.reduceBNe, Nat.reduceDiv, Nat.reduceMod]
      exact ⟨hr.upto intUp, g, off, row, rfl, rfl, hr⟩
    · rw [h1] at hd
      have hb4 : dn.length ≤ 4294967295 := by omega
      have hr2 : RowsAt (fun n : Int => [dint n]) (dn ++ [cur]) 0 (appRow dn.length off row fun _ => [dint cur]) := hr.app cur rfl
      have hge : ¬ ((j : Int) < 0) := by omega
      refine kont_of_hx cx_ok hb 200 ?_
      simp only [go_sem, Nat.reduceAdd, Nat.reduceSub, Nat.reduceMul, Nat.reduceBEq, Nat.reduceLT, Nat.reduceLeDiff, Nat.reduceEqDiff, Int.reduceToNat, Int.reduceLE, Int.reduceLT, Int.reduceAdd, Int.reduceSub, Int.reduceNeg, Int.reduceBEq, Int.reduceBNe, Nat.reduceBNe, Nat.reduceDiv, Nat.reduceMod, hki, decide_eq_true hki]
      refine kont_call hb fn50 rfl ?_ (rfind_ok L cur hl) (Ret.flat rfl) rfl fun d h hR => ?_
      · simp only [go_sem, Nat.reduceAdd, Nat.reduceSub, Nat.reduceMul, Nat.reduceBEq, Nat.reduceLT, Nat.reduceLeDiff, Nat.reduceEqDiff, Int.reduceToNat, Int.reduceLE, Int.reduceLT, Int.reduceAdd, Int.reduceSub, Int.reduceNeg, Int.reduceBEq, Int.reduceBNe, Nat.reduceBNe, Nat.reduceDiv, Nat.reduceMod, h2, hb4, decide_eq_false hge, hj]
      obtain ⟨rfl, rfl⟩ := hR
      refine kont_of_hx cx_ok hb 200 ?_
      simp only [go_sem, Nat.reduceAdd, Nat.reduceSub, Nat.reduceMul, Nat.reduceBEq, Nat.reduceLT, Nat.reduceLeDiff, Nat.reduceEqDiff, Int.reduceToNat, Int.reduceLE, Int.reduceLT, Int.reduceAdd, Int.reduceSub, Int.reduceNeg, Int.reduceBEq, Int.reduceBNe, Nat.reduceBNe, Nat.reduceDiv, Nat.reduceMod, h2, hb4, decide_eq_false hge, hj]
      refine ⟨hk1, _, Weak.to 1 ⟨?_, by simp only [go_sem, Nat.reduceAdd, Nat.reduceSub, Nat.reduceMul, Nat.reduceBEq, Nat.reduceLT, Nat.reduceLeDiff, Nat.reduceEqDiff, Int.reduceToNat, Int.reduceLE, Int.reduceLT, Int.reduceAdd, Int.reduceSub, Int.reduceNeg, Int.reduceBEq, Int.reduceBNe, Nat.reduceBNe, Nat.reduceDiv, Nat.reduceMod], ?_, ?_⟩, dn ++ [cur], (L.getD j default).parent, g + 1, 0, _, ?_, by simp [hdl], hr2, rfl⟩
      · simp only [go_sem, Nat.reduceAdd, Nat.reduceSub, Nat.reduceMul, Nat.reduceBEq, Nat.reduceLT, Nat.reduceLeDiff, Nat.reduceEqDiff, Int.reduceToNat, Int.reduceLE, Int.reduceLT, Int.reduceAdd, Int.reduceSub, Int.reduceNeg, Int.reduceBEq, Int.reduceBNe, Nat.reduceBNe, Nat.reduceDiv, Nat.reduceMod, hwr, List.length_append, List.length_singleton]
      · exact ⟨hr2.upto intUp, trivial⟩
      · simp only [go_sem, Nat.reduceAdd, Nat.reduceSub, Nat.reduceMul, Nat.reduceBEq, Nat.reduceLT, Nat.reduceLeDiff, Nat.reduceEqDiff, Int.reduceToNat, Int.reduceLE, Int.reduceLT, Int.reduceAdd, Int.reduceSub, Int.reduceNeg, Int.reduceBEq, Int.reduceBNe, Nat.reduceBNe, Nat.reduceDiv, Nat.reduceMod, List.length_append, List.length_singleton]
      · rw [hn2, ← hd]; simp
  · have h1 : i = 70 := by omega
    subst h1
    rw [upF, List.append_nil] at hd
    rw [← hd]
    have h70 : decide (((70 : Nat) : Int) < 70) = false := by decide
    refine kont_of_hx cx_ok hb 200 ?_
    simp only [go_sem, Nat.reduceAdd, Nat.reduceSub, Nat.reduceMul, Nat.reduceBEq, Nat.reduceLT, Nat.reduceLeDiff, Nat.reduceEqDiff, Int.reduceToNat, Int.reduceLE, Int.reduceLT, Int.reduceAdd, Int.reduceSub, Int.reduceNeg, Int.reduceBEq, Int.reduceBNe, Nat.reduceBNe, Nat.reduceDiv, Nat.reduceMod, h70]
    refine kont_of_hx cx_ok hb 200 ?_
    simp only [go_sem, Nat.reduceAdd, Nat.reduceSub, Nat.reduceMul, Nat.reduceBEq, Nat.reduceLT, Nat.reduceLeDiff, Nat.reduceEqDiff, Int.reduceToNat, Int.reduceLE, Int.reduceLT, Int.reduceAdd, Int.reduceSub, Int.reduceNeg, Int.reduceBEq, Int.reduceBNe, Nat.reduceBNe, Nat.reduceDiv, Nat.reduceMod]
    exact ⟨hr.upto intUp, g, off, row, rfl, rfl, hr⟩
end Go.Fg.X
namespace Go.Fg.X
open Go.Proofs Go.Fg
set_option maxRecDepth 100000
set_option maxHeartbeats 4000000
set_option linter.unusedSimpArgs false
set_option linter.unusedVariables false
/-- What the reference's put has done behind the first i classes: the list, and whether the class was put. -/
def putAt (L : List Kls) (x : Kls) : Nat → List Kls × Bool
  | 0 => ([], false)
  | i + 1 =>
    let o := if !(putAt L x i).2 && decide (x.iD ≤ (L.getD i default).iD) then (putAt L x i).1 ++ [x] else (putAt L x i).1
    (if (L.getD i default).iD ≠ x.iD then o ++ [L.getD i default] else o, (putAt L x i).2 || decide (x.iD ≤ (L.getD i default).iD))
def putOut (L : List Kls) (x : Kls) : List Kls := if (putAt L x L.length).2 then (putAt L x L.length).1 else (putAt L x L.length).1 ++ [x]
/-- The same by the list's own steps. -/
def putGo (x : Kls) : List Kls → List Kls × Bool → List Kls × Bool
  | [], s => s
  | c :: r, s =>
    let o := if !s.2 && decide (x.iD ≤ c.iD) then s.1 ++ [x] else s.1
    putGo x r (if c.iD ≠ x.iD then o ++ [c] else o, s.2 || decide (x.iD ≤ c.iD))
theorem putGo_snoc (x : Kls) : ∀ (L : List Kls) (c : Kls) (s : List Kls × Bool), putGo x (L ++ [c]) s = putGo x [c] (putGo x L s)
  | [], c, s => rfl
  | d :: L, c, s => by simp only [List.cons_append]; rw [putGo, putGo_snoc x L c]; rfl
theorem putAt_go (L : List Kls) (x : Kls) : ∀ i, i ≤ L.length → putAt L x i = putGo x (L.take i) ([], false)
  | 0, _ => by simp [putAt, putGo]
  | i + 1, h => by
    have hi : i < L.length := by omega
    rw [List.take_add_one, List.getElem?_eq_getElem hi, Option.toList_some, putGo_snoc, ← putAt_go L x i (by omega)]
    simp only [putAt, putGo, List.getD_eq_getElem?_getD, List.getElem?_eq_getElem hi, Option.getD_some]
theorem putGo_true (x : Kls) : ∀ (L o : List Kls), (∀ c ∈ L, c.iD ≠ x.iD) → putGo x L (o, true) = (o ++ L, true)
  | [], o, _ => by simp [putGo]
  | c :: L, o, h => by
    have h1 := h c (by simp)
    simp only [putGo, Bool.not_true, Bool.false_and, Bool.false_eq_true, if_false, Bool.true_or]
    rw [if_pos h1, putGo_true x L _ fun d hd => h d (by simp [hd])]
    simp
theorem putGo_putC (x : Kls) : ∀ (L o : List Kls), Rising L → (let s := putGo x L (o, false); if s.2 then s.1 else s.1 ++ [x]) = o ++ putC L x
  | [], o, _ => by simp [putGo, putC]
  | c :: L, o, h => by
    have hr : Rising L := List.Pairwise.of_cons h
    have hc : ∀ d ∈ L, c.iD < d.iD := fun d hd => (List.pairwise_cons.1 h).1 d hd
    simp only [putGo, putC, Bool.not_false, Bool.true_and, Bool.false_or, decide_eq_true_eq]
    by_cases h1 : x.iD < c.iD
    · have h2 : x.iD ≤ c.iD := by omega
      have h3 : c.iD ≠ x.iD := by omega
      rw [if_pos h1, if_pos h2, if_pos h3, decide_eq_true h2, putGo_true x L _ fun d hd => by have := hc d hd; omega]
      simp
    · by_cases h2 : c.iD = x.iD
      · have h4 : x.iD ≤ c.iD := by omega
        rw [if_neg h1, if_pos h2, if_pos h4, if_neg (show ¬ (c.iD ≠ x.iD) from fun hn => hn h2), decide_eq_true h4, putGo_true x L _ fun d hd => by have := hc d hd; omega]
        simp
      · have h4 : ¬ x.iD ≤ c.iD := by omega
        have ih := putGo_putC x L (o ++ [c]) hr
        simp only at ih
        rw [if_neg h1, if_neg h2, if_neg h4, if_pos h2, decide_eq_false h4, ih]
        simp
theorem putOut_eq {L : List Kls} (h : Rising L) (x : Kls) : putOut L x = putC L x := by
  have := putGo_putC x L [] h
  simp only [List.nil_append] at this
  rw [putOut, putAt_go L x _ (Nat.le_refl _), List.take_length, this]
end Go.Fg.X
namespace Go.Fg.X
open Go.Proofs Go.Fg
set_option maxRecDepth 100000
set_option maxHeartbeats 4000000
set_option linter.unusedSimpArgs false
set_option linter.unusedVariables false
/-- A curve, of numbers that are not below 0. -/
structure Nc where
  a : Nat
  d : Nat
  b : Nat
instance : Inhabited Nc := ⟨⟨0, 0, 0⟩⟩
@[go_sem] def Nc.cells (c : Nc) : List D := [u64 c.a, u64 c.d, u64 c.b]
def Nc.rows (l : List Nc) : Nat → List D := fun i => (l.getD i default).cells
@[go_sem] theorem Nc.rows_at (l : List Nc) (i : Nat) : Nc.rows l i = (l.getD i default).cells := rfl
@[go_sem] def ncs (l : List Nc) : D := .imm 3 l.length (Nc.rows l)
@[go_sem] def dnc (c : Nc) : D := .agg c.cells
def Nc.of (c : Nc) : Int := ofV c.a c.d c.b
def Nc.Lt (c : Nc) : Prop := c.a < 18446744073709551616 ∧ c.d < 18446744073709551616 ∧ c.b < 18446744073709551616
/-- What a function value tells of a curve, as a wide number. -/
def TellsN (F : List Ob) (f nf : Nat) (caps : List D) (g : Nc → Nat) : Prop := ∀ (h : List Ob) (c : Nc), c.Lt → ExtF F h → RFn0 Tryz.prog f h (argsD nf caps [dnc c]) (fun d => d = num (g c))
def sumF (g : Nc → Nat) (s : Nat) (c : Nc) : Nat := if c.of = 0 then s else s + g c
def sumG (g : Nc → Nat) (l : List Nc) : Nat := l.foldl (sumF g) 0
theorem sumF_le {g : Nc → Nat} {M : Nat} (hg : ∀ c : Nc, c.Lt → g c ≤ M) : ∀ {l : List Nc} {s : Nat}, (∀ c ∈ l, c.Lt) → l.foldl (sumF g) s ≤ s + l.length * M
  | [], s, _ => by simp
  | c :: l, s, h => by
    have h1 := hg c (h c (by simp))
    have h2 := sumF_le hg (l := l) (s := sumF g s c) fun x hx => h x (by simp [hx])
    have h3 : sumF g s c ≤ s + M := by unfold sumF; split <;> omega
    simp only [List.foldl_cons, List.length_cons, Nat.add_mul, Nat.one_mul]
    omega
def oNum (n : Nat) : Ob := ⟨.one, 0, 2, 1, fun _ => [u64 (n / 18446744073709551616), u64 (n % 18446744073709551616)]⟩
structure OvI (l : List Nc) (so : D) (g : Nc → Nat) (F : List Ob) (i : Nat) (s : St) : Prop where
  ex : ∃ G : List Ob, s = ⟨[(1, so), (4, .ptr F.length 0 0 0), (5, .ptr (F.length + 1) 0 0 0), (8, ncs l), (9, dint l.length), (10, dint i)], F ++ (oNum 0 :: oNum ((l.take i).foldl (sumF g) 0) :: G)⟩
theorem sover_ok (h : List Ob) (l : List Nc) (hl : l.length < 1048576) (hc : ∀ c ∈ l, c.Lt) (so : D) (f nf : Nat) (caps : List D) (hf : FnOk Tryz.prog f) (hso : calleeD so = some (f, nf, caps)) (g : Nc → Nat) (hgM : ∀ c : Nc, c.Lt → g c ≤ 2 ^ 97)
    (hg : TellsN (h.map Ob.ro) f nf caps g) : RFn0 Tryz.prog 77 h [ncs l, so] (fun d => d = num (sumG g l)) := by
  refine RFn0_hx cx_ok 200 Tryz.func77 rfl Tryz.ntmps77 Tryz.results77 rfl fun base w pl F hF hFl hb => ?_
  simp only [go_sem, simprocAttr, hgetA, hgetL, hgetLk, hsetA, hsetL, hsetLk, List.length_append, List.length_set, List.append_assoc, List.set_set]
  refine kont_for (OvI l so g F) l.length (s0 := ⟨[(1, so), (4, .ptr F.length 0 0 0), (5, .ptr (F.length + 1) 0 0 0), (8, ncs l), (9, dint l.length), (10, dint 0)], F ++ [oNum 0, oNum 0]⟩) (Weak.frame (by simp only [go_sem, simprocAttr])) ⟨[], rfl⟩ ?_
  rintro i s hi ⟨G, rfl⟩
  have hwr := wrap_succ (show i < 4611686018427387904 by omega)
  obtain ⟨S, hS⟩ : ∃ S, S = (l.take i).foldl (sumF g) 0 := ⟨_, rfl⟩
  have hSl : S ≤ 2 ^ 117 := by
    have h1 := sumF_le hgM (l := l.take i) (s := 0) fun x hx => hc x (List.mem_of_mem_take hx)
    have h2 : (l.take i).length ≤ 1048576 := by simp; omega
    have h3 := Nat.mul_le_mul_right (2 ^ 97) h2
    rw [hS]; omega
  rw [← hS]
  refine kont_of_hx cx_ok hb 200 ?_
  simp only [go_sem, simprocAttr, hgetA, hgetL, hgetLk, hsetA, hsetL, hsetLk, List.length_append, List.length_set, List.append_assoc, List.set_set]
  first | refine hite_lt hi (fun hk1 => ?_) (fun hk1 => ?_) | refine hite_ltI hi (fun hk1 => ?_) (fun hk1 => ?_)
  · obtain ⟨c, hcc⟩ : ∃ c, c = l.getD i default := ⟨_, rfl⟩
    have hcl : c.Lt := hc c (by rw [hcc, List.getD_eq_getElem?_getD, List.getElem?_eq_getElem hk1]; exact List.getElem_mem hk1)
    have hst : (l.take (i + 1)).foldl (sumF g) 0 = sumF g S c := by
      rw [List.take_add_one, List.getElem?_eq_getElem hk1, Option.toList_some, List.foldl_append, hS, hcc, List.getD_eq_getElem?_getD, List.getElem?_eq_getElem hk1]; rfl
    simp only [go_sem, simprocAttr, hgetA, hgetL, hgetLk, hsetA, hsetL, hsetLk, List.length_append, List.length_set, List.append_assoc, List.set_set, hk1, ← hcc]
    refine kont_call hb fn40 rfl ?_ (right_ok c.a c.d c.b) (Ret.flat rfl) rfl fun d h hR => ?_
    · simp only [go_sem, simprocAttr, hgetA, hgetL, hgetLk, hsetA, hsetL, hsetLk, List.length_append, List.length_set, List.append_assoc, List.set_set]
    obtain ⟨rfl, rfl⟩ := hR
    refine kont_of_hx cx_ok hb 200 ?_
    simp only [go_sem, simprocAttr, hgetA, hgetL, hgetLk, hsetA, hsetL, hsetLk, List.length_append, List.length_set, List.append_assoc, List.set_set]
    by_cases h0 : c.of = 0
    · have h0' : ofV c.a c.d c.b = 0 := h0
      have hs2 : sumF g S c = S := by rw [sumF, if_pos h0]
      simp only [go_sem, simprocAttr, hgetA, hgetL, hgetLk, hsetA, hsetL, hsetLk, List.length_append, List.length_set, List.append_assoc, List.set_set, beqT h0', bne]
      refine ⟨hk1, _, Weak.frame (fr' := [(1, so), (4, .ptr F.length 0 0 0), (5, .ptr (F.length + 1) 0 0 0), (8, ncs l), (9, dint l.length), (10, dint (i + 1 : Nat))]) (by simp only [go_sem, simprocAttr, hwr]), ⟨_, by rw [hst, hs2]⟩⟩
    · have h0' : ofV c.a c.d c.b ≠ 0 := h0
      have hs2 : sumF g S c = S + g c := by rw [sumF, if_neg h0]
      have hgc := hgM c hcl
      simp only [go_sem, simprocAttr, hgetA, hgetL, hgetLk, hsetA, hsetL, hsetLk, List.length_append, List.length_set, List.append_assoc, List.set_set, beqF h0', bne]
      have hadd := add_ok S (g c) (by omega) (by omega)
      rw [Nat.mod_eq_of_lt (by omega : S + g c < 2 ^ 128)] at hadd
      refine kont_hax cx_ok hb 200 mixed [(0, true), (1, true), (2, true), (3, false), (4, false), (5, true), (6, true), (7, true), (8, false)] (by kernel_rfl) (by kernel_rfl) ?_
      simp only [go_sem, simprocAttr, hgetA, hgetL, hgetLk, hsetA, hsetL, hsetLk, List.length_append, List.length_set, List.append_assoc, List.set_set, oNum]
      refine AX_callR0 hb hf hso ?_ (hg _ c hcl (by rw [← hF]; exact ⟨_, rfl⟩)) rfl fun d2 hR => ?_
      · simp only [go_sem, simprocAttr]
        exact argsEq_refl _
      subst hR
      refine AX_of_hax cx_ok hb ?_
      simp only [go_sem, simprocAttr, hgetA, hgetL, hgetLk, hsetA, hsetL, hsetLk, List.length_append, List.length_set, List.append_assoc, List.set_set]
      refine AX_call hb fn94 rfl ?_ hadd (Ret.flat rfl) rfl fun d h hR => ?_
      · simp only [go_sem, simprocAttr, hgetA, hgetL, hgetLk, hsetA, hsetL, hsetLk, List.length_append, List.length_set, List.append_assoc, List.set_set]
      obtain ⟨rfl, rfl⟩ := hR
      refine AX_of_hax cx_ok hb ?_
      simp only [go_sem, simprocAttr, hgetA, hgetL, hgetLk, hsetA, hsetL, hsetLk, List.length_append, List.length_set, List.append_assoc, List.set_set]
      refine ⟨hk1, _, Weak.frame (fr' := [(1, so), (4, .ptr F.length 0 0 0), (5, .ptr (F.length + 1) 0 0 0), (8, ncs l), (9, dint l.length), (10, dint (i + 1 : Nat))]) (by simp only [go_sem, simprocAttr, hwr]), ⟨G ++ [⟨.one, 0, 3, 1, fun _ => c.cells⟩], ?_⟩⟩
      rw [hst, hs2]
      rfl
  · subst hk1
    rw [List.take_length] at hS
    have e : sumG g l = S := hS.symm
    rw [e]
    refine kont_of_hx cx_ok hb 200 ?_
    simp only [go_sem, simprocAttr, hgetA, hgetL, hgetLk, hsetA, hsetL, hsetLk, List.length_append, List.length_set, List.append_assoc, List.set_set, oNum]
    exact ⟨_, rfl⟩
theorem sslope1_ok (h : List Ob) (c : Nc) (hc : c.Lt) : RFn0 Tryz.prog 78 h [dnc c] (fun d => d = num c.b) := by
  refine RFn0_hx cx_ok 200 Tryz.func78 rfl Tryz.ntmps78 Tryz.results78 rfl fun base w pl F hF hFl hb => ?_
  simp only [go_sem, simprocAttr, hgetA, hgetL, hgetLk, hsetA, hsetL, hsetLk, List.length_append, List.length_set, List.append_assoc, List.set_set]
  refine kont_call hb fn79 rfl ?_ (of_ok c.b hc.2.2) (Ret.flat rfl) rfl fun d h hR => ?_
  · simp only [go_sem, simprocAttr, hgetA, hgetL, hgetLk, hsetA, hsetL, hsetLk, List.length_append, List.length_set, List.append_assoc, List.set_set]
  obtain ⟨rfl, rfl⟩ := hR
  refine kont_of_hx cx_ok hb 200 ?_
  simp only [go_sem, simprocAttr, hgetA, hgetL, hgetLk, hsetA, hsetL, hsetLk, List.length_append, List.length_set, List.append_assoc, List.set_set]
  exact ⟨_, rfl⟩
theorem sslope_ok (l : List Nc) (hl : l.length < 1048576) (hc : ∀ c ∈ l, c.Lt) : AFn Tryz.prog 56 [ncs l] (Ret (num (sumG (fun c => c.b) l))) := by
  refine AFn_hxk 0 cx_ok 200 Tryz.func56 rfl Tryz.ntmps56 Tryz.results56 rfl fun base w hb => ?_
  simp only [go_sem, simprocAttr]
  refine kont_callR0 hb fn77 rfl ?_ (sover_ok _ l hl hc (.raw (.func (.func 78) ⟨[]⟩ ⟨[]⟩)) 78 0 [] fn78 rfl (fun c => c.b) (fun c h => by have := h.2.2; omega) (fun h' c hc _ => sslope1_ok h' c hc)) rfl fun d2 hR => ?_
  · simp only [go_sem, simprocAttr]
  subst hR
  refine kont_of_hx cx_ok hb 200 ?_
  simp only [go_sem, simprocAttr]
theorem sserv1_ok (h : List Ob) (b1 t : Nat) (ht : t < 18446744073709551616) (c : Nc) (h1 : (h.map Ob.ro)[b1]? = some ⟨.rone, 0, 1, 1, fun _ => [u64 t]⟩) : RFn0 Tryz.prog 82 h [dnc c, .ptr b1 0 0 0] (fun d => d = num (serV c.a c.d c.b t)) := by
  refine RFn0_hx cx_ok 200 Tryz.func82 rfl Tryz.ntmps82 Tryz.results82 rfl fun base w pl F hF hFl hb => ?_
  rw [← hF] at h1
  have h1_l := hlt h1
  simp only [go_sem, simprocAttr, hgetA, hgetL, hgetLk, hsetA, hsetL, hsetLk, List.length_append, List.length_set, List.append_assoc, List.set_set, h1, h1_l]
  refine kont_call hb fn66 rfl ?_ (service_ok c.a c.d c.b t ht) (Ret.flat rfl) rfl fun d h hR => ?_
  · simp only [go_sem, simprocAttr, hgetA, hgetL, hgetLk, hsetA, hsetL, hsetLk, List.length_append, List.length_set, List.append_assoc, List.set_set, h1, h1_l]
  obtain ⟨rfl, rfl⟩ := hR
  refine kont_of_hx cx_ok hb 200 ?_
  simp only [go_sem, simprocAttr, hgetA, hgetL, hgetLk, hsetA, hsetL, hsetLk, List.length_append, List.length_set, List.append_assoc, List.set_set, h1, h1_l]
  exact ⟨_, rfl⟩
theorem sservice_ok (l : List Nc) (t : Nat) (ht : t < 18446744073709551616) (hl : l.length < 1048576) (hc : ∀ c ∈ l, c.Lt) : AFn Tryz.prog 58 [ncs l, u64 t] (Ret (num (sumG (fun c => serV c.a c.d c.b t) l))) := by
  have hM : ∀ c : Nc, c.Lt → serV c.a c.d c.b t ≤ 2 ^ 97 := fun c _ => by have := serV_lt c.a c.d c.b t ht; omega
  refine AFn_hxk 0 cx_ok 200 Tryz.func58 rfl Tryz.ntmps58 Tryz.results58 rfl fun base w hb => ?_
  simp only [go_sem, simprocAttr]
  have hT : TellsN (([⟨.one, 0, 1, 1, fun _ => [u64 t]⟩, oNum 0] : List Ob).map Ob.ro) 82 0 [.ptr 0 0 0 0] (fun c => serV c.a c.d c.b t) := fun h' c hc hx => by
    obtain ⟨g, rfl⟩ := hx
    exact sserv1_ok _ 0 t ht c rfl
  refine kont_callR0 hb fn77 rfl ?_ (sover_ok _ l hl hc (.clo 82 0 [.ptr 0 0 0 0]) 82 0 [.ptr 0 0 0 0] fn82 rfl (fun c => serV c.a c.d c.b t) hM hT) rfl fun d2 hR => ?_
  · simp only [go_sem, simprocAttr]
  subst hR
  refine kont_of_hx cx_ok hb 200 ?_
  simp only [go_sem, simprocAttr]
end Go.Fg.X
namespace Go.Fg.X
open Go.Proofs Go.Fg
set_option maxRecDepth 100000
set_option maxHeartbeats 4000000
set_option linter.unusedSimpArgs false
set_option linter.unusedVariables false
theorem w641 : IntKind.i64.wrap 1 = 1 := by decide
theorem w640 : IntKind.i64.wrap 0 = 0 := by decide
theorem wu640 : IntKind.u64.wrap 0 = 0 := by decide
theorem len64z_ok : AFn Tryz.prog 120 [u64 0] (Ret (dint 0)) := by
  refine AFn_hxk 0 cx_ok 200 Tryz.func120 rfl Tryz.ntmps120 Tryz.results120 rfl fun base w hb => ?_
  simp only [go_sem, simprocAttr]
  exact ⟨by decide +kernel, congrArg D.raw (congrArg (Value.int .i64) (by decide +kernel))⟩
theorem lenz_ok : AFn Tryz.prog 99 [u64 0] (Ret (dint 0)) := by
  refine AFn_hxk 0 cx_ok 200 Tryz.func99 rfl Tryz.ntmps99 Tryz.results99 rfl fun base w hb => ?_
  simp only [go_sem, simprocAttr]
  refine kont_call hb fn120 rfl ?_ len64z_ok (Ret.flat rfl) rfl fun d h hR => ?_
  · simp only [go_sem, simprocAttr]
  obtain ⟨rfl, rfl⟩ := hR
  refine kont_of_hx cx_ok hb 200 ?_
  simp only [go_sem, simprocAttr]
theorem insz_ok : AFn Tryz.prog 121 [.nil, dint 0, dint 0] (Ret (.tup [])) := by
  refine AFn_hxk 0 cx_ok 200 Tryz.func121 rfl Tryz.ntmps121 Tryz.results121 rfl fun base w hb => ?_
  simp only [go_sem, simprocAttr]
  refine kont_for (fun k s => s = ⟨[(0, .nil), (1, dint 0), (2, dint 0), (6, dint 1)], []⟩) 0 (Weak.frame (by simp only [go_sem, simprocAttr, w641])) rfl ?_
  rintro k s hk rfl
  refine kont_of_hx cx_ok hb 200 ?_
  simp only [go_sem, simprocAttr, w641]
theorem pdqz_ok : AFn Tryz.prog 102 [.nil, dint 0, dint 0, dint 0] (Ret (.tup [])) := by
  refine AFn_hxk 0 cx_ok 200 Tryz.func102 rfl Tryz.ntmps102 Tryz.results102 rfl fun base w hb => ?_
  simp only [go_sem, simprocAttr]
  refine kont_for (fun k s => s = ⟨[(0, .nil), (1, dint 0), (2, dint 0), (3, dint 0)], []⟩) 0 (Weak.frame (by simp only [go_sem, simprocAttr])) rfl ?_
  rintro k s hk rfl
  refine kont_of_hx cx_ok hb 200 ?_
  simp only [go_sem, simprocAttr, w640]
  refine kont_call hb fn121 rfl ?_ insz_ok (Ret.flat rfl) rfl fun d h hR => ?_
  · simp only [go_sem, simprocAttr]
  obtain ⟨rfl, rfl⟩ := hR
  refine kont_of_hx cx_ok hb 200 ?_
  simp only [go_sem, simprocAttr]
theorem compz_ok : AFn Tryz.prog 81 [.nil] (Ret .nil) := by
  refine AFn_hxk 0 cx_ok 200 Tryz.func81 rfl Tryz.ntmps81 Tryz.results81 rfl fun base w hb => ?_
  simp only [go_sem, simprocAttr]
theorem sortz_ok : AFn Tryz.prog 80 [.nil] (Ret (.tup [])) := by
  refine AFn_hxk 0 cx_ok 200 Tryz.func80 rfl Tryz.ntmps80 Tryz.results80 rfl fun base w hb => ?_
  simp only [go_sem, simprocAttr]
  refine kont_call hb fn99 rfl ?_ lenz_ok (Ret.flat rfl) rfl fun d h hR => ?_
  · simp only [go_sem, simprocAttr, w640, wu640]
  obtain ⟨rfl, rfl⟩ := hR
  refine kont_of_hx cx_ok hb 200 ?_
  simp only [go_sem, simprocAttr, w640, wu640]
  refine kont_call hb fn102 rfl ?_ pdqz_ok (Ret.flat rfl) rfl fun d h hR => ?_
  · simp only [go_sem, simprocAttr]
  obtain ⟨rfl, rfl⟩ := hR
  refine kont_of_hx cx_ok hb 200 ?_
  simp only [go_sem, simprocAttr]
theorem idxz_ok (h : List Ob) (so : D) : RFn0 Tryz.prog 85 h [.nil, so] (fun d => d = dint (-1)) := by
  refine RFn0_hx cx_ok 200 Tryz.func85 rfl Tryz.ntmps85 Tryz.results85 rfl fun base w pl F hF hFl hb => ?_
  simp only [go_sem, simprocAttr, hgetA, hgetL, hgetLk, hsetA, hsetL, hsetLk, List.length_append, List.length_set, List.append_assoc, List.set_set]
  refine kont_for (fun k s => s = ⟨[(7, dint 0), (8, dint 0)], F⟩) 0 (Weak.frame (by simp only [go_sem, simprocAttr])) rfl ?_
  rintro k s hk rfl
  refine kont_of_hx cx_ok hb 200 ?_
  simp only [go_sem, simprocAttr, hgetA, hgetL, hgetLk, hsetA, hsetL, hsetLk, List.length_append, List.length_set, List.append_assoc, List.set_set]
  refine kont_of_hx cx_ok hb 200 ?_
  simp only [go_sem, simprocAttr, hgetA, hgetL, hgetLk, hsetA, hsetL, hsetLk, List.length_append, List.length_set, List.append_assoc, List.set_set]
  exact ⟨[], (List.append_nil F).symm⟩
end Go.Fg.X
namespace Go.Fg.X
open Go.Proofs Go.Fg
set_option maxRecDepth 100000
set_option maxHeartbeats 4000000
set_option linter.unusedSimpArgs false
set_option linter.unusedVariables false
/-- What a function value tells of a curve. -/
def TellsC (F : List Ob) (f nf : Nat) (caps : List D) (g : Nc → Bool) : Prop := ∀ (h : List Ob) (c : Nc), ExtF F h → RFn0 Tryz.prog f h (argsD nf caps [dnc c]) (fun d => d = dbool (g c))
def firstC (g : Nc → Bool) (l : List Nc) : Int := match l.findIdx? g with
  | some i => i
  | none => -1
theorem firstC_at {g : Nc → Bool} {l : List Nc} {k : Nat} (hk : k < l.length) (h : ∀ i, i < k → g (l.getD i default) = false) (hg : g (l.getD k default) = true) : firstC g l = k := by
  have e : l.findIdx? g = some k := by
    rw [List.findIdx?_eq_some_iff_getElem]
    refine ⟨hk, by simpa [List.getD_eq_getElem?_getD, hk] using hg, fun i hi => ?_⟩
    have := h i hi
    simpa [List.getD_eq_getElem?_getD, show i < l.length by omega] using this
  rw [firstC, e]
theorem firstC_none {g : Nc → Bool} {l : List Nc} (h : ∀ i, i < l.length → g (l.getD i default) = false) : firstC g l = -1 := by
  have e : l.findIdx? g = none := by
    rw [List.findIdx?_eq_none_iff]
    intro x hx
    obtain ⟨i, hi, rfl⟩ := List.getElem_of_mem hx
    have := h i hi
    simpa [List.getD_eq_getElem?_getD, hi] using this
  rw [firstC, e]
theorem firstC_any (g : Nc → Bool) (l : List Nc) : decide (0 ≤ firstC g l) = l.any g := by
  unfold firstC
  cases h : l.findIdx? g with
  | some i =>
    obtain ⟨h1, h2, _⟩ := List.findIdx?_eq_some_iff_getElem.1 h
    have e : l.any g = true := List.any_eq_true.2 ⟨_, List.getElem_mem h1, h2⟩
    rw [e]; simp
  | none =>
    have := List.findIdx?_eq_none_iff.1 h
    have e : l.any g = false := by rw [List.any_eq_false]; intro x hx; simp [this x hx]
    rw [e]; decide
section
variable (h : List Ob) (l : List Nc) (hlen : l.length < 1048576)
include hlen
theorem indexC_ok (so : D) (f nf : Nat) (caps : List D) (hf : FnOk Tryz.prog f) (hso : calleeD so = some (f, nf, caps)) (gk : Nc → Bool) (hg : TellsC (h.map Ob.ro) f nf caps gk) :
    RFn0 Tryz.prog 103 h [ncs l, so] (fun d => d = dint (firstC gk l)) := by
  refine RFn0_hx cx_ok 200 Tryz.func103 rfl Tryz.ntmps103 Tryz.results103 rfl fun base w pl F hF hFl hb => ?_
  simp only [go_sem, simprocAttr, hgetA, hgetL, hgetLk, hsetA, hsetL, hsetLk, List.length_append, List.length_set, List.append_assoc, List.set_set]
  refine kont_for (fun k s => (∀ i, i < k → gk (l.getD i default) = false) ∧ s = ⟨[(0, ncs l), (1, so), (7, dint l.length), (8, dint k)], F⟩) l.length (Weak.frame (by simp only [go_sem, simprocAttr])) ⟨fun i hi => absurd hi (by omega), rfl⟩ ?_
  rintro k s hk ⟨hn, rfl⟩
  refine kont_of_hx cx_ok hb 200 ?_
  simp only [go_sem, simprocAttr, hgetA, hgetL, hgetLk, hsetA, hsetL, hsetLk, List.length_append, List.length_set, List.append_assoc, List.set_set]
  have hwr := wrap_succ (show k < 4611686018427387904 by omega)
  first | refine hite_lt hk (fun hk1 => ?_) (fun hk1 => ?_) | refine hite_ltI hk (fun hk1 => ?_) (fun hk1 => ?_)
  · simp only [go_sem, simprocAttr, hgetA, hgetL, hgetLk, hsetA, hsetL, hsetLk, List.length_append, List.length_set, List.append_assoc, List.set_set, hk1]
    refine kont_callR0 hb hf hso ?_ (hg F (l.getD k default) (by rw [← hF]; exact ExtF.refl F)) rfl fun d2 hR => ?_
    · simp only [go_sem, simprocAttr]
      exact argsEq_refl _
    subst hR
    refine kont_of_hx cx_ok hb 200 ?_
    cases hgk : gk (l.getD k default)
    · simp only [go_sem, simprocAttr, hgetA, hgetL, hgetLk, hsetA, hsetL, hsetLk, List.length_append, List.length_set, List.append_assoc, List.set_set]
      refine ⟨hk1, _, Weak.frame (fr' := [(0, ncs l), (1, so), (7, dint l.length), (8, dint (k + 1 : Nat))]) (by simp only [go_sem, simprocAttr, hwr]), fun i hi => ?_, rfl⟩
      by_cases h1 : i < k
      · exact hn i h1
      · have : i = k := by omega
        subst this; exact hgk
    · rw [firstC_at hk1 hn hgk]
      simp only [go_sem, simprocAttr, hgetA, hgetL, hgetLk, hsetA, hsetL, hsetLk, List.length_append, List.length_set, List.append_assoc, List.set_set]
      exact ⟨[], (List.append_nil F).symm⟩
  · have hk1 : k = l.length := by omega
    subst hk1
    simp only [go_sem, simprocAttr, Nat.lt_irrefl]
    rw [firstC_none hn]
    refine kont_of_hx cx_ok hb 200 ?_
    simp only [go_sem, simprocAttr, hgetA, hgetL, hgetLk, hsetA, hsetL, hsetLk, List.length_append, List.length_set, List.append_assoc, List.set_set]
    exact ⟨[], (List.append_nil F).symm⟩
theorem containsC_ok (so : D) (f nf : Nat) (caps : List D) (hf : FnOk Tryz.prog f) (hso : calleeD so = some (f, nf, caps)) (gk : Nc → Bool) (hg : TellsC (h.map Ob.ro) f nf caps gk) :
    RFn0 Tryz.prog 83 h [ncs l, so] (fun d => d = dbool (l.any gk)) := by
  rw [← firstC_any]
  refine RFn0_hx cx_ok 200 Tryz.func83 rfl Tryz.ntmps83 Tryz.results83 rfl fun base w pl F hF hFl hb => ?_
  simp only [go_sem, simprocAttr, hgetA, hgetL, hgetLk, hsetA, hsetL, hsetLk, List.length_append, List.length_set, List.append_assoc, List.set_set]
  refine kont_callR0 hb fn103 rfl ?_ (indexC_ok F l hlen so f nf caps hf hso gk (fun h' n hx => ?_)) rfl fun d2 hR => ?_
  · simp only [go_sem, simprocAttr]
    exact argEq_refl so
  · rw [hF, roro_map] at hx
    exact hg h' n hx
  subst hR
  refine kont_of_hx cx_ok hb 200 ?_
  simp only [go_sem, simprocAttr, hgetA, hgetL, hgetLk, hsetA, hsetL, hsetLk, List.length_append, List.length_set, List.append_assoc, List.set_set]
  exact ⟨[], (List.append_nil F).symm⟩
end
theorem may1_ok (h : List Ob) (c : Nc) : RFn0 Tryz.prog 84 h [dnc c] (fun d => d = dbool (c.of == 0)) := by
  refine RFn0_hx cx_ok 200 Tryz.func84 rfl Tryz.ntmps84 Tryz.results84 rfl fun base w pl F hF hFl hb => ?_
  simp only [go_sem, simprocAttr, hgetA, hgetL, hgetLk, hsetA, hsetL, hsetLk, List.length_append, List.length_set, List.append_assoc, List.set_set]
  refine kont_call hb fn40 rfl ?_ (right_ok c.a c.d c.b) (Ret.flat rfl) rfl fun d h hR => ?_
  · simp only [go_sem, simprocAttr, hgetA, hgetL, hgetLk, hsetA, hsetL, hsetLk, List.length_append, List.length_set, List.append_assoc, List.set_set]
  obtain ⟨rfl, rfl⟩ := hR
  refine kont_of_hx cx_ok hb 200 ?_
  simp only [go_sem, simprocAttr, hgetA, hgetL, hgetLk, hsetA, hsetL, hsetLk, List.length_append, List.length_set, List.append_assoc, List.set_set]
  refine ⟨_, rfl, ?_⟩
  simp only [bne, Bool.not_not]
  rfl
def badL (l : List Nc) : Bool := l.any fun c => c.of == 0
def mayE (t : Int) (l : List Nc) : Int := if t < 1 ∨ 65536 < t then 1 else if badL l = true then 21 else 0
theorem amay_ok (t : Int) (l : List Nc) (hl : l.length < 1048576) : AFn Tryz.prog 59 [dint t, ncs l] (Ret (dint (mayE t l))) := by
  have hcf := containsC_ok [] l hl (.raw (.func (.func 84) ⟨[]⟩ ⟨[]⟩)) 84 0 [] fn84 rfl (fun c => c.of == 0) (fun h' c _ => may1_ok h' c)
  rw [show (l.any fun c => c.of == 0) = badL l from rfl] at hcf
  refine AFn_hxk 0 cx_ok 200 Tryz.func59 rfl Tryz.ntmps59 Tryz.results59 rfl fun base w hb => ?_
  simp only [go_sem, simprocAttr]
  repeat' (first | ((first | refine hite_dec (fun h => ?_) (fun h => ?_) | refine hite_beq (fun h => ?_) (fun h => ?_) | refine hite_bne (fun h => ?_) (fun h => ?_) | refine hite_intro (fun h => ?_) (fun h => ?_) | refine hite_decA (fun h => ?_) (fun h => ?_) | refine hite_beqA (fun h => ?_) (fun h => ?_) | refine hite_bneA (fun h => ?_) (fun h => ?_) | refine hite_intro' (fun h => ?_) (fun h => ?_)) <;> (try simp only [go_sem, simprocAttr, Go.undef])) | (refine And.intro (by first | assumption | omega) ?_; try simp only [go_sem, simprocAttr, Go.undef]) | (refine kont_callR0 hb fn83 rfl ?_ (hcf) rfl ?_; (· simp only [go_sem, simprocAttr, hgetA, hgetL, hgetLk, hsetA, hsetL, hsetLk, List.length_append, List.length_set, List.append_assoc, List.set_set, Go.undef]); intro d hR; subst hR; refine kont_of_hx cx_ok hb 200 ?_; simp only [go_sem, simprocAttr, hgetA, hgetL, hgetLk, hsetA, hsetL, hsetLk, List.length_append, List.length_set, List.append_assoc, List.set_set, Go.undef]) | fail)
  all_goals (congr 2; unfold mayE; simp_all; try omega)
end Go.Fg.X
/- A slice that a call built and hands back, told as a closed value. No conditions. -/
namespace Go.Fg.X
set_option linter.unusedSimpArgs false
set_option linter.unusedVariables false
open Go.Proofs Go.Fg
open Go.RowKit (Below)
set_option maxRecDepth 100000
theorem RelO.nil {Z : Nat → Prop} {base : Nat} {w : World} : RelO Z base [] [] w := ⟨rfl, fun l l' b q q' e1 e2 => by simp at e1, fun l o e => by simp at e, fun l o b q e => by simp at e⟩
/-- What a call built and hands back within something, told as a closed value. -/
theorem freezeG {P : Program} {f : FuncId} {args : List D} {R : D → List Ob → Prop} (d2 : D) (hu : d2.upto 0 = true)
    (hd : ∀ d hh, R d hh → ∃ g sz n row, hh = [⟨.arr, g, sz, n, row⟩] ∧ (∀ i, i < n → (row i).all D.cl1 = true) ∧ dLe 6 (D.fz 0 g n sz row d) d2) (h : AFn P f args R) : AFn P f args (Ret d2) := by
  intro Z base w pl vs h1 h2 h3 hl hc
  have hpl : pl = [] := by have := h3.len; simpa using this
  subst hpl
  refine (h Z base w [] vs h1 h2 h3 hl hc).mono fun e w' he => ?_
  obtain ⟨v, d, hh, pl', rfl, hR, hO, hV, hT, hB⟩ := he
  obtain ⟨g, sz, n, row, rfl, hcl, hle⟩ := hd _ _ hR
  have hlen : pl'.length = 1 := by have := hO.len; simpa using this
  obtain ⟨p, rfl⟩ : ∃ p, pl' = [p] := by
    match pl', hlen with
    | [p], _ => exact ⟨p, rfl⟩
  have hfz := hV.fz (l := 0) (o := ⟨.arr, g, sz, n, row⟩) (p := p) rfl rfl rfl (fun b q e => by
    subst e
    refine ⟨h2 b ?_, fun l' q' e' => ?_, (hO.at_ 0 _ b q rfl rfl).2.cells rfl⟩
    · rcases Nat.lt_or_ge b w.heap.size with hlt | hge
      · exact absurd rfl ((hT.old b (fun i q e => by simp at e) hlt).1 0 q)
      · exact hge
    · have := ltp_of_some e'; simp at this; exact this) hcl (h' := [Ob.gone ⟨.arr, g, sz, n, row⟩]) (fun l' o' hne e => by
    have := lt_of_some e
    simp at this; exact absurd this hne)
  have h5 := (dLe_rel 6 hle hfz).take hu
  exact ⟨v, _, [], [], rfl, ⟨rfl, rfl⟩, RelO.nil, h5, ⟨fun b hb hlt => ⟨hb, (hT.old b hb hlt).2⟩, fun l o p e => by simp at e, fun l o o' b q e => by simp at e⟩, hB⟩

end Go.Fg.X
/- A slice that a call built beside other objects and hands back, told as a closed value; the other objects are forgotten. No conditions. -/
namespace Go.Fg.X
set_option linter.unusedSimpArgs false
set_option linter.unusedVariables false
open Go.Proofs Go.Fg
open Go.RowKit (Below)
set_option maxRecDepth 100000
theorem freezeH {P : Program} {f : FuncId} {args : List D} {R : D → List Ob → Prop} (d2 : D) (hu : d2.upto 0 = true)
    (hd : ∀ d hh, R d hh → dLe 6 d d2 ∨ ∃ lo g sz n row, hh[lo]? = some ⟨.arr, g, sz, n, row⟩ ∧ (∀ i, i < n → (row i).all D.cl1 = true) ∧ dLe 6 (D.fz lo g n sz row d) d2) (h : AFn P f args R) : AFn P f args (Ret d2) := by
  intro Z base w pl vs h1 h2 h3 hl hc
  have hpl : pl = [] := by have := h3.len; simpa using this
  subst hpl
  refine (h Z base w [] vs h1 h2 h3 hl hc).mono fun e w' he => ?_
  obtain ⟨v, d, hh, pl', rfl, hR, hO, hV, hT, hB⟩ := he
  suffices fin : RelV Z [] [] w' d2 v by
    exact ⟨v, _, [], [], rfl, ⟨rfl, rfl⟩, RelO.nil, fin, ⟨fun b hb hlt => ⟨hb, (hT.old b hb hlt).2⟩, fun l o p e => by simp at e, fun l o o' b q e => by simp at e⟩, hB⟩
  rcases hd _ _ hR with hle | ⟨lo, g, sz, n, row, hlo, hcl, hle⟩
  · exact (dLe_rel 6 hle hV).take hu
  have hlt : lo < pl'.length := by rw [hO.len]; exact (List.getElem?_eq_some_iff.1 hlo).1
  obtain ⟨p, hp⟩ : ∃ p, pl'[lo]? = some p := ⟨_, List.getElem?_eq_getElem hlt⟩
  have hfz := hV.fz (l := lo) (o := ⟨.arr, g, sz, n, row⟩) (p := p) hlo hp rfl (fun b q e => by
    subst e
    refine ⟨h2 b ?_, fun l' q' e' => ?_, (hO.at_ lo _ b q hlo hp).2.cells rfl⟩
    · rcases Nat.lt_or_ge b w.heap.size with hlt | hge
      · exact absurd hp ((hT.old b (fun i q e => by simp at e) hlt).1 lo q)
      · exact hge
    · exact hO.inj _ _ _ _ _ e' hp) hcl (h' := hh.set lo (Ob.gone ⟨.arr, g, sz, n, row⟩)) (fun l' o' hne e => by
    exact ⟨o', by rw [List.getElem?_set_ne (Ne.symm hne)]; exact e, rfl, rfl, rfl⟩)
  exact (dLe_rel 6 hle hfz).take hu
end Go.Fg.X
/- An object's rows told in other words. No conditions. -/
namespace Go.Fg
set_option linter.unusedSimpArgs false
set_option linter.unusedVariables false
theorem Kd.like_self (k : Kd) : k.like k := by cases k <;> simp [Kd.like, Kd.ty]
theorem obLe_self (o : Ob) : obLe o o := ⟨rfl, rfl, rfl, Kd.like_self _, fun _ _ => rfl⟩
theorem obsLe_self : ∀ h : List Ob, obsLe h h
  | [] => trivial
  | o :: r => ⟨obLe_self o, obsLe_self r⟩
theorem obsLe_set : ∀ {h : List Ob} {l : Nat} {o : Ob} (row' : Nat → List D), h[l]? = some o → (∀ i, i < o.n → o.row i = row' i) → obsLe h (h.set l ⟨o.kd, o.gen, o.sz, o.n, row'⟩)
  | [], l, o, row', e, _ => by simp at e
  | x :: r, 0, o, row', e, he => by
    simp only [List.getElem?_cons_zero, Option.some.injEq] at e
    subst e
    exact ⟨⟨rfl, rfl, rfl, Kd.like_self _, fun i hi => (he i hi).symm⟩, obsLe_self r⟩
  | x :: r, l + 1, o, row', e, he => ⟨obLe_self x, obsLe_set (h := r) row' (by simpa using e) he⟩
theorem Weak.rows {w0 : Start} {fr : List (Nat × D)} {h : List Ob} (l : Nat) {o : Ob} (row' : Nat → List D) (ho : h[l]? = some o) (he : ∀ i, i < o.n → o.row i = row' i) : Weak w0 ⟨fr, h⟩ ⟨fr, h.set l ⟨o.kd, o.gen, o.sz, o.n, row'⟩⟩ := (Wk.obs (obsLe_set row' ho he)).up
end Go.Fg
/- The knees of curves, in order: walked. Conditions: fewer than 2^20 curves. -/
namespace Go.Fg.X
open Go.Proofs Go.Fg
set_option maxRecDepth 100000
set_option maxHeartbeats 8000000
set_option linter.unusedSimpArgs false
set_option linter.unusedVariables false
def isKnee (c : Nc) : Bool := c.of == 3 || c.of == 4
def kneeL (l : List Nc) : List Int := (l.filter isKnee).map fun c => (c.d : Int)
theorem kneeL_succ (l : List Nc) (i : Nat) (h : i < l.length) : kneeL (l.take (i + 1)) = if isKnee (l.getD i default) = true then kneeL (l.take i) ++ [((l.getD i default).d : Int)] else kneeL (l.take i) := by
  unfold kneeL
  rw [List.take_add_one, List.getElem?_eq_getElem h]
  simp only [Option.toList_some, List.filter_append, List.getD_eq_getElem?_getD, List.getElem?_eq_getElem h, Option.getD_some, List.map_append]
  by_cases hg : isKnee l[i] = true
  · rw [if_pos hg, List.filter_cons_of_pos hg]; rfl
  · rw [if_neg hg, List.filter_cons_of_neg hg]; simp
theorem kneeL_len (l : List Nc) (i : Nat) : (kneeL (l.take i)).length ≤ i := by
  have := List.length_filter_le isKnee (l.take i)
  simp only [kneeL, List.length_map]
  simp at this; omega
def sortedK (l : List Nc) : Array Int := Sort.sort ltI (kneeL l).toArray
def kneesV (l : List Nc) : List Int := cN (fun i => (sortedK l)[i]!) (sortedK l).size
theorem sortedK_size (l : List Nc) : (sortedK l).size = (kneeL l).length := by
  unfold sortedK Sort.sort
  rw [pdq_sz _ _ _ _ _ _ _ (Nat.le_refl _)]
  rfl
theorem sortedK_perm (l : List Nc) : (sortedK l).toList.Perm (kneeL l) := by
  have h := (Sort.sort_sorts ltI ltI_swo (kneeL l).toArray).1.2.2
  have e1 : ((Sort.sort ltI (kneeL l).toArray).extract 0 (kneeL l).toArray.size).toList = (sortedK l).toList := by
    have := sortedK_size l
    unfold sortedK at this ⊢
    rw [show (kneeL l).toArray.size = (Sort.sort ltI (kneeL l).toArray).size from this.symm]
    simp
  rw [e1] at h
  simpa using h
theorem kneesV_mem (l : List Nc) (x : Int) : x ∈ kneesV l ↔ ∃ c, c ∈ l ∧ isKnee c = true ∧ (c.d : Int) = x := by
  unfold kneesV
  rw [cN_mem]
  have h1 : (∃ i, i < (sortedK l).size ∧ (sortedK l)[i]! = x) ↔ x ∈ (sortedK l).toList := by
    rw [List.mem_iff_getElem]
    constructor
    · rintro ⟨i, hi, e⟩
      exact ⟨i, by simpa using hi, by rw [← e, Array.getElem!_eq_getD, Array.getD_eq_getD_getElem?, Array.getElem?_eq_getElem hi]; simp⟩
    · rintro ⟨i, hi, e⟩
      have hi' : i < (sortedK l).size := by simpa using hi
      exact ⟨i, hi', by rw [← e, Array.getElem!_eq_getD, Array.getD_eq_getD_getElem?, Array.getElem?_eq_getElem hi']; simp⟩
  rw [h1, (sortedK_perm l).mem_iff]
  simp [kneeL, and_assoc]
@[go_sem] def uIs (K : List Int) : D := .imm 1 K.length fun i => [uI (K.getD i 0)]
theorem rowsA_eq {M : List Int} {row : Nat → List D} (hr : RowsAt (fun n : Int => [uI n]) M 0 row) : ∀ i, i < M.length → row i = rowA M.toArray i := fun i hi => by
  have := hr.at_ i hi
  rw [Nat.zero_add] at this
  rw [this]
  unfold rowA
  simp [List.getD_eq_getElem?_getD, List.getElem?_eq_getElem hi, hi]
theorem knees_ok (l : List Nc) (hl : l.length < 1048576) : AFn Tryz.prog 57 [ncs l] (Ret (uIs (kneesV l))) := by
  refine freezeH (uIs (kneesV l)) rfl (?_ : ∀ d hh, (∃ g n row, d = .ref 0 g 0 (kneesV l).length ∧ hh = [⟨.arr, g, 1, n, row⟩] ∧ (∀ i, i < n → (row i).all D.cl1 = true) ∧ (kneesV l).length ≤ n ∧ ∀ i, i < (kneesV l).length → row i = [uI ((kneesV l).getD i 0)]) → _) ?_
  · rintro d hh ⟨g, n, row, rfl, rfl, hcl, hn, hrow⟩
    right
    refine ⟨0, g, 1, n, row, rfl, hcl, ?_⟩
    have e1 : D.fz 0 g n 1 row (.ref 0 g 0 (kneesV l).length) = .imm 1 (kneesV l).length (rowFrom 0 row) := by simp [D.fz, nat_ble, hn]
    rw [e1]
    simp only [uIs]
    rw [dLe_imm]
    refine ⟨rfl, rfl, fun i hi => ?_⟩
    rw [rowFrom_at, Nat.zero_add, hrow i hi]
    exact lLeOf_refl (dLe_refl _) _
  refine AFn_hxk 1 cx_ok 200 Tryz.func57 rfl Tryz.ntmps57 Tryz.results57 rfl fun base w hb => ?_
  simp only [go_sem, simprocAttr]
  refine kont_for (fun i s => ∃ g row, RowsAt (fun n : Int => [uI n]) (kneeL (l.take i)) 0 row ∧ s = ⟨[(3, .ref 0 g 0 (kneeL (l.take i)).length), (7, ncs l), (8, dint l.length), (9, dint i)], [⟨.arr, g, 1, (kneeL (l.take i)).length, row⟩]⟩) l.length
    (s0 := ⟨[(3, .ref 0 0 0 0), (7, ncs l), (8, dint l.length), (9, dint 0)], [⟨.arr, 0, 1, 0, fun _ => []⟩]⟩)
    (Weak.trans (Weak.phantom 3 1 (fun i => []) rfl) (Weak.frame (by simp only [go_sem, simprocAttr]))) ⟨0, fun _ => [], .nil, rfl⟩ ?_
  rintro i s hi ⟨g, row, hr, rfl⟩
  have hcl := kneeL_len l i
  have hwr := wrap_succ (show i < 4611686018427387904 by omega)
  refine kont_of_hx cx_ok hb 200 ?_
  simp only [go_sem, simprocAttr]
  first | refine hite_lt hi (fun hk1 => ?_) (fun hk1 => ?_) | refine hite_ltI hi (fun hk1 => ?_) (fun hk1 => ?_)
  · obtain ⟨M, hM⟩ : ∃ M, M = kneeL (l.take i) := ⟨_, rfl⟩
    obtain ⟨e, he⟩ : ∃ e, e = l.getD i default := ⟨_, rfl⟩
    have hst := kneeL_succ l i hk1
    rw [← hM, ← he] at hst
    rw [← hM] at hr hcl ⊢
    have hb4 : M.length ≤ 4294967295 := by omega
    have hr2 : RowsAt (fun n : Int => [uI n]) (M ++ [(e.d : Int)]) 0 (appRow M.length 0 row fun _ => [uI e.d]) := hr.app (e.d : Int) rfl
    simp only [go_sem, simprocAttr, hk1, ← he]
    refine kont_call hb fn41 rfl ?_ (ofc_ok e.a e.d e.b) (Ret.flat rfl) rfl fun d h hR => ?_
    · simp only [go_sem, simprocAttr]
    obtain ⟨rfl, rfl⟩ := hR
    refine kont_of_hx cx_ok hb 200 ?_
    simp only [go_sem, simprocAttr]
    cases e3 : ofV e.a e.d e.b == 3
    · cases e4 : ofV e.a e.d e.b == 4
      · have hb : isKnee e = false := by show (ofV e.a e.d e.b == 3 || ofV e.a e.d e.b == 4) = false; rw [e3, e4]; rfl
        rw [hb, if_neg (by decide)] at hst
        simp only [go_sem, simprocAttr, e3, e4, Go.undef]
        repeat (refine And.intro (by omega) ?_)
        refine ⟨_, Weak.to 1 ⟨?_, by simp only [go_sem, simprocAttr], ?_, ?_⟩, g, row, by rw [hst]; exact hr, rfl⟩
        · simp only [go_sem, simprocAttr, hwr, hst, List.length_append, List.length_singleton]
        · exact ⟨fun j hj => hr.upto (fun a => rfl) j (by have hj2 := hj; simp only [hst] at hj2; simpa using hj2), trivial⟩
        · simp only [go_sem, simprocAttr, hst, List.length_append, List.length_singleton]
      · have hb : isKnee e = true := by show (ofV e.a e.d e.b == 3 || ofV e.a e.d e.b == 4) = true; rw [e3, e4]; rfl
        rw [hb, if_pos rfl] at hst
        simp only [go_sem, simprocAttr, e3, e4, Go.undef, hb4]
        repeat (refine And.intro (by omega) ?_)
        refine ⟨_, Weak.to 1 ⟨?_, by simp only [go_sem, simprocAttr], ?_, ?_⟩, g + 1, _, by rw [hst]; exact hr2, rfl⟩
        · simp only [go_sem, simprocAttr, hwr, hst, List.length_append, List.length_singleton]
        · exact ⟨fun j hj => hr2.upto (fun a => rfl) j (by have hj2 := hj; simp only [hst] at hj2; simpa using hj2), trivial⟩
        · simp only [go_sem, simprocAttr, hst, List.length_append, List.length_singleton]
    · have hb : isKnee e = true := by show (ofV e.a e.d e.b == 3 || ofV e.a e.d e.b == 4) = true; rw [e3]; rfl
      rw [hb, if_pos rfl] at hst
      simp only [go_sem, simprocAttr, e3, Go.undef, hb4]
      repeat (refine And.intro (by omega) ?_)
      refine ⟨_, Weak.to 1 ⟨?_, by simp only [go_sem, simprocAttr], ?_, ?_⟩, g + 1, _, by rw [hst]; exact hr2, rfl⟩
      · simp only [go_sem, simprocAttr, hwr, hst, List.length_append, List.length_singleton]
      · exact ⟨fun j hj => hr2.upto (fun a => rfl) j (by have hj2 := hj; simp only [hst] at hj2; simpa using hj2), trivial⟩
      · simp only [go_sem, simprocAttr, hst, List.length_append, List.length_singleton]
  · have h1 : i = l.length := by omega
    subst h1
    rw [List.take_length] at hr ⊢
    have hsz : (kneeL l).toArray.size = (kneeL l).length := rfl
    have hk2 : (kneeL l).length ≤ l.length := by have := kneeL_len l l.length; rw [List.take_length] at this; exact this
    have hsk := sortedK_size l
    have hcn := cN_le (fun i => (sortedK l)[i]!) (sortedK l).size
    refine kont_of_hx cx_ok hb 200 ?_
    simp only [go_sem, simprocAttr]
    refine kont_weak_ops (Weak.rows 0 (rowA (kneeL l).toArray) (by exact rfl) ?_) ?_
    · intro i hi; dsimp only at hi ⊢; exact rowsA_eq hr i hi
    simp only [go_sem, simprocAttr]
    refine kont_callH hb fn80 rfl ?_ (sortU_ok (h := [arrO g (kneeL l).toArray]) (lo := 0) (g := g) (d := (kneeL l).toArray) rfl (by rw [hsz]; omega)) rfl fun d h hR => ?_
    · simp only [go_sem, simprocAttr, List.size_toArray]
    obtain ⟨rfl, t, rfl⟩ := hR
    refine kont_of_hx cx_ok hb 200 ?_
    simp only [go_sem, simprocAttr, List.size_toArray]
    refine kont_callH hb fn81 rfl ?_ (hsk ▸ compactU_ok (h := [arrO g (kneeL l).toArray].set 0 (arrO g (sortedK l)) ++ t) (lo := 0) (g := g) (d := sortedK l) rfl (by omega)) rfl fun d h hR => ?_
    · simp only [go_sem, simprocAttr]
    obtain ⟨rfl, row2, rfl, hrow2, hall⟩ := hR
    refine kont_of_hx cx_ok hb 200 ?_
    simp only [go_sem, simprocAttr]
    refine ⟨fun i hi => ?_, g, (kneeL l).length, row2, ?_, rfl, fun i hi => ?_, ?_, ?_⟩
    · obtain ⟨x, hx⟩ := hall i
      rw [hx]; rfl
    · unfold kneesV; rw [hsk]
    · obtain ⟨x, hx⟩ := hall i
      rw [hx]; rfl
    · unfold kneesV; omega
    · intro i hi
      have := hrow2 i (by unfold kneesV at hi; rw [hsk] at hi; exact hi)
      rw [this]
      unfold kneesV; rw [hsk]; rfl
end Go.Fg.X
/- Whether a link carries curves: walked. Conditions: fewer than 2^20 curves. -/
namespace Go.Fg.X
open Go.Proofs Go.Fg
set_option maxRecDepth 100000
set_option maxHeartbeats 8000000
set_option linter.unusedSimpArgs false
set_option linter.unusedVariables false
/-- What a function value tells of numbers of a list. -/
def TellsU (F : List Ob) (f nf : Nat) (caps : List D) (K : List Int) (g : Int → Bool) : Prop := ∀ (h : List Ob) (x : Int), x ∈ K → ExtF F h → RFn0 Tryz.prog f h (argsD nf caps [uI x]) (fun d => d = dbool (g x))
def firstU (g : Int → Bool) (l : List Int) : Int := match l.findIdx? g with
  | some i => i
  | none => -1
theorem firstU_at {g : Int → Bool} {l : List Int} {k : Nat} (hk : k < l.length) (h : ∀ i, i < k → g (l.getD i 0) = false) (hg : g (l.getD k 0) = true) : firstU g l = k := by
  have e : l.findIdx? g = some k := by
    rw [List.findIdx?_eq_some_iff_getElem]
    refine ⟨hk, by simpa [List.getD_eq_getElem?_getD, hk] using hg, fun i hi => ?_⟩
    have := h i hi
    simpa [List.getD_eq_getElem?_getD, show i < l.length by omega] using this
  rw [firstU, e]
theorem firstU_none {g : Int → Bool} {l : List Int} (h : ∀ i, i < l.length → g (l.getD i 0) = false) : firstU g l = -1 := by
  have e : l.findIdx? g = none := by
    rw [List.findIdx?_eq_none_iff]
    intro x hx
    obtain ⟨i, hi, rfl⟩ := List.getElem_of_mem hx
    have := h i hi
    simpa [List.getD_eq_getElem?_getD, hi] using this
  rw [firstU, e]
theorem firstU_any (g : Int → Bool) (l : List Int) : decide (0 ≤ firstU g l) = l.any g := by
  unfold firstU
  cases h : l.findIdx? g with
  | some i =>
    obtain ⟨h1, h2, _⟩ := List.findIdx?_eq_some_iff_getElem.1 h
    have e : l.any g = true := List.any_eq_true.2 ⟨_, List.getElem_mem h1, h2⟩
    rw [e]; simp
  | none =>
    have := List.findIdx?_eq_none_iff.1 h
    have e : l.any g = false := by rw [List.any_eq_false]; intro x hx; simp [this x hx]
    rw [e]; decide
theorem firstU_lt {g : Int → Bool} {l : List Int} (h : 0 ≤ firstU g l) : (firstU g l).toNat < l.length := by
  unfold firstU at h ⊢
  cases e : l.findIdx? g with
  | some i => obtain ⟨h1, _⟩ := List.findIdx?_eq_some_iff_getElem.1 e; simpa using h1
  | none => rw [e] at h; simp at h
theorem getD_memI {l : List Int} {i : Nat} (h : i < l.length) : l.getD i 0 ∈ l := by
  rw [List.getD_eq_getElem?_getD, List.getElem?_eq_getElem h]; exact List.getElem_mem h
section
variable (h : List Ob) (K : List Int) (hlen : K.length < 1048576)
include hlen
theorem indexU_ok (so : D) (f nf : Nat) (caps : List D) (hf : FnOk Tryz.prog f) (hso : calleeD so = some (f, nf, caps)) (gk : Int → Bool) (hg : TellsU (h.map Ob.ro) f nf caps K gk) :
    RFn0 Tryz.prog 85 h [uIs K, so] (fun d => d = dint (firstU gk K)) := by
  refine RFn0_hx cx_ok 200 Tryz.func85 rfl Tryz.ntmps85 Tryz.results85 rfl fun base w pl F hF hFl hb => ?_
  simp only [go_sem, simprocAttr, hgetA, hgetL, hgetLk, hsetA, hsetL, hsetLk, List.length_append, List.length_set, List.append_assoc, List.set_set]
  refine kont_for (fun k s => (∀ i, i < k → gk (K.getD i 0) = false) ∧ s = ⟨[(0, uIs K), (1, so), (7, dint K.length), (8, dint k)], F⟩) K.length (Weak.frame (by simp only [go_sem, simprocAttr])) ⟨fun i hi => absurd hi (by omega), rfl⟩ ?_
  rintro k s hk ⟨hn, rfl⟩
  refine kont_of_hx cx_ok hb 200 ?_
  simp only [go_sem, simprocAttr, hgetA, hgetL, hgetLk, hsetA, hsetL, hsetLk, List.length_append, List.length_set, List.append_assoc, List.set_set]
  have hwr := wrap_succ (show k < 4611686018427387904 by omega)
  first | refine hite_lt hk (fun hk1 => ?_) (fun hk1 => ?_) | refine hite_ltI hk (fun hk1 => ?_) (fun hk1 => ?_)
  · simp only [go_sem, simprocAttr, hgetA, hgetL, hgetLk, hsetA, hsetL, hsetLk, List.length_append, List.length_set, List.append_assoc, List.set_set, hk1]
    refine kont_callR0 hb hf hso ?_ (hg F (K.getD k 0) (getD_memI hk1) (by rw [← hF]; exact ExtF.refl F)) rfl fun d2 hR => ?_
    · simp only [go_sem, simprocAttr]
      exact argsEq_refl _
    subst hR
    refine kont_of_hx cx_ok hb 200 ?_
    cases hgk : gk (K.getD k 0)
    · simp only [go_sem, simprocAttr, hgetA, hgetL, hgetLk, hsetA, hsetL, hsetLk, List.length_append, List.length_set, List.append_assoc, List.set_set]
      refine ⟨hk1, _, Weak.frame (fr' := [(0, uIs K), (1, so), (7, dint K.length), (8, dint (k + 1 : Nat))]) (by simp only [go_sem, simprocAttr, hwr]), fun i hi => ?_, rfl⟩
      by_cases h1 : i < k
      · exact hn i h1
      · have : i = k := by omega
        subst this; exact hgk
    · rw [firstU_at hk1 hn hgk]
      simp only [go_sem, simprocAttr, hgetA, hgetL, hgetLk, hsetA, hsetL, hsetLk, List.length_append, List.length_set, List.append_assoc, List.set_set]
      exact ⟨[], (List.append_nil F).symm⟩
  · have hk1 : k = K.length := by omega
    subst hk1
    simp only [go_sem, simprocAttr, Nat.lt_irrefl]
    rw [firstU_none hn]
    refine kont_of_hx cx_ok hb 200 ?_
    simp only [go_sem, simprocAttr, hgetA, hgetL, hgetLk, hsetA, hsetL, hsetLk, List.length_append, List.length_set, List.append_assoc, List.set_set]
    exact ⟨[], (List.append_nil F).symm⟩
end
theorem kneesV_len (l : List Nc) : (kneesV l).length ≤ l.length := by
  have h1 := cN_le (fun i => (sortedK l)[i]!) (sortedK l).size
  have h2 := sortedK_size l
  have h3 := kneeL_len l l.length
  rw [List.take_length] at h3
  unfold kneesV
  omega
theorem knee_nat {l : List Nc} {x : Int} (hx : x ∈ kneesV l) : ∃ n : Nat, x = (n : Int) ∧ 0 < n ∧ n ≤ 1048576 := by
  obtain ⟨c, h1, h2, h3⟩ := (kneesV_mem l x).1 hx
  refine ⟨c.d, h3.symm, ?_⟩
  unfold isKnee Nc.of ofV at h2
  simp only [Bool.or_eq_true, beq_iff_eq] at h2
  repeat' split at h2
  all_goals first | omega | (exfalso; revert h2; decide) | skip
/-- The service of all curves in so many ticks; whether that is above the link's. -/
def svcG (l : List Nc) (k : Nat) : Nat := sumG (fun c => serV c.a c.d c.b k) l
def overB (t : Nat) (l : List Nc) (x : Int) : Bool := decide (65536 * x.toNat < svcG l x.toNat * t)
theorem svcG_lt {l : List Nc} (hl : l.length < 1048576) (hc : ∀ c ∈ l, c.Lt) {k : Nat} (hk : k ≤ 1048576) : svcG l k < 2 ^ 111 := by
  have h1 := sumF_le (g := fun c => serV c.a c.d c.b k) (M := 2 ^ 60) (fun c h => by
    show serV c.a c.d c.b k ≤ _
    unfold serV
    split
    · decide
    · rename_i h0
      obtain ⟨b1, b2, b3⟩ := ofV_bounds h0
      have e1 : c.a * min k c.d ≤ 4294967295 * 1048576 := Nat.mul_le_mul b1 (by omega)
      have e2 : c.b * (k - min k c.d) ≤ 4294967295 * 1048576 := Nat.mul_le_mul b2 (by omega)
      omega) (l := l) (s := 0) hc
  have h2 := Nat.mul_le_mul_right (2 ^ 60) (show l.length ≤ 1048576 by omega)
  unfold svcG sumG; omega
def fullS (t : Nat) (l : List Nc) : Bool := decide (65536 < sumG (fun c => c.b) l * t)
def fullW (t : Nat) (l : List Nc) : Bool := (kneesV l).any (overB t l) || fullS t l
def fullD (t : Nat) (l : List Nc) : D := if (kneesV l).any (overB t l) = true then .tup [uI ((kneesV l).getD (firstU (overB t l) (kneesV l)).toNat 0), dbool true] else .tup [u64 0, dbool (fullS t l)]
theorem slopeG_lt {l : List Nc} (hl : l.length < 1048576) (hc : ∀ c ∈ l, c.Lt) : sumG (fun c => c.b) l < 2 ^ 111 := by
  have h1 := sumF_le (g := fun c => c.b) (M := 2 ^ 64) (fun c h => by have := h.2.2; omega) (l := l) (s := 0) hc
  have h2 := Nat.mul_le_mul_right (2 ^ 64) (show l.length ≤ 1048576 by omega)
  unfold sumG; omega
theorem full1_ok (h : List Ob) (t : Nat) (l : List Nc) (hl : l.length < 1048576) (hc : ∀ c ∈ l, c.Lt) (ht : t ≤ 65536) (b1 b2 : Nat) (h1 : (h.map Ob.ro)[b1]? = some ⟨.rone, 0, 1, 1, fun _ => [ncs l]⟩) (h2 : (h.map Ob.ro)[b2]? = some ⟨.rone, 0, 1, 1, fun _ => [dint t]⟩) (n : Nat) (hn : n ≤ 1048576) :
    RFn0 Tryz.prog 86 h [uI n, .ptr b1 0 0 0, .ptr b2 0 0 0] (fun d => d = dbool (overB t l n)) := by
  have hs : AFn Tryz.prog 58 [ncs l, u64 n] (Ret (num (svcG l n))) := sservice_ok l n (by omega) hl hc
  have ha := above_ok (svcG l n) t n (svcG_lt hl hc hn) ht (by omega)
  refine RFn0_hx cx_ok 200 Tryz.func86 rfl Tryz.ntmps86 Tryz.results86 rfl fun base w pl F hF hFl hb => ?_
  rw [← hF] at h1 h2
  have h1_l := hlt h1
  have h2_l := hlt h2
  simp only [go_sem, simprocAttr, hgetA, hgetL, hgetLk, hsetA, hsetL, hsetLk, List.length_append, List.length_set, List.append_assoc, List.set_set, h1, h1_l, h2, h2_l]
  refine kont_hax cx_ok hb 200 mixed [(0, true), (1, true), (3, true), (4, true), (2, false), (5, false), (6, true)] (by kernel_rfl) (by kernel_rfl) ?_
  simp only [go_sem, simprocAttr, hgetA, hgetL, hgetLk, hsetA, hsetL, hsetLk, List.length_append, List.length_set, List.append_assoc, List.set_set, h1, h1_l, h2, h2_l]
  refine AX_call hb fn58 rfl ?_ hs (Ret.flat rfl) rfl fun d h hR => ?_
  · simp only [go_sem, simprocAttr, hgetA, hgetL, hgetLk, hsetA, hsetL, hsetLk, List.length_append, List.length_set, List.append_assoc, List.set_set, h1, h1_l, h2, h2_l]
  obtain ⟨rfl, rfl⟩ := hR
  refine AX_of_hax cx_ok hb ?_
  simp only [go_sem, simprocAttr, hgetA, hgetL, hgetLk, hsetA, hsetL, hsetLk, List.length_append, List.length_set, List.append_assoc, List.set_set, h1, h1_l, h2, h2_l]
  refine AX_call hb fn87 rfl ?_ ha (Ret.flat rfl) rfl fun d h hR => ?_
  · simp only [go_sem, simprocAttr, hgetA, hgetL, hgetLk, hsetA, hsetL, hsetLk, List.length_append, List.length_set, List.append_assoc, List.set_set]
  obtain ⟨rfl, rfl⟩ := hR
  refine AX_of_hax cx_ok hb ?_
  simp only [go_sem, simprocAttr, hgetA, hgetL, hgetLk, hsetA, hsetL, hsetLk, List.length_append, List.length_set, List.append_assoc, List.set_set]
  exact ⟨[], (List.append_nil F).symm, rfl⟩
theorem fullG_ok (t : Nat) (l : List Nc) (hl : l.length < 1048576) (hc : ∀ c ∈ l, c.Lt) (hm : mayE t l = 0) : AFn Tryz.prog 60 [dint t, ncs l] (Ret (fullD t l)) := by
  have ht : t ≤ 65536 := by unfold mayE at hm; split at hm; cases hm; omega
  have hab := above_ok (sumG (fun c => c.b) l) t 1 (slopeG_lt hl hc) ht (by decide)
  have e0 : (mayE t l != 0) = false := by rw [hm]; rfl
  have hkl := kneesV_len l
  refine AFn_hxk 0 cx_ok 200 Tryz.func60 rfl Tryz.ntmps60 Tryz.results60 rfl fun base w hb => ?_
  simp only [go_sem, simprocAttr]
  refine kont_call hb fn59 rfl ?_ (amay_ok t l hl) (Ret.flat rfl) rfl fun d h hR => ?_
  · simp only [go_sem, simprocAttr, e0]
  obtain ⟨rfl, rfl⟩ := hR
  refine kont_of_hx cx_ok hb 200 ?_
  simp only [go_sem, simprocAttr, e0]
  refine kont_callM hb [] fn57 rfl ?_ (knees_ok l hl) rfl fun d h hR => ?_
  · simp only [go_sem, simprocAttr]
  obtain ⟨rfl, rfl⟩ := hR
  simp only [go_sem, simprocAttr]
  refine kont_of_hx cx_ok hb 200 ?_
  simp only [go_sem, simprocAttr]
  have hidx := indexU_ok [⟨.one, 0, 1, 1, fun _ => [dint t]⟩, ⟨.one, 0, 1, 1, fun _ => [ncs l]⟩] (kneesV l) (by omega) (.clo 86 0 [.ptr 1 0 0 0, .ptr 0 0 0 0]) 86 0 [.ptr 1 0 0 0, .ptr 0 0 0 0] fn86 rfl (overB t l) (fun h' x hx hF' => by
    obtain ⟨n, rfl, hn0, hn1⟩ := knee_nat hx
    obtain ⟨g', rfl⟩ := hF'
    exact full1_ok _ t l hl hc ht 1 0 rfl rfl n hn1)
  refine kont_callR0 hb fn85 rfl ?_ hidx rfl fun d2 hR => ?_
  · simp only [go_sem, simprocAttr]
    try exact argsEq_refl _
  subst hR
  have hany := firstU_any (overB t l) (kneesV l)
  unfold fullD
  cases hA : (kneesV l).any (overB t l)
  · rw [hA] at hany
    rw [if_neg (by decide)]
    refine kont_of_hx cx_ok hb 200 ?_
    simp only [go_sem, simprocAttr, hany]
    refine kont_hax cx_ok hb 200 mixed [(0, true), (2, true), (1, false), (3, false), (4, true), (5, true)] (by kernel_rfl) (by kernel_rfl) ?_
    simp only [go_sem, simprocAttr]
    refine AX_call hb fn56 rfl ?_ (sslope_ok l hl hc) (Ret.flat rfl) rfl fun d h hR => ?_
    · simp only [go_sem, simprocAttr]
    obtain ⟨rfl, rfl⟩ := hR
    refine AX_of_hax cx_ok hb ?_
    simp only [go_sem, simprocAttr]
    refine AX_call hb fn87 rfl ?_ hab (Ret.flat rfl) rfl fun d h hR => ?_
    · simp only [go_sem, simprocAttr]
    obtain ⟨rfl, rfl⟩ := hR
    refine AX_of_hax cx_ok hb ?_
    simp only [go_sem, simprocAttr]
    rfl
  · rw [hA] at hany
    rw [if_pos rfl]
    have h0 : 0 ≤ firstU (overB t l) (kneesV l) := of_decide_eq_true hany
    have h1 := firstU_lt h0
    obtain ⟨j, hj⟩ : ∃ j : Nat, firstU (overB t l) (kneesV l) = (j : Int) := ⟨(firstU (overB t l) (kneesV l)).toNat, by omega⟩
    rw [hj] at hany h1 ⊢
    rw [Int.toNat_natCast] at h1
    refine kont_of_hx cx_ok hb 200 ?_
    simp only [go_sem, simprocAttr, hany, hj, h1]
    first | rfl | exact ⟨rfl, rfl⟩ | trace_state
def fitsW (t : Int) (l : List Nc) : Int := if mayE t l ≠ 0 then mayE t l else if fullW t.toNat l = true then 22 else 0
theorem fitsG_ok (t : Int) (l : List Nc) (hl : l.length < 1048576) (hc : ∀ c ∈ l, c.Lt) : AFn Tryz.prog 29 [dint t, ncs l] (Ret (dint (fitsW t l))) := by
  by_cases hm : mayE t l = 0
  · have ht : ∃ n : Nat, t = (n : Int) := ⟨t.toNat, by unfold mayE at hm; split at hm; cases hm; omega⟩
    obtain ⟨n, rfl⟩ := ht
    have e0 : (mayE n l != 0) = false := by rw [hm]; rfl
    have e : fitsW n l = if fullW n l = true then 22 else 0 := by rw [fitsW, if_neg (by simpa using hm)]; rfl
    rw [e]
    have hF := fullG_ok n l hl hc hm
    unfold fullD at hF
    unfold fullW
    cases hA : (kneesV l).any (overB n l)
    · rw [hA, if_neg (by decide)] at hF
      rw [Bool.false_or]
      refine AFn_hxk 0 cx_ok 200 Tryz.func29 rfl Tryz.ntmps29 Tryz.results29 rfl fun base w hb => ?_
      simp only [go_sem, simprocAttr]
      refine kont_call hb fn59 rfl ?_ (amay_ok n l hl) (Ret.flat rfl) rfl fun d h hR => ?_
      · simp only [go_sem, simprocAttr, e0]
      obtain ⟨rfl, rfl⟩ := hR
      refine kont_of_hx cx_ok hb 200 ?_
      simp only [go_sem, simprocAttr, e0]
      refine kont_call hb fn60 rfl ?_ hF (Ret.flat rfl) rfl fun d h hR => ?_
      · simp only [go_sem, simprocAttr]
      obtain ⟨rfl, rfl⟩ := hR
      refine kont_of_hx cx_ok hb 200 ?_
      simp only [go_sem, simprocAttr]
      cases fullS n l
      · simp only [go_sem, simprocAttr]
      · simp only [go_sem, simprocAttr]
    · rw [hA, if_pos rfl] at hF
      rw [Bool.true_or, if_pos rfl]
      refine AFn_hxk 0 cx_ok 200 Tryz.func29 rfl Tryz.ntmps29 Tryz.results29 rfl fun base w hb => ?_
      simp only [go_sem, simprocAttr]
      refine kont_call hb fn59 rfl ?_ (amay_ok n l hl) (Ret.flat rfl) rfl fun d h hR => ?_
      · simp only [go_sem, simprocAttr, e0]
      obtain ⟨rfl, rfl⟩ := hR
      refine kont_of_hx cx_ok hb 200 ?_
      simp only [go_sem, simprocAttr, e0]
      refine kont_call hb fn60 rfl ?_ hF (Ret.flat rfl) rfl fun d h hR => ?_
      · simp only [go_sem, simprocAttr]
      obtain ⟨rfl, rfl⟩ := hR
      refine kont_of_hx cx_ok hb 200 ?_
      simp only [go_sem, simprocAttr]
  · have e0 : (mayE t l != 0) = true := by simpa using hm
    have e : fitsW t l = mayE t l := by rw [fitsW, if_pos hm]
    rw [e]
    refine AFn_hxk 0 cx_ok 200 Tryz.func29 rfl Tryz.ntmps29 Tryz.results29 rfl fun base w hb => ?_
    simp only [go_sem, simprocAttr]
    refine kont_call hb fn59 rfl ?_ (amay_ok t l hl) (Ret.flat rfl) rfl fun d h hR => ?_
    · simp only [go_sem, simprocAttr, e0]
    obtain ⟨rfl, rfl⟩ := hR
    refine kont_of_hx cx_ok hb 200 ?_
    simp only [go_sem, simprocAttr, e0]
end Go.Fg.X
/- The reference's knees: walked; its members are those of the program's. Conditions: fewer than 2^20 curves. -/
namespace Go.Fg.X
open Go.Proofs Go.Fg
set_option maxRecDepth 100000
set_option maxHeartbeats 8000000
set_option linter.unusedSimpArgs false
set_option linter.unusedVariables false
/-- A number put into a list: the list so far, and whether it was put. -/
def stK (x : Int) (s : List Int × Bool) (d : Int) : List Int × Bool :=
  if s.2 = false ∧ x ≤ d then (if d = x then (s.1 ++ [x], true) else (s.1 ++ [x] ++ [d], true)) else (if d = x then s else (s.1 ++ [d], s.2))
def finK (x : Int) (s : List Int × Bool) : List Int := if s.2 = true then s.1 else s.1 ++ [x]
def insK (x : Int) (M : List Int) : List Int := finK x (M.foldl (stK x) ([], false))
theorem stK_fin {x : Int} {s : List Int × Bool} (h : s.2 = true → x ∈ s.1) (d : Int) : ((stK x s d).2 = true → x ∈ (stK x s d).1) ∧ (∀ y, y ∈ finK x (stK x s d) ↔ y ∈ finK x s ∨ y = d) ∧ (finK x (stK x s d)).length ≤ (finK x s).length + 1 := by
  obtain ⟨m, p⟩ := s
  cases p
  · by_cases h1 : x ≤ d
    · by_cases h2 : d = x
      · subst h2
        refine ⟨fun _ => ?_, fun y => ?_, ?_⟩ <;> simp [stK, finK]
      · refine ⟨fun _ => ?_, fun y => ?_, ?_⟩ <;> simp [stK, finK, h1, h2, or_assoc]
    · have h2 : d ≠ x := by omega
      refine ⟨fun h3 => ?_, fun y => ?_, ?_⟩
      · simp [stK, h1, h2] at h3
      · simp only [stK, finK, h1, h2, and_false, if_false, Bool.false_eq_true, List.mem_append, List.mem_singleton, or_assoc]
        exact or_congr_right (Or.comm)
      · simp [stK, finK, h1, h2]
  · have h3 := h rfl
    by_cases h2 : d = x
    · subst h2
      refine ⟨fun _ => ?_, fun y => ?_, ?_⟩
      · simpa [stK] using h3
      · simp only [stK, finK, Bool.true_eq_false, false_and, if_false, if_true]
        exact ⟨fun h => .inl h, fun h => h.elim id fun e => e ▸ h3⟩
      · simp [stK, finK]
    · refine ⟨fun _ => ?_, fun y => ?_, ?_⟩
      · simp only [stK, Bool.true_eq_false, false_and, if_false, h2]
        exact List.mem_append_left _ h3
      · simp [stK, finK, h2]
      · simp [stK, finK, h2]
theorem foldK_fin {x : Int} : ∀ {M : List Int} {s : List Int × Bool}, (s.2 = true → x ∈ s.1) → (∀ y, y ∈ finK x (M.foldl (stK x) s) ↔ y ∈ finK x s ∨ y ∈ M) ∧ (finK x (M.foldl (stK x) s)).length ≤ (finK x s).length + M.length
  | [], s, _ => by simp
  | d :: M, s, h => by
    obtain ⟨h1, h2, h3⟩ := stK_fin h d
    obtain ⟨h4, h5⟩ := foldK_fin (M := M) h1
    refine ⟨fun y => ?_, ?_⟩
    · rw [List.foldl_cons, h4, h2, List.mem_cons, or_assoc]
    · rw [List.foldl_cons, List.length_cons]; omega
theorem insK_mem (x : Int) (M : List Int) (y : Int) : y ∈ insK x M ↔ y = x ∨ y ∈ M := by
  have := (foldK_fin (x := x) (M := M) (s := ([], false)) (fun h => by cases h)).1 y
  unfold insK
  rw [this]; simp [finK]
theorem insK_len (x : Int) (M : List Int) : (insK x M).length ≤ M.length + 1 := by
  have := (foldK_fin (x := x) (M := M) (s := ([], false)) (fun h => by cases h)).2
  unfold insK
  simp [finK] at this ⊢; omega
theorem finK_le (x : Int) (s : List Int × Bool) : s.1.length ≤ (finK x s).length := by
  unfold finK; split <;> simp
theorem foldK_len (x : Int) (M : List Int) : (M.foldl (stK x) ([], false)).1.length ≤ M.length + 1 := by
  have h1 := (foldK_fin (x := x) (M := M) (s := ([], false)) (fun h => by cases h)).2
  have h2 := finK_le x (M.foldl (stK x) ([], false))
  simp [finK] at h1 h2 ⊢; omega
/-- The reference's knees of the first curves. -/
def refK (l : List Nc) : List Int := l.foldl (fun M c => if c.of < 3 then M else insK c.d M) []
theorem refK_succ (l : List Nc) {i : Nat} (hi : i < l.length) : refK (l.take (i + 1)) = if (l.getD i default).of < 3 then refK (l.take i) else insK (l.getD i default).d (refK (l.take i)) := by
  unfold refK
  rw [List.take_add_one, List.getElem?_eq_getElem hi, Option.toList_some, List.foldl_append, List.getD_eq_getElem?_getD, List.getElem?_eq_getElem hi]; rfl
theorem isKnee_lt (c : Nc) : isKnee c = decide (¬ c.of < 3) := by
  unfold isKnee
  rcases ofV_cases c.a c.d c.b with h | h | h | h | h <;> (have h' : c.of = _ := h; rw [h']; decide)
theorem refK_mem (l : List Nc) (x : Int) : ∀ i, i ≤ l.length → (x ∈ refK (l.take i) ↔ ∃ c, c ∈ l.take i ∧ isKnee c = true ∧ (c.d : Int) = x)
  | 0, _ => by simp [refK]
  | i + 1, h => by
    have hi : i < l.length := by omega
    have ih := refK_mem l x i (by omega)
    have e : l.take (i + 1) = l.take i ++ [l.getD i default] := by
      rw [List.take_add_one, List.getElem?_eq_getElem hi, List.getD_eq_getElem?_getD, List.getElem?_eq_getElem hi]; rfl
    rw [refK_succ l hi, e]
    obtain ⟨c, hc⟩ : ∃ c, c = l.getD i default := ⟨_, rfl⟩
    rw [← hc]
    have hk := isKnee_lt c
    by_cases h3 : c.of < 3
    · rw [if_pos h3, ih]
      have hk2 : isKnee c = false := by rw [hk]; simp [h3]
      constructor
      · rintro ⟨e, h1, h2⟩; exact ⟨e, List.mem_append_left _ h1, h2⟩
      · rintro ⟨e, h1, h2, h4⟩
        rcases List.mem_append.1 h1 with h5 | h5
        · exact ⟨e, h5, h2, h4⟩
        · rw [List.mem_singleton.1 h5, hk2] at h2; cases h2
    · rw [if_neg h3, insK_mem, ih]
      have hk2 : isKnee c = true := by rw [hk]; simp [h3]
      constructor
      · rintro (rfl | ⟨e, h1, h2⟩)
        · exact ⟨c, by simp, hk2, rfl⟩
        · exact ⟨e, List.mem_append_left _ h1, h2⟩
      · rintro ⟨e, h1, h2, h4⟩
        rcases List.mem_append.1 h1 with h5 | h5
        · exact .inr ⟨e, h5, h2, h4⟩
        · left; rw [List.mem_singleton.1 h5] at h4; exact h4.symm
theorem refK_same (l : List Nc) (x : Int) : x ∈ refK l ↔ x ∈ kneesV l := by
  have := refK_mem l x l.length (Nat.le_refl _)
  rw [List.take_length] at this
  rw [this, kneesV_mem]
theorem refK_len (l : List Nc) : ∀ i, i ≤ l.length → (refK (l.take i)).length ≤ i
  | 0, _ => by simp [refK]
  | i + 1, h => by
    have ih := refK_len l i (by omega)
    rw [refK_succ l (by omega)]
    split
    · omega
    · have := insK_len (l.getD i default).d (refK (l.take i)); omega
def insAt (x : Int) (M : List Int) (j : Nat) : List Int × Bool := (M.take j).foldl (stK x) ([], false)
theorem insAt_succ (x : Int) (M : List Int) {j : Nat} (hj : j < M.length) : insAt x M (j + 1) = stK x (insAt x M j) (M.getD j 0) := by
  unfold insAt
  rw [List.take_add_one, List.getElem?_eq_getElem hj, Option.toList_some, List.foldl_append, List.getD_eq_getElem?_getD, List.getElem?_eq_getElem hj]; rfl
theorem insAt_len (x : Int) (M : List Int) (j : Nat) : (insAt x M j).1.length ≤ j + 1 := by
  have h1 := foldK_len x (M.take j)
  have h2 : (M.take j).length ≤ j := by simp; omega
  unfold insAt; omega
end Go.Fg.X
