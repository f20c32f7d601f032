/- Walks of the functions that the statement reaches. No conditions: contracts and laws. -/
import Derived.Test.YtiiaocpkjmiacaaFgSort
import Derived.Shelf.Sort.Plain
namespace Go.Fg.X
open Go.Proofs Go.Fg
set_option maxRecDepth 100000
set_option maxHeartbeats 4000000
set_option linter.unusedSimpArgs false
set_option linter.unusedVariables false
/-! A tree of classes: a list by rising numbers, and a map. -/
def findC (L : List Kls) (k : Int) : Option Kls := L.find? fun c => c.iD == k
def ofE (e : Ent) : Int × D := (e.k, e.v)
def ofC (c : Kls) : Int × D := (c.iD, dkl c)
def Rising (L : List Kls) : Prop := L.Pairwise fun a b => a.iD < b.iD
structure TreeIs (es : List Ent) (L : List Kls) : Prop where
  perm : (es.map ofE).Perm (L.map ofC)
  sorted : Rising L
theorem nd_map {α : Type} {f : α → Int} : ∀ {l : List α}, (l.map f).Nodup → ∀ {x y : α}, x ∈ l → y ∈ l → f x = f y → x = y
  | [], _, x, _, hx, _, _ => by simp at hx
  | a :: l, hn, x, y, hx, hy, e => by
    simp only [List.map_cons, List.nodup_cons, List.mem_map, not_exists, not_and] at hn
    rcases List.mem_cons.1 hx with h1 | h1 <;> rcases List.mem_cons.1 hy with h2 | h2
    · rw [h1, h2]
    · exact absurd (by rw [← e, h1]) (hn.1 y h2)
    · exact absurd (by rw [e, h2]) (hn.1 x h1)
    · exact nd_map hn.2 h1 h2 e
theorem Rising.nd {L : List Kls} (h : Rising L) : (L.map (·.iD)).Nodup := by
  unfold List.Nodup
  rw [List.pairwise_map]
  exact List.Pairwise.imp (fun h => by omega) h
theorem TreeIs.keysNd {es : List Ent} {L : List Kls} (T : TreeIs es L) : KeysNd es := by
  have h1 : es.map (·.k) = (es.map ofE).map Prod.fst := by simp [ofE, Function.comp_def]
  have h2 : (L.map ofC).map Prod.fst = L.map (·.iD) := by simp [ofC, Function.comp_def]
  unfold KeysNd
  rw [h1, (T.perm.map Prod.fst).nodup_iff, h2]
  exact T.sorted.nd
theorem alook_iff : ∀ {es : List Ent}, KeysNd es → ∀ {k : Int} {v : D}, alook es k = some v ↔ (k, v) ∈ es.map ofE
  | [], _, k, v => by simp [alook]
  | e :: es, hn, k, v => by
    have hn2 : KeysNd es := by unfold KeysNd at hn ⊢; simp only [List.map_cons, List.nodup_cons] at hn; exact hn.2
    simp only [alook]
    by_cases h : e.k = k
    · rw [if_pos h]
      constructor
      · rintro ⟨rfl⟩; simp [ofE, h]
      · intro hm
        simp only [List.map_cons, List.mem_cons] at hm
        rcases hm with hm | hm
        · simp only [ofE, Prod.mk.injEq] at hm; rw [hm.2]
        · exfalso
          obtain ⟨e', he', hh⟩ := List.mem_map.1 hm
          simp only [ofE, Prod.mk.injEq] at hh
          unfold KeysNd at hn
          simp only [List.map_cons, List.nodup_cons, List.mem_map, not_exists, not_and] at hn
          exact hn.1 e' he' (by rw [hh.1, h])
    · rw [if_neg h, alook_iff hn2]
      simp only [List.map_cons, List.mem_cons]
      constructor
      · exact fun h => .inr h
      · rintro (hm | hm)
        · simp only [ofE, Prod.mk.injEq] at hm; exact absurd hm.1.symm h
        · exact hm
theorem findC_iff {L : List Kls} (h : Rising L) {k : Int} {c : Kls} : findC L k = some c ↔ c ∈ L ∧ c.iD = k := by
  constructor
  · intro e
    exact ⟨List.mem_of_find?_eq_some e, by have := List.find?_some e; simpa using this⟩
  · rintro ⟨hm, rfl⟩
    cases hf : findC L c.iD with
    | none =>
      have := List.find?_eq_none.1 hf c hm
      simp at this
    | some d =>
      have h1 := List.mem_of_find?_eq_some hf
      have h2 : d.iD = c.iD := by have := List.find?_some hf; simpa using this
      rw [nd_map h.nd h1 hm h2]
theorem findC_none {L : List Kls} {k : Int} : findC L k = none ↔ ∀ c ∈ L, c.iD ≠ k := by
  simp [findC, List.find?_eq_none]
theorem TreeIs.look {es : List Ent} {L : List Kls} (T : TreeIs es L) (k : Int) : alook es k = (findC L k).map dkl := by
  cases hf : findC L k with
  | some c =>
    obtain ⟨h1, h2⟩ := (findC_iff T.sorted).1 hf
    rw [Option.map_some, alook_iff T.keysNd, T.perm.mem_iff]
    exact List.mem_map.2 ⟨c, h1, by simp [ofC, h2]⟩
  | none =>
    rw [Option.map_none]
    cases ha : alook es k with
    | none => rfl
    | some v =>
      rw [alook_iff T.keysNd, T.perm.mem_iff] at ha
      obtain ⟨c, hc, e⟩ := List.mem_map.1 ha
      simp only [ofC, Prod.mk.injEq] at e
      exact absurd e.1 (findC_none.1 hf c hc)
theorem TreeIs.len {es : List Ent} {L : List Kls} (T : TreeIs es L) : es.length = L.length := by
  have := T.perm.length_eq
  simpa using this
theorem TreeIs.nil : TreeIs [] [] := ⟨by simp, by simp [Rising]⟩
/-- A list with a class, in the place of the one that was there. -/
def putC : List Kls → Kls → List Kls
  | [], x => [x]
  | c :: r, x => if x.iD < c.iD then x :: c :: r else if c.iD = x.iD then x :: r else c :: putC r x
def delC (L : List Kls) (k : Int) : List Kls := L.filter fun c => c.iD != k
theorem filter_id {α : Type} {p : α → Bool} {l : List α} (h : ∀ x ∈ l, p x = true) : l.filter p = l := List.filter_eq_self.2 h
theorem putC_perm : ∀ {L : List Kls} (x : Kls), Rising L → (putC L x).Perm (x :: delC L x.iD)
  | [], x, _ => by simp [putC, delC]
  | c :: r, x, h => by
    have hr : Rising r := List.Pairwise.of_cons h
    have hc : ∀ d ∈ r, c.iD < d.iD := fun d hd => (List.pairwise_cons.1 h).1 d hd
    simp only [putC]
    by_cases h1 : x.iD < c.iD
    · rw [if_pos h1]
      have : delC (c :: r) x.iD = c :: r := filter_id fun d hd => by
        rcases List.mem_cons.1 hd with rfl | hd
        · simp; omega
        · have := hc d hd; simp; omega
      rw [this]
    · rw [if_neg h1]
      by_cases h2 : c.iD = x.iD
      · rw [if_pos h2]
        have e1 : delC r x.iD = r := filter_id fun d hd => by have := hc d hd; simp; omega
        have : delC (c :: r) x.iD = r := by unfold delC at e1 ⊢; rw [List.filter_cons_of_neg (by simp [h2]), e1]
        rw [this]
      · rw [if_neg h2]
        have : delC (c :: r) x.iD = c :: delC r x.iD := by unfold delC; rw [List.filter_cons_of_pos (by simp [h2])]
        rw [this]
        exact ((putC_perm x hr).cons c).trans (List.Perm.swap x c _)
theorem putC_rising : ∀ {L : List Kls} (x : Kls), Rising L → Rising (putC L x)
  | [], x, _ => by simp [putC, Rising]
  | c :: r, x, h => by
    have hr : Rising r := List.Pairwise.of_cons h
    have hc : ∀ d ∈ r, c.iD < d.iD := fun d hd => (List.pairwise_cons.1 h).1 d hd
    simp only [putC]
    by_cases h1 : x.iD < c.iD
    · rw [if_pos h1]
      exact List.pairwise_cons.2 ⟨fun d hd => by
        rcases List.mem_cons.1 hd with rfl | hd
        · exact h1
        · have := hc d hd; omega, h⟩
    · rw [if_neg h1]
      by_cases h2 : c.iD = x.iD
      · rw [if_pos h2]
        exact List.pairwise_cons.2 ⟨fun d hd => by have := hc d hd; omega, hr⟩
      · rw [if_neg h2]
        refine List.pairwise_cons.2 ⟨fun d hd => ?_, putC_rising x hr⟩
        have := (putC_perm x hr).mem_iff.1 hd
        rcases List.mem_cons.1 this with rfl | hd2
        · omega
        · exact hc d (List.mem_filter.1 hd2).1
theorem delC_rising {L : List Kls} (k : Int) (h : Rising L) : Rising (delC L k) := List.Pairwise.filter _ h
theorem aput_perm : ∀ {es : List Ent} (k : Int) (v : D), KeysNd es → (∃ u, alook es k = some u) → ((aput es k v).map ofE).Perm ((k, v) :: (es.map ofE).filter fun p => p.1 != k)
  | [], k, v, _, h => by simp [alook] at h
  | e :: es, k, v, hn, h => by
    have hn1 := hn
    unfold KeysNd at hn1
    simp only [List.map_cons, List.nodup_cons, List.mem_map, not_exists, not_and] at hn1
    simp only [aput]
    by_cases he : e.k = k
    · rw [if_pos he]
      have e1 : (es.map ofE).filter (fun p => p.1 != k) = es.map ofE := filter_id fun p hp => by
        obtain ⟨e', he', rfl⟩ := List.mem_map.1 hp
        have := hn1.1 e' he'
        simp [ofE]; omega
      have : ((e :: es).map ofE).filter (fun p => p.1 != k) = es.map ofE := by rw [List.map_cons, List.filter_cons_of_neg (by simp [ofE, he]), e1]
      rw [this]
      simp [ofE]
    · rw [if_neg he]
      have h2 : ∃ u, alook es k = some u := by simpa only [alook, if_neg he] using h
      have : ((e :: es).map ofE).filter (fun p => p.1 != k) = ofE e :: (es.map ofE).filter (fun p => p.1 != k) := by rw [List.map_cons, List.filter_cons_of_pos (by simp [ofE, he])]
      rw [this, List.map_cons]
      exact ((aput_perm k v hn1.2 h2).cons _).trans (List.Perm.swap _ _ _)
theorem mset_tree {es : List Ent} {L : List Kls} (T : TreeIs es L) (q : IntKind) (c : Nat) (x : Kls) : ∃ c' es', mset q c es x.iD (dkl x) = mapOb q c' es' ∧ TreeIs es' (putC L x) := by
  have hp : ((putC L x).map ofC).Perm ((x.iD, dkl x) :: (L.map ofC).filter fun p => p.1 != x.iD) := by
    have := (putC_perm x T.sorted).map ofC
    rw [List.map_cons] at this
    refine this.trans ?_
    have : (L.map ofC).filter (fun p => p.1 != x.iD) = (delC L x.iD).map ofC := by
      rw [List.filter_map]; rfl
    rw [this]
    exact List.Perm.refl _
  have hf := T.perm.filter fun p => p.1 != x.iD
  unfold mset
  cases ha : alook es x.iD with
  | some u => exact ⟨c, _, rfl, ⟨(aput_perm x.iD (dkl x) T.keysNd ⟨u, ha⟩).trans ((hf.cons _).trans hp.symm), putC_rising x T.sorted⟩⟩
  | none =>
    refine ⟨c + 1, _, rfl, ⟨?_, putC_rising x T.sorted⟩⟩
    have e1 : (es.map ofE).filter (fun p => p.1 != x.iD) = es.map ofE := filter_id fun p hp => by
      obtain ⟨e', he', rfl⟩ := List.mem_map.1 hp
      have := (alook_none ha).1 e' he'
      simp [ofE]; omega
    rw [e1] at hf
    rw [List.map_append]
    refine List.perm_append_comm.trans ?_
    exact (hf.cons (x.iD, dkl x)).trans hp.symm
theorem adel_perm : ∀ {es : List Ent} (k : Int), KeysNd es → ((adel es k).map ofE) = ((es.map ofE).filter fun p => p.1 != k)
  | [], k, _ => rfl
  | e :: es, k, hn => by
    have hn1 := hn
    unfold KeysNd at hn1
    simp only [List.map_cons, List.nodup_cons, List.mem_map, not_exists, not_and] at hn1
    simp only [adel]
    by_cases he : e.k = k
    · rw [if_pos he, List.map_cons, List.filter_cons_of_neg (by simp [ofE, he])]
      exact (filter_id fun p hp => by
        obtain ⟨e', he', rfl⟩ := List.mem_map.1 hp
        have := hn1.1 e' he'
        simp [ofE]; omega).symm
    · rw [if_neg he, List.map_cons, List.map_cons, List.filter_cons_of_pos (by simp [ofE, he]), adel_perm k hn1.2]
theorem adel_tree {es : List Ent} {L : List Kls} (T : TreeIs es L) (k : Int) : TreeIs (adel es k) (delC L k) := by
  refine ⟨?_, delC_rising k T.sorted⟩
  rw [adel_perm k T.keysNd]
  have : (L.map ofC).filter (fun p => p.1 != k) = (delC L k).map ofC := by rw [List.filter_map]; rfl
  rw [← this]
  exact T.perm.filter _
/-- Sorting what a sorted list was mixed from. -/
theorem sorted_of_perm {zs ts : List Int} (h : zs.Perm ts) (hs : ts.Pairwise (· < ·)) : sorted zs = ts := by
  refine List.Perm.eq_of_pairwise (le := fun a b => a ≤ b) (fun a b _ _ h1 h2 => by omega) ?_ (hs.imp (fun h => by omega)) ((List.mergeSort_perm _ _).trans h)
  have := List.pairwise_mergeSort (le := fun x y : Int => decide (x ≤ y)) (fun a b c h1 h2 => by simp at *; omega) (fun a b => by simp; omega) zs
  exact this.imp (fun h => by simpa using h)
end Go.Fg.X
namespace Go.Fg.X
open Go.Proofs Go.Fg
set_option maxRecDepth 100000
set_option maxHeartbeats 4000000
set_option linter.unusedSimpArgs false
set_option linter.unusedVariables false
section
variable (h : List Ob) (t m c : Nat) {es : List Ent} {L : List Kls} (T : TreeIs es L)
  (ht : (h.map Ob.ro)[t]? = some ⟨.rone, 0, 1, 1, fun _ => [.mref m 0]⟩) (hm : (h.map Ob.ro)[m]? = some (mapOb .i64 c es).ro)
include T ht hm
theorem hget_ok (id : Int) : RFn0 Try.prog 107 h [.ptr t 0 0 0, dint id] (fun d => d = .tup [dkl ((findC L id).getD default), dint (if (findC L id).isSome then 0 else 6)]) := by
  have hk := T.look id
  cases hf : findC L id with
  | none =>
    rw [hf, Option.map_none] at hk
    refine RFn0_hx cx_ok 200 Try.func107 rfl Try.ntmps107 Try.results107 rfl fun base w pl F hF hFl hb => ?_
    rw [← hF] at ht hm
    have ht_l := hlt ht
    have hm_l := hlt hm
    simp only [go_sem, Nat.reduceAdd, Nat.reduceSub, Nat.reduceMul, Nat.reduceBEq, Nat.reduceLT, Nat.reduceLeDiff, Nat.reduceEqDiff, Int.reduceToNat, Int.reduceLE, Int.reduceLT, Int.reduceAdd, Int.reduceSub, Int.reduceNeg, Int.reduceBEq, Int.reduceBNe, Nat.reduceBNe, Nat.reduceDiv, Nat.reduceMod, hgetA, hgetL, hgetLk, hsetA, hsetL, hsetLk, List.length_append, List.length_set, List.append_assoc, List.set_set, ht, ht_l, hm, hm_l, hk]
    exact ⟨_, rfl, rfl⟩
  | some x =>
    rw [hf, Option.map_some] at hk
    refine RFn0_hx cx_ok 200 Try.func107 rfl Try.ntmps107 Try.results107 rfl fun base w pl F hF hFl hb => ?_
    rw [← hF] at ht hm
    have ht_l := hlt ht
    have hm_l := hlt hm
    simp only [go_sem, Nat.reduceAdd, Nat.reduceSub, Nat.reduceMul, Nat.reduceBEq, Nat.reduceLT, Nat.reduceLeDiff, Nat.reduceEqDiff, Int.reduceToNat, Int.reduceLE, Int.reduceLT, Int.reduceAdd, Int.reduceSub, Int.reduceNeg, Int.reduceBEq, Int.reduceBNe, Nat.reduceBNe, Nat.reduceDiv, Nat.reduceMod, hgetA, hgetL, hgetLk, hsetA, hsetL, hsetLk, List.length_append, List.length_set, List.append_assoc, List.set_set, ht, ht_l, hm, hm_l, hk]
    exact ⟨_, rfl, rfl⟩
end
end Go.Fg.X
namespace Go.Fg.X
open Go.Proofs Go.Fg
set_option maxRecDepth 100000
set_option maxHeartbeats 4000000
set_option linter.unusedSimpArgs false
set_option linter.unusedVariables false
/-! A heap that began as F; a slice of numbers in it. -/
def ExtF (F H : List Ob) : Prop := ∃ g, H = F ++ g
theorem ExtF.refl (F : List Ob) : ExtF F F := ⟨[], by simp⟩
theorem ExtF.app {F H : List Ob} (h : ExtF F H) (g : List Ob) : ExtF F (H ++ g) := by
  obtain ⟨x, rfl⟩ := h
  exact ⟨x ++ g, by simp⟩
theorem ExtF.set {F H : List Ob} (h : ExtF F H) {lo : Nat} (hl : F.length ≤ lo) (o : Ob) : ExtF F (H.set lo o) := by
  obtain ⟨x, rfl⟩ := h
  exact ⟨x.set (lo - F.length) o, by rw [List.set_append_right _ _ hl]⟩
theorem ExtF.len {F H : List Ob} (h : ExtF F H) : F.length ≤ H.length := by
  obtain ⟨x, rfl⟩ := h
  simp
theorem ExtF.get {F H : List Ob} (h : ExtF F H) {l : Nat} {o : Ob} (e : F[l]? = some o) : H[l]? = some o := by
  obtain ⟨x, rfl⟩ := h
  rw [hgetA (hlt e)]; exact e
/-- A slice of numbers among the objects from n on. -/
def SlcH (n : Nat) (H : List Ob) (d : D) (L : List Int) : Prop := (d = .nil ∧ L = []) ∨ ∃ lo g off row, d = .ref lo g off L.length ∧ n ≤ lo ∧ H[lo]? = some ⟨.arr, g, 1, off + L.length, row⟩ ∧ ∀ i, i < L.length → row (off + i) = [dint (L.getD i 0)]
theorem SlcH.app {n : Nat} {H : List Ob} {d : D} {L : List Int} (h : SlcH n H d L) (g : List Ob) : SlcH n (H ++ g) d L := by
  rcases h with h | ⟨lo, gg, off, row, h1, h2, h3, h4⟩
  · exact .inl h
  · exact .inr ⟨lo, gg, off, row, h1, h2, by rw [hgetA (hlt h3)]; exact h3, h4⟩
theorem SlcH.base {F h g : List Ob} {d : D} {L : List Int} (hl : F.length = h.length) (x : SlcH F.length (F ++ g) d L) : SlcH h.length (h ++ g) d L := by
  rcases x with x | ⟨lo, gg, off, row, h1, h2, h3, h4⟩
  · exact .inl x
  · refine .inr ⟨lo, gg, off, row, h1, by omega, ?_, h4⟩
    rw [List.getElem?_append_right (by omega)] at h3 ⊢
    rw [← hl]; exact h3
theorem SlcH.done {F h H : List Ob} {d : D} {L : List Int} (hl : F.length = h.length) (hx : ExtF F H) (x : SlcH F.length H d L) : ∃ g, H = F ++ g ∧ SlcH h.length (h ++ g) d L := by
  obtain ⟨g, rfl⟩ := hx
  exact ⟨g, rfl, x.base hl⟩
theorem slc_push {dn : List Int} {off : Nat} {row : Nat → List D} {v : Int} (hr : ∀ i, i < dn.length → row (off + i) = [dint (dn.getD i 0)]) : ∀ i, i < (dn ++ [v]).length → appRow dn.length off row (fun _ => [dint v]) (0 + i) = [dint ((dn ++ [v]).getD i 0)] := fun i hi => by
  rw [Nat.zero_add]
  simp at hi
  by_cases h1 : i < dn.length
  · rw [appRow_lt h1, hr i h1]; simp [h1, List.getElem?_append_left h1]
  · have : i = dn.length := by omega
    subst this
    rw [appRow_ge (Nat.le_refl _)]; simp
theorem roro_get {h : List Ob} {l : Nat} {o : Ob} (e : h[l]? = some o.ro) : (h.map Ob.ro)[l]? = some o.ro := by have := ro_get e; rwa [ro_ro] at this
def upF (L : List Kls) : Nat → Int → List Int
  | 0, _ => []
  | n + 1, id => match findC L id with
    | none => []
    | some c => id :: upF L n c.parent
def Ends (L : List Kls) : Nat → Int → Prop
  | 0, id => findC L id = none
  | n + 1, id => match findC L id with
    | none => True
    | some c => Ends L n c.parent
structure UpInv (t : Nat) (L : List Kls) (N : Nat) (id : Int) (F : List Ob) (n : Nat) (s : St) : Prop where
  ex : ∃ dn cur d H, dn ++ upF L n cur = upF L N id ∧ dn.length + n ≤ N + 1 ∧ Ends L n cur ∧ ExtF F H ∧ SlcH F.length H d dn ∧ s = ⟨[(0, .ptr t 0 0 0), (1, dint cur), (5, d)], H⟩
section
variable (h : List Ob) (t m c : Nat) {es : List Ent} {L : List Kls} (T : TreeIs es L)
  (ht : (h.map Ob.ro)[t]? = some ⟨.rone, 0, 1, 1, fun _ => [.mref m 0]⟩) (hm : (h.map Ob.ro)[m]? = some (mapOb .i64 c es).ro)
include T ht hm
theorem hup_ok (id : Int) (N : Nat) (hN : N < 1000000) (hE : Ends L N id) : RFn Try.prog 68 h [.ptr t 0 0 0, dint id] (fun d g => SlcH h.length (h ++ g) d (upF L N id)) := by
  refine RFn_hx cx_ok 200 Try.func68 rfl Try.ntmps68 Try.results68 rfl fun base w pl F hF hFl hb => ?_
  rw [← hF] at ht hm
  have ht_l := hlt ht
  have hm_l := hlt hm
  simp only [go_sem, Nat.reduceAdd, Nat.reduceSub, Nat.reduceMul, Nat.reduceBEq, Nat.reduceLT, Nat.reduceLeDiff, Nat.reduceEqDiff, Int.reduceToNat, Int.reduceLE, Int.reduceLT, Int.reduceAdd, Int.reduceSub, Int.reduceNeg, Int.reduceBEq, Int.reduceBNe, Nat.reduceBNe, Nat.reduceDiv, Nat.reduceMod, hgetA, hgetL, hgetLk, hsetA, hsetL, hsetLk, List.length_append, List.length_set, List.append_assoc, List.set_set, ht, ht_l, hm, hm_l]
  refine kont_loop (UpInv t L N id F) N (s0 := ⟨[(0, .ptr t 0 0 0), (1, dint id), (5, .nil)], F⟩) (Weak.frame (by simp only [go_sem, Nat.reduceAdd, Nat.reduceSub, Nat.reduceMul, Nat.reduceBEq, Nat.reduceLT, Nat.reduceLeDiff, Nat.reduceEqDiff, Int.reduceToNat, Int.reduceLE, Int.reduceLT, Int.reduceAdd, Int.reduceSub, Int.reduceNeg, Int.reduceBEq, Int.reduceBNe, Nat.reduceBNe, Nat.reduceDiv, Nat.reduceMod])) ⟨[], id, .nil, F, rfl, by simp, hE, ExtF.refl F, .inl ⟨rfl, rfl⟩, rfl⟩ ?_
  rintro n s ⟨dn, cur, d, H, h1, h2, h3, hx, hs, rfl⟩
  have hFH := hx.len
  have ht2 := hx.get ht
  have hm2 := hx.get hm
  have ht2_l := hlt ht2
  have hm2_l := hlt hm2
  have hg := hget_ok H t m c T (ro_get ht2) (roro_get hm2) cur
  refine kont_of_hx cx_ok hb 200 ?_
  simp only [go_sem, Nat.reduceAdd, Nat.reduceSub, Nat.reduceMul, Nat.reduceBEq, Nat.reduceLT, Nat.reduceLeDiff, Nat.reduceEqDiff, Int.reduceToNat, Int.reduceLE, Int.reduceLT, Int.reduceAdd, Int.reduceSub, Int.reduceNeg, Int.reduceBEq, Int.reduceBNe, Nat.reduceBNe, Nat.reduceDiv, Nat.reduceMod, hgetA, hgetL, hgetLk, hsetA, hsetL, hsetLk, List.length_append, List.length_set, List.append_assoc, List.set_set]
  cases hf : findC L cur with
  | none =>
    rw [hf] at hg
    simp only [Option.isSome_none, Bool.false_eq_true, if_false] at hg
    refine kont_callR0 hb fn107 rfl ?_ hg rfl fun d hR => ?_
    · simp only [go_sem, Nat.reduceAdd, Nat.reduceSub, Nat.reduceMul, Nat.reduceBEq, Nat.reduceLT, Nat.reduceLeDiff, Nat.reduceEqDiff, Int.reduceToNat, Int.reduceLE, Int.reduceLT, Int.reduceAdd, Int.reduceSub, Int.reduceNeg, Int.reduceBEq, Int.reduceBNe, Nat.reduceBNe, Nat.reduceDiv, Nat.reduceMod, hgetA, hgetL, hgetLk, hsetA, hsetL, hsetLk, List.length_append, List.length_set, List.append_assoc, List.set_set, ht2, hm2, ht2_l, hm2_l]
    subst hR
    refine kont_of_hx cx_ok hb 200 ?_
    simp only [go_sem, Nat.reduceAdd, Nat.reduceSub, Nat.reduceMul, Nat.reduceBEq, Nat.reduceLT, Nat.reduceLeDiff, Nat.reduceEqDiff, Int.reduceToNat, Int.reduceLE, Int.reduceLT, Int.reduceAdd, Int.reduceSub, Int.reduceNeg, Int.reduceBEq, Int.reduceBNe, Nat.reduceBNe, Nat.reduceDiv, Nat.reduceMod, hgetA, hgetL, hgetLk, hsetA, hsetL, hsetLk, List.length_append, List.length_set, List.append_assoc, List.set_set, ht2, hm2, ht2_l, hm2_l]
    have e0 : upF L n cur = [] := by cases n with
      | zero => rfl
      | succ n => simp only [upF, hf]
    rw [e0, List.append_nil] at h1
    rw [← h1]
    exact SlcH.done hFl (hx.app _) (hs.app _)
  | some x =>
    rw [hf] at hg
    simp only [Option.isSome_some, if_true, Option.getD_some] at hg
    obtain ⟨n, rfl⟩ : ∃ n', n = n' + 1 := by
      cases n with
      | zero => rw [Ends, hf] at h3; cases h3
      | succ n => exact ⟨n, rfl⟩
    have h3' : Ends L n x.parent := by simpa only [Ends, hf] using h3
    have h1' : (dn ++ [cur]) ++ upF L n x.parent = upF L N id := by rw [← h1]; simp only [upF, hf, List.append_assoc, List.singleton_append]
    rcases hs with ⟨rfl, rfl⟩ | ⟨lo, g, off, row, rfl, hlo, ho, hr⟩
    · refine kont_callR0 hb fn107 rfl ?_ hg rfl fun d hR => ?_
      · simp only [go_sem, Nat.reduceAdd, Nat.reduceSub, Nat.reduceMul, Nat.reduceBEq, Nat.reduceLT, Nat.reduceLeDiff, Nat.reduceEqDiff, Int.reduceToNat, Int.reduceLE, Int.reduceLT, Int.reduceAdd, Int.reduceSub, Int.reduceNeg, Int.reduceBEq, Int.reduceBNe, Nat.reduceBNe, Nat.reduceDiv, Nat.reduceMod, hgetA, hgetL, hgetLk, hsetA, hsetL, hsetLk, List.length_append, List.length_set, List.append_assoc, List.set_set, ht2, hm2, ht2_l, hm2_l]
      subst hR
      refine kont_of_hx cx_ok hb 200 ?_
      simp only [go_sem, Nat.reduceAdd, Nat.reduceSub, Nat.reduceMul, Nat.reduceBEq, Nat.reduceLT, Nat.reduceLeDiff, Nat.reduceEqDiff, Int.reduceToNat, Int.reduceLE, Int.reduceLT, Int.reduceAdd, Int.reduceSub, Int.reduceNeg, Int.reduceBEq, Int.reduceBNe, Nat.reduceBNe, Nat.reduceDiv, Nat.reduceMod, hgetA, hgetL, hgetLk, hsetA, hsetL, hsetLk, List.length_append, List.length_set, List.append_assoc, List.set_set, ht2, hm2, ht2_l, hm2_l]
      refine ⟨n, ⟨[(0, .ptr t 0 0 0), (1, dint x.parent), (5, .ref (H.length + 2) 0 0 1)], _⟩, by omega, Weak.frame (by simp only [go_sem, Nat.reduceAdd, Nat.reduceSub, Nat.reduceMul, Nat.reduceBEq, Nat.reduceLT, Nat.reduceLeDiff, Nat.reduceEqDiff, Int.reduceToNat, Int.reduceLE, Int.reduceLT, Int.reduceAdd, Int.reduceSub, Int.reduceNeg, Int.reduceBEq, Int.reduceBNe, Nat.reduceBNe, Nat.reduceDiv, Nat.reduceMod]), ⟨⟨[cur], x.parent, _, _, h1', by simp at h2 ⊢; omega, h3', hx.app _, .inr ⟨H.length + 2, 0, 0, _, rfl, by omega, by rw [hgetLk rfl]; rfl, fun i hi => ?_⟩, rfl⟩⟩⟩
      have : i = 0 := by simp at hi; omega
      subst this; rfl
    · have ho_l := hlt ho
      refine kont_callR0 hb fn107 rfl ?_ hg rfl fun d hR => ?_
      · simp only [go_sem, Nat.reduceAdd, Nat.reduceSub, Nat.reduceMul, Nat.reduceBEq, Nat.reduceLT, Nat.reduceLeDiff, Nat.reduceEqDiff, Int.reduceToNat, Int.reduceLE, Int.reduceLT, Int.reduceAdd, Int.reduceSub, Int.reduceNeg, Int.reduceBEq, Int.reduceBNe, Nat.reduceBNe, Nat.reduceDiv, Nat.reduceMod, hgetA, hgetL, hgetLk, hsetA, hsetL, hsetLk, List.length_append, List.length_set, List.append_assoc, List.set_set, ht2, hm2, ht2_l, hm2_l, ho, ho_l]
      subst hR
      refine kont_of_hx cx_ok hb 200 ?_
      simp only [go_sem, Nat.reduceAdd, Nat.reduceSub, Nat.reduceMul, Nat.reduceBEq, Nat.reduceLT, Nat.reduceLeDiff, Nat.reduceEqDiff, Int.reduceToNat, Int.reduceLE, Int.reduceLT, Int.reduceAdd, Int.reduceSub, Int.reduceNeg, Int.reduceBEq, Int.reduceBNe, Nat.reduceBNe, Nat.reduceDiv, Nat.reduceMod, hgetA, hgetL, hgetLk, hsetA, hsetL, hsetLk, List.length_append, List.length_set, List.append_assoc, List.set_set, ht2, hm2, ht2_l, hm2_l, ho, ho_l]
      refine ⟨by omega, n, ⟨[(0, .ptr t 0 0 0), (1, dint x.parent), (5, .ref lo (g + 1) 0 (dn.length + 1))], _⟩, by omega, Weak.frame (by simp only [go_sem, Nat.reduceAdd, Nat.reduceSub, Nat.reduceMul, Nat.reduceBEq, Nat.reduceLT, Nat.reduceLeDiff, Nat.reduceEqDiff, Int.reduceToNat, Int.reduceLE, Int.reduceLT, Int.reduceAdd, Int.reduceSub, Int.reduceNeg, Int.reduceBEq, Int.reduceBNe, Nat.reduceBNe, Nat.reduceDiv, Nat.reduceMod]), ⟨⟨dn ++ [cur], x.parent, _, _, h1', ?_, h3', ?_, ?_, rfl⟩⟩⟩
      · simp at h2 ⊢; omega
      · exact (hx.set hlo _).app _
      · refine .inr ⟨lo, g + 1, 0, _, by simp, by omega, ?_, slc_push hr⟩
        rw [hgetA (by simpa using ho_l), hgetS ho_l]
        simp [dint]
end
end Go.Fg.X
namespace Go.Fg.X
open Go.Proofs Go.Fg
set_option maxRecDepth 100000
set_option maxHeartbeats 4000000
set_option linter.unusedSimpArgs false
set_option linter.unusedVariables false
def sharesC (L : List Kls) (id : Int) : Bool := id == 0 || decide (1 < ofI ((findC L id).getD default).ls)
section
variable (h : List Ob) (t m c : Nat) {es : List Ent} {L : List Kls} (T : TreeIs es L)
  (ht : (h.map Ob.ro)[t]? = some ⟨.rone, 0, 1, 1, fun _ => [.mref m 0]⟩) (hm : (h.map Ob.ro)[m]? = some (mapOb .i64 c es).ro)
include T ht hm
theorem hdepth_ok (id : Int) (N : Nat) (hN : N < 1000000) (hE : Ends L N id) : RFn0 Try.prog 57 h [.ptr t 0 0 0, dint id] (fun d => d = dint (upF L N id).length) := by
  refine RFn0_hx cx_ok 200 Try.func57 rfl Try.ntmps57 Try.results57 rfl fun base w pl F hF hFl hb => ?_
  rw [← hF] at ht hm
  have ht_l := hlt ht
  have hm_l := hlt hm
  simp only [go_sem, Nat.reduceAdd, Nat.reduceSub, Nat.reduceMul, Nat.reduceBEq, Nat.reduceLT, Nat.reduceLeDiff, Nat.reduceEqDiff, Int.reduceToNat, Int.reduceLE, Int.reduceLT, Int.reduceAdd, Int.reduceSub, Int.reduceNeg, Int.reduceBEq, Int.reduceBNe, Nat.reduceBNe, Nat.reduceDiv, Nat.reduceMod, hgetA, hgetL, hgetLk, hsetA, hsetL, hsetLk, List.length_append, List.length_set, List.append_assoc, List.set_set, ht, ht_l, hm, hm_l]
  refine kont_callR hb fn68 rfl ?_ (hup_ok F t m c T (ro_get ht) (roro_get hm) id N hN hE) rfl fun d g2 hs => ?_
  · simp only [go_sem, Nat.reduceAdd, Nat.reduceSub, Nat.reduceMul, Nat.reduceBEq, Nat.reduceLT, Nat.reduceLeDiff, Nat.reduceEqDiff, Int.reduceToNat, Int.reduceLE, Int.reduceLT, Int.reduceAdd, Int.reduceSub, Int.reduceNeg, Int.reduceBEq, Int.reduceBNe, Nat.reduceBNe, Nat.reduceDiv, Nat.reduceMod]
  rcases hs with ⟨rfl, h0⟩ | ⟨lo, g, off, row, rfl, hlo, ho, hr⟩
  · refine kont_of_hx cx_ok hb 200 ?_
    simp only [go_sem, Nat.reduceAdd, Nat.reduceSub, Nat.reduceMul, Nat.reduceBEq, Nat.reduceLT, Nat.reduceLeDiff, Nat.reduceEqDiff, Int.reduceToNat, Int.reduceLE, Int.reduceLT, Int.reduceAdd, Int.reduceSub, Int.reduceNeg, Int.reduceBEq, Int.reduceBNe, Nat.reduceBNe, Nat.reduceDiv, Nat.reduceMod, hgetA, hgetL, hgetLk, hsetA, hsetL, hsetLk, List.length_append, List.length_set, List.append_assoc, List.set_set, h0]
    exact ⟨_, rfl⟩
  · have ho_l := hlt ho
    refine kont_of_hx cx_ok hb 200 ?_
    simp only [go_sem, Nat.reduceAdd, Nat.reduceSub, Nat.reduceMul, Nat.reduceBEq, Nat.reduceLT, Nat.reduceLeDiff, Nat.reduceEqDiff, Int.reduceToNat, Int.reduceLE, Int.reduceLT, Int.reduceAdd, Int.reduceSub, Int.reduceNeg, Int.reduceBEq, Int.reduceBNe, Nat.reduceBNe, Nat.reduceDiv, Nat.reduceMod, hgetA, hgetL, hgetLk, hsetA, hsetL, hsetLk, List.length_append, List.length_set, List.append_assoc, List.set_set, ho, ho_l]
    exact ⟨_, rfl⟩
theorem hshares_ok (id : Int) : RFn0 Try.prog 56 h [.ptr t 0 0 0, dint id] (fun d => d = dbool (sharesC L id)) := by
  by_cases h0 : id = 0
  · have e : sharesC L id = true := by simp [sharesC, h0]
    rw [e]
    refine RFn0_hx cx_ok 200 Try.func56 rfl Try.ntmps56 Try.results56 rfl fun base w pl F hF hFl hb => ?_
    rw [← hF] at ht hm
    have ht_l := hlt ht
    have hm_l := hlt hm
    simp only [go_sem, Nat.reduceAdd, Nat.reduceSub, Nat.reduceMul, Nat.reduceBEq, Nat.reduceLT, Nat.reduceLeDiff, Nat.reduceEqDiff, Int.reduceToNat, Int.reduceLE, Int.reduceLT, Int.reduceAdd, Int.reduceSub, Int.reduceNeg, Int.reduceBEq, Int.reduceBNe, Nat.reduceBNe, Nat.reduceDiv, Nat.reduceMod, hgetA, hgetL, hgetLk, hsetA, hsetL, hsetLk, List.length_append, List.length_set, List.append_assoc, List.set_set, ht, ht_l, hm, hm_l, beqT h0]
    exact ⟨[], by simp⟩
  · have hk := T.look id
    have e : sharesC L id = decide (1 < ofI ((findC L id).getD default).ls) := by simp [sharesC, h0]
    rw [e]
    cases hf : findC L id with
    | none =>
      rw [hf, Option.map_none] at hk
      refine RFn0_hx cx_ok 200 Try.func56 rfl Try.ntmps56 Try.results56 rfl fun base w pl F hF hFl hb => ?_
      rw [← hF] at ht hm
      have ht_l := hlt ht
      have hm_l := hlt hm
      simp only [go_sem, Nat.reduceAdd, Nat.reduceSub, Nat.reduceMul, Nat.reduceBEq, Nat.reduceLT, Nat.reduceLeDiff, Nat.reduceEqDiff, Int.reduceToNat, Int.reduceLE, Int.reduceLT, Int.reduceAdd, Int.reduceSub, Int.reduceNeg, Int.reduceBEq, Int.reduceBNe, Nat.reduceBNe, Nat.reduceDiv, Nat.reduceMod, hgetA, hgetL, hgetLk, hsetA, hsetL, hsetLk, List.length_append, List.length_set, List.append_assoc, List.set_set, ht, ht_l, hm, hm_l, hk, beqF h0]
      refine kont_call hb fn55 rfl ?_ (sshares_ok ⟨0, 0, false, ⟨0, 0, 0⟩, ⟨0, 0, 0⟩, ⟨0, 0, 0⟩, 0, 0⟩) (Ret.flat rfl) rfl fun d h hR => ?_
      · simp only [go_sem, Nat.reduceAdd, Nat.reduceSub, Nat.reduceMul, Nat.reduceBEq, Nat.reduceLT, Nat.reduceLeDiff, Nat.reduceEqDiff, Int.reduceToNat, Int.reduceLE, Int.reduceLT, Int.reduceAdd, Int.reduceSub, Int.reduceNeg, Int.reduceBEq, Int.reduceBNe, Nat.reduceBNe, Nat.reduceDiv, Nat.reduceMod, hgetA, hgetL, hgetLk, hsetA, hsetL, hsetLk, List.length_append, List.length_set, List.append_assoc, List.set_set]
      obtain ⟨rfl, rfl⟩ := hR
      refine kont_of_hx cx_ok hb 200 ?_
      simp only [go_sem, Nat.reduceAdd, Nat.reduceSub, Nat.reduceMul, Nat.reduceBEq, Nat.reduceLT, Nat.reduceLeDiff, Nat.reduceEqDiff, Int.reduceToNat, Int.reduceLE, Int.reduceLT, Int.reduceAdd, Int.reduceSub, Int.reduceNeg, Int.reduceBEq, Int.reduceBNe, Nat.reduceBNe, Nat.reduceDiv, Nat.reduceMod, hgetA, hgetL, hgetLk, hsetA, hsetL, hsetLk, List.length_append, List.length_set, List.append_assoc, List.set_set]
      exact ⟨[], (List.append_nil F).symm, rfl⟩
    | some x =>
      rw [hf, Option.map_some] at hk
      refine RFn0_hx cx_ok 200 Try.func56 rfl Try.ntmps56 Try.results56 rfl fun base w pl F hF hFl hb => ?_
      rw [← hF] at ht hm
      have ht_l := hlt ht
      have hm_l := hlt hm
      simp only [go_sem, Nat.reduceAdd, Nat.reduceSub, Nat.reduceMul, Nat.reduceBEq, Nat.reduceLT, Nat.reduceLeDiff, Nat.reduceEqDiff, Int.reduceToNat, Int.reduceLE, Int.reduceLT, Int.reduceAdd, Int.reduceSub, Int.reduceNeg, Int.reduceBEq, Int.reduceBNe, Nat.reduceBNe, Nat.reduceDiv, Nat.reduceMod, hgetA, hgetL, hgetLk, hsetA, hsetL, hsetLk, List.length_append, List.length_set, List.append_assoc, List.set_set, ht, ht_l, hm, hm_l, hk, beqF h0]
      refine kont_call hb fn55 rfl ?_ (sshares_ok x) (Ret.flat rfl) rfl fun d h hR => ?_
      · simp only [go_sem, Nat.reduceAdd, Nat.reduceSub, Nat.reduceMul, Nat.reduceBEq, Nat.reduceLT, Nat.reduceLeDiff, Nat.reduceEqDiff, Int.reduceToNat, Int.reduceLE, Int.reduceLT, Int.reduceAdd, Int.reduceSub, Int.reduceNeg, Int.reduceBEq, Int.reduceBNe, Nat.reduceBNe, Nat.reduceDiv, Nat.reduceMod, hgetA, hgetL, hgetLk, hsetA, hsetL, hsetLk, List.length_append, List.length_set, List.append_assoc, List.set_set]
      obtain ⟨rfl, rfl⟩ := hR
      refine kont_of_hx cx_ok hb 200 ?_
      simp only [go_sem, Nat.reduceAdd, Nat.reduceSub, Nat.reduceMul, Nat.reduceBEq, Nat.reduceLT, Nat.reduceLeDiff, Nat.reduceEqDiff, Int.reduceToNat, Int.reduceLE, Int.reduceLT, Int.reduceAdd, Int.reduceSub, Int.reduceNeg, Int.reduceBEq, Int.reduceBNe, Nat.reduceBNe, Nat.reduceDiv, Nat.reduceMod, hgetA, hgetL, hgetLk, hsetA, hsetL, hsetLk, List.length_append, List.length_set, List.append_assoc, List.set_set]
      exact ⟨[], by simp⟩
end
end Go.Fg.X
namespace Go.Fg.X
open Go.Proofs Go.Fg
set_option maxRecDepth 100000
set_option maxHeartbeats 4000000
set_option linter.unusedSimpArgs false
set_option linter.unusedVariables false
def sel (L : List Kls) (g : Kls → Bool) (k : Int) : Bool := ((findC L k).map g).getD false
theorem filt_same {es : List Ent} {seen : List Nat} {b : Nat} (p : Ent → Bool) (h : ∀ e ∈ es, e.b ≠ b) : (es.filter fun x => (seen ++ [b]).contains x.b && p x) = es.filter fun x => seen.contains x.b && p x := by
  apply List.filter_congr
  intro x hx
  have := h x hx
  simp [this]
theorem filt_step : ∀ {es : List Ent} {seen : List Nat} {e : Ent} (p : Ent → Bool), (es.map (·.b)).Nodup → e ∈ es → e.b ∉ seen → (es.filter fun x => (seen ++ [e.b]).contains x.b && p x).Perm (if p e then e :: es.filter (fun x => seen.contains x.b && p x) else es.filter fun x => seen.contains x.b && p x)
  | [], _, _, _, _, h, _ => by simp at h
  | x :: es, seen, e, p, hn, h, hs => by
    simp only [List.map_cons, List.nodup_cons, List.mem_map, not_exists, not_and] at hn
    rcases List.mem_cons.1 h with h1 | h1
    · subst h1
      have e1 := filt_same (seen := seen) (b := e.b) p (es := es) fun y hy he => hn.1 y hy he
      have hc : seen.contains e.b = false := by simpa using hs
      rw [List.filter_cons, List.filter_cons, e1]
      simp only [hc, Bool.false_and, Bool.false_eq_true, if_false]
      have : (seen ++ [e.b]).contains e.b = true := by simp
      rw [this, Bool.true_and]
    · have ih := filt_step p hn.2 h1 hs
      have hne : x.b ≠ e.b := fun he => hn.1 e h1 he.symm
      have hc : (seen ++ [e.b]).contains x.b = seen.contains x.b := by simp [hne]
      rw [List.filter_cons, List.filter_cons, hc]
      by_cases h2 : (seen.contains x.b && p x) = true
      · rw [if_pos h2, if_pos h2]
        by_cases h3 : p e = true
        · rw [if_pos h3] at ih ⊢
          exact (ih.cons x).trans (List.Perm.swap _ _ _)
        · rw [if_neg h3] at ih ⊢
          exact ih.cons x
      · rw [if_neg h2, if_neg h2]
        exact ih
theorem TreeIs.ent {es : List Ent} {L : List Kls} (T : TreeIs es L) {e : Ent} (he : e ∈ es) : ∃ x, findC L e.k = some x ∧ e.v = dkl x ∧ x.iD = e.k := by
  have : ofE e ∈ L.map ofC := T.perm.mem_iff.1 (List.mem_map.2 ⟨e, he, rfl⟩)
  obtain ⟨x, hx, e1⟩ := List.mem_map.1 this
  simp only [ofC, ofE, Prod.mk.injEq] at e1
  exact ⟨x, (findC_iff T.sorted).2 ⟨hx, e1.1⟩, e1.2.symm, e1.1⟩
theorem TreeIs.pick {es : List Ent} {L : List Kls} (T : TreeIs es L) (g : Kls → Bool) : ((es.filter fun e => sel L g e.k).map (·.k)).Perm ((L.filter g).map (·.iD)) := by
  have h1 := (T.perm.filter fun p => sel L g p.1).map Prod.fst
  have e1 : ((es.map ofE).filter fun p => sel L g p.1).map Prod.fst = (es.filter fun e => sel L g e.k).map (·.k) := by
    rw [List.filter_map, List.map_map]; rfl
  have e2 : ((L.map ofC).filter fun p => sel L g p.1).map Prod.fst = (L.filter g).map (·.iD) := by
    rw [List.filter_map, List.map_map]
    have : L.filter ((fun p => sel L g p.1) ∘ ofC) = L.filter g := List.filter_congr fun x hx => by
      have := (findC_iff T.sorted).2 ⟨hx, rfl⟩
      simp [sel, ofC, this]
    rw [this]; rfl
  rw [e1, e2] at h1
  exact h1
theorem pick_rising {L : List Kls} (h : Rising L) (g : Kls → Bool) : ((L.filter g).map (·.iD)).Pairwise (· < ·) := by
  rw [List.pairwise_map]
  exact List.Pairwise.filter g h
open Go.Shelf in
theorem sort_nil {P : Program} {ρ : Ren} (Ly : Lays.n189 P ρ) (h : List Ob) : MFn P (ρ.f 189) h [.nil] (fun d h' => d = .tup [] ∧ h' = h) := by
  intro Z base w pl vs hbase hZ R hvl hv
  match vs, hvl with
  | [v], _ =>
  obtain ⟨a, e1⟩ := inv_nil (hv 0 (by simp))
  have e1 : v = _ := e1
  subst e1
  refine (Any.slices_Sort_int_none Ly a 0 w).mono ?_
  rintro e w' ⟨rfl, rfl⟩
  exact ⟨_, .tup [], h, pl, rfl, ⟨rfl, rfl⟩, R, .tup [] [] rfl (fun i hi => by simp at hi), Tr.refl _ _ _, .refl _ _⟩
open Go.Shelf in
def Try.laysSort_ren : Go.Shelf.Ren := ⟨fun | 189 => 121 | 125 => 128 | 257 => 127 | 128 => 138 | 129 => 139 | 294 => 129 | 295 => 130 | 296 => 131 | 297 => 132 | 298 => 133 | 299 => 134 | 216 => 135 | 300 => 136 | 301 => 137 | 328 => 140 | 329 => 141 | 330 => 142 | 331 => 143 | 332 => 144 | 215 => 145 | 343 => 146 | n => n, fun | 28 => 86 | 3 => 3 | 46 => 107 | 0 => 0 | 51 => 201 | 53 => 38 | 4 => 4 | 183 => 194 | 182 => 193 | 131 => 198 | 5 => 5 | 9 => 9 | 218 => 203 | 222 => 207 | 228 => 209 | 229 => 210 | n => n, fun | n => n⟩
theorem Try.laysSort : Go.Proofs.Lays.n189 Try.prog Try.laysSort_ren := {
  mixed := by kernel_rfl
  f125 := Try.func128.trans (congrArg some (by kernel_rfl))
  f128 := Try.func138.trans (congrArg some (by kernel_rfl))
  f129 := Try.func139.trans (congrArg some (by kernel_rfl))
  f189 := Try.func121.trans (congrArg some (by kernel_rfl))
  f215 := Try.func145.trans (congrArg some (by kernel_rfl))
  f216 := Try.func135.trans (congrArg some (by kernel_rfl))
  f257 := Try.func127.trans (congrArg some (by kernel_rfl))
  f294 := Try.func129.trans (congrArg some (by kernel_rfl))
  f295 := Try.func130.trans (congrArg some (by kernel_rfl))
  f296 := Try.func131.trans (congrArg some (by kernel_rfl))
  f297 := Try.func132.trans (congrArg some (by kernel_rfl))
  f298 := Try.func133.trans (congrArg some (by kernel_rfl))
  f299 := Try.func134.trans (congrArg some (by kernel_rfl))
  f300 := Try.func136.trans (congrArg some (by kernel_rfl))
  f301 := Try.func137.trans (congrArg some (by kernel_rfl))
  f328 := Try.func140.trans (congrArg some (by kernel_rfl))
  f329 := Try.func141.trans (congrArg some (by kernel_rfl))
  f330 := Try.func142.trans (congrArg some (by kernel_rfl))
  f331 := Try.func143.trans (congrArg some (by kernel_rfl))
  f332 := Try.func144.trans (congrArg some (by kernel_rfl))
  f343 := Try.func146.trans (congrArg some (by kernel_rfl))
  t0 := Try.underlying0
  a0 := Try.isAgg0
  z0 := Try.sizeOf0
  v0 := Try.zeroValue0
  t3 := Try.underlying3
  a3 := Try.isAgg3
  z3 := Try.sizeOf3
  v3 := Try.zeroValue3
  t4 := Try.underlying4
  a4 := Try.isAgg4
  z4 := Try.sizeOf4
  v4 := Try.zeroValue4
  t5 := Try.underlying5
  a5 := Try.isAgg5
  z5 := Try.sizeOf5
  v5 := Try.zeroValue5
  t9 := Try.underlying9
  a9 := Try.isAgg9
  z9 := Try.sizeOf9
  v9 := Try.zeroValue9
  t28 := Try.underlying86
  a28 := Try.isAgg86
  z28 := Try.sizeOf86
  v28 := Try.zeroValue86
  t46 := Try.underlying107
  a46 := Try.isAgg107
  z46 := Try.sizeOf107
  v46 := Try.zeroValue107
  t51 := Try.underlying201
  a51 := Try.isAgg201
  z51 := Try.sizeOf201
  v51 := Try.zeroValue201
  t53 := Try.underlying38
  a53 := Try.isAgg38
  z53 := Try.sizeOf38
  v53 := Try.zeroValue38
  t131 := Try.underlying198
  a131 := Try.isAgg198
  z131 := Try.sizeOf198
  v131 := Try.zeroValue198
  t182 := Try.underlying193
  a182 := Try.isAgg193
  z182 := Try.sizeOf193
  v182 := Try.zeroValue193
  t183 := Try.underlying194
  a183 := Try.isAgg194
  z183 := Try.sizeOf194
  v183 := Try.zeroValue194
  t218 := Try.underlying203
  a218 := Try.isAgg203
  z218 := Try.sizeOf203
  v218 := Try.zeroValue203
  t222 := Try.underlying207
  a222 := Try.isAgg207
  z222 := Try.sizeOf207
  v222 := Try.zeroValue207
  t228 := Try.underlying209
  a228 := Try.isAgg209
  z228 := Try.sizeOf209
  v228 := Try.zeroValue209
  t229 := Try.underlying210
  a229 := Try.isAgg210
  z229 := Try.sizeOf210
  v229 := Try.zeroValue210 }
end Go.Fg.X
namespace Go.Fg.X
open Go.Proofs Go.Fg
set_option maxRecDepth 100000
set_option maxHeartbeats 4000000
set_option linter.unusedSimpArgs false
set_option linter.unusedVariables false
theorem sortI_ok {h : List Ob} {l g off N : Nat} {row : Nat → List D} {zs : List Int} (ho : h[l]? = some ⟨.arr, g, 1, N, row⟩) (hn : off + zs.length ≤ N) (hr : ∀ i, i < zs.length → row (off + i) = [.raw (.int .i64 (zs.getD i 0))]) (hlen : zs.length < 4611686018427387904) :
    MFn Try.prog 121 h [.ref l g off zs.length] (fun d h' => d = .tup [] ∧ h' = h.set l ⟨.arr, g, 1, N, sortRow off row (sorted zs)⟩) := sort_ok Try.laysSort ho hn hr hlen
theorem sortN_ok (h : List Ob) : MFn Try.prog 121 h [.nil] (fun d h' => d = .tup [] ∧ h' = h) := sort_nil Try.laysSort h
theorem argEq_refl (d : D) : argEq d d := by unfold argEq; split <;> first | exact rfl | simp_all
theorem argsEq_refl : ∀ l : List D, argsEq l l
  | [] => trivial
  | d :: r => ⟨argEq_refl d, argsEq_refl r⟩
/-- What a function value tells of a class, whatever is lent to it. -/
def Tells (F : List Ob) (f nf : Nat) (caps : List D) (g : Kls → Bool) : Prop := ∀ (h : List Ob) (c : Kls), ExtF F h → RFn0 Try.prog f h (argsD nf caps [dkl c]) (fun d => d = dbool (g c))
structure WInv (t m c : Nat) (es : List Ent) (L : List Kls) (gk : Kls → Bool) (so : D) (F : List Ob) (n : Nat) (s : St) : Prop where
  ex : ∃ seen d out H, leftE es seen = n ∧ ExtF F H ∧ SlcH F.length H d out ∧ out.Perm ((es.filter fun e => seen.contains e.b && sel L gk e.k).map (·.k)) ∧ H[F.length]? = some (iterOb m c c seen) ∧
    s = ⟨[(0, .ptr t 0 0 0), (1, so), (5, d), (14, .mref F.length 0)], H⟩
section
variable (h : List Ob) (t m c : Nat) {es : List Ent} {L : List Kls} (T : TreeIs es L) (hlen : L.length < 1000000)
  (ht : (h.map Ob.ro)[t]? = some ⟨.rone, 0, 1, 1, fun _ => [.mref m 0]⟩) (hm : (h.map Ob.ro)[m]? = some (mapOb .i64 c es).ro)
include T ht hm hlen
theorem hwhich_ok (so : D) (f nf : Nat) (caps : List D) (hf : FnOk Try.prog f) (hso : calleeD so = some (f, nf, caps)) (gk : Kls → Bool) (hg : Tells (h.map Ob.ro) f nf caps gk) :
    RFn Try.prog 96 h [.ptr t 0 0 0, so] (fun d g => SlcH h.length (h ++ g) d ((L.filter gk).map (·.iD))) := by
  refine RFn_hx cx_ok 200 Try.func96 rfl Try.ntmps96 Try.results96 rfl fun base w pl F hF hFl hb => ?_
  rw [← hF] at ht hm
  have ht_l := hlt ht
  have hm_l := hlt hm
  simp only [go_sem, Nat.reduceAdd, Nat.reduceSub, Nat.reduceMul, Nat.reduceBEq, Nat.reduceLT, Nat.reduceLeDiff, Nat.reduceEqDiff, Int.reduceToNat, Int.reduceLE, Int.reduceLT, Int.reduceAdd, Int.reduceSub, Int.reduceNeg, Int.reduceBEq, Int.reduceBNe, Nat.reduceBNe, Nat.reduceDiv, Nat.reduceMod, hgetA, hgetL, hgetLk, hsetA, hsetL, hsetLk, List.length_append, List.length_set, List.append_assoc, List.set_set, ht, ht_l, hm, hm_l]
  refine kont_births (kd := .rmap) (q := .i64) (l := m) (c := c) (es := es) rfl (by simp only [go_sem, Nat.reduceAdd, Nat.reduceSub, Nat.reduceMul, Nat.reduceBEq, Nat.reduceLT, Nat.reduceLeDiff, Nat.reduceEqDiff, Int.reduceToNat, Int.reduceLE, Int.reduceLT, Int.reduceAdd, Int.reduceSub, Int.reduceNeg, Int.reduceBEq, Int.reduceBNe, Nat.reduceBNe, Nat.reduceDiv, Nat.reduceMod, hgetA, hgetL, hgetLk, hsetA, hsetL, hsetLk, List.length_append, List.length_set, List.append_assoc, List.set_set, hm, hm_l]; rfl) fun hB => ?_
  refine kont_loop (WInv t m c es L gk so F) (leftE es []) (s0 := ⟨[(0, .ptr t 0 0 0), (1, so), (5, .nil), (14, .mref F.length 0)], F ++ [iterOb m c c []]⟩) (Weak.frame (by simp only [go_sem, Nat.reduceAdd, Nat.reduceSub, Nat.reduceMul, Nat.reduceBEq, Nat.reduceLT, Nat.reduceLeDiff, Nat.reduceEqDiff, Int.reduceToNat, Int.reduceLE, Int.reduceLT, Int.reduceAdd, Int.reduceSub, Int.reduceNeg, Int.reduceBEq, Int.reduceBNe, Nat.reduceBNe, Nat.reduceDiv, Nat.reduceMod])) ⟨[], .nil, [], _, rfl, ⟨_, rfl⟩, .inl ⟨rfl, rfl⟩, by simp, by rw [hgetL rfl]; rfl, rfl⟩ ?_
  rintro n s ⟨seen, d, out, H, hn, hx, hs, hp, hit, rfl⟩
  have hm2 := hx.get hm
  have hm2_l := hlt hm2
  have hit_l := hlt hit
  refine kont_of_hx cx_ok hb 200 ?_
  simp only [go_sem, Nat.reduceAdd, Nat.reduceSub, Nat.reduceMul, Nat.reduceBEq, Nat.reduceLT, Nat.reduceLeDiff, Nat.reduceEqDiff, Int.reduceToNat, Int.reduceLE, Int.reduceLT, Int.reduceAdd, Int.reduceSub, Int.reduceNeg, Int.reduceBEq, Int.reduceBNe, Nat.reduceBNe, Nat.reduceDiv, Nat.reduceMod, hgetA, hgetL, hgetLk, hsetA, hsetL, hsetLk, List.length_append, List.length_set, List.append_assoc, List.set_set]
  refine kont_next hb (li := F.length) (l := m) (c := c) (es := es) (seen := seen) (q := .i64) (kd := .rmap) rfl hit rfl hm2 rfl (fun hall => ?_) (fun e he hns => ?_)
  · refine kont_of_hx cx_ok hb 200 ?_
    simp only [go_sem, Nat.reduceAdd, Nat.reduceSub, Nat.reduceMul, Nat.reduceBEq, Nat.reduceLT, Nat.reduceLeDiff, Nat.reduceEqDiff, Int.reduceToNat, Int.reduceLE, Int.reduceLT, Int.reduceAdd, Int.reduceSub, Int.reduceNeg, Int.reduceBEq, Int.reduceBNe, Nat.reduceBNe, Nat.reduceDiv, Nat.reduceMod, hgetA, hgetL, hgetLk, hsetA, hsetL, hsetLk, List.length_append, List.length_set, List.append_assoc, List.set_set]
    have hfin : sorted out = (L.filter gk).map (·.iD) := by
      refine sorted_of_perm (hp.trans ?_) (pick_rising T.sorted gk)
      have : (es.filter fun e => seen.contains e.b && sel L gk e.k) = es.filter fun e => sel L gk e.k := List.filter_congr fun e he => by
        have : seen.contains e.b = true := by simpa using hall e he
        rw [this, Bool.true_and]
      rw [this]
      exact T.pick gk
    have hol : out.length < 4611686018427387904 := by
      have h1 : out.length = ((L.filter gk).map (·.iD)).length := by rw [← hfin, sorted_len]
      have h2 := List.length_filter_le gk L
      rw [List.length_map] at h1
      omega
    rcases hs with ⟨rfl, rfl⟩ | ⟨lo, g, off, row, rfl, hlo, ho, hr⟩
    · refine kont_of_hx cx_ok hb 200 ?_
      simp only [go_sem, Nat.reduceAdd, Nat.reduceSub, Nat.reduceMul, Nat.reduceBEq, Nat.reduceLT, Nat.reduceLeDiff, Nat.reduceEqDiff, Int.reduceToNat, Int.reduceLE, Int.reduceLT, Int.reduceAdd, Int.reduceSub, Int.reduceNeg, Int.reduceBEq, Int.reduceBNe, Nat.reduceBNe, Nat.reduceDiv, Nat.reduceMod, hgetA, hgetL, hgetLk, hsetA, hsetL, hsetLk, List.length_append, List.length_set, List.append_assoc, List.set_set]
      refine kont_callH hb fn121 rfl ?_ (sortN_ok H) rfl fun d h hR => ?_
      · simp only [go_sem, Nat.reduceAdd, Nat.reduceSub, Nat.reduceMul, Nat.reduceBEq, Nat.reduceLT, Nat.reduceLeDiff, Nat.reduceEqDiff, Int.reduceToNat, Int.reduceLE, Int.reduceLT, Int.reduceAdd, Int.reduceSub, Int.reduceNeg, Int.reduceBEq, Int.reduceBNe, Nat.reduceBNe, Nat.reduceDiv, Nat.reduceMod]
      obtain ⟨rfl, rfl⟩ := hR
      refine kont_of_hx cx_ok hb 200 ?_
      simp only [go_sem, Nat.reduceAdd, Nat.reduceSub, Nat.reduceMul, Nat.reduceBEq, Nat.reduceLT, Nat.reduceLeDiff, Nat.reduceEqDiff, Int.reduceToNat, Int.reduceLE, Int.reduceLT, Int.reduceAdd, Int.reduceSub, Int.reduceNeg, Int.reduceBEq, Int.reduceBNe, Nat.reduceBNe, Nat.reduceDiv, Nat.reduceMod]
      exact SlcH.done hFl hx (.inl ⟨rfl, by rw [← hfin]; simp [sorted]⟩)
    · have ho_l := hlt ho
      refine kont_of_hx cx_ok hb 200 ?_
      simp only [go_sem, Nat.reduceAdd, Nat.reduceSub, Nat.reduceMul, Nat.reduceBEq, Nat.reduceLT, Nat.reduceLeDiff, Nat.reduceEqDiff, Int.reduceToNat, Int.reduceLE, Int.reduceLT, Int.reduceAdd, Int.reduceSub, Int.reduceNeg, Int.reduceBEq, Int.reduceBNe, Nat.reduceBNe, Nat.reduceDiv, Nat.reduceMod, hgetA, hgetL, hgetLk, hsetA, hsetL, hsetLk, List.length_append, List.length_set, List.append_assoc, List.set_set]
      refine kont_callH hb fn121 rfl ?_ (sortI_ok ho (Nat.le_refl _) hr hol) rfl fun d h hR => ?_
      · simp only [go_sem, Nat.reduceAdd, Nat.reduceSub, Nat.reduceMul, Nat.reduceBEq, Nat.reduceLT, Nat.reduceLeDiff, Nat.reduceEqDiff, Int.reduceToNat, Int.reduceLE, Int.reduceLT, Int.reduceAdd, Int.reduceSub, Int.reduceNeg, Int.reduceBEq, Int.reduceBNe, Nat.reduceBNe, Nat.reduceDiv, Nat.reduceMod]
      obtain ⟨rfl, rfl⟩ := hR
      refine kont_of_hx cx_ok hb 200 ?_
      simp only [go_sem, Nat.reduceAdd, Nat.reduceSub, Nat.reduceMul, Nat.reduceBEq, Nat.reduceLT, Nat.reduceLeDiff, Nat.reduceEqDiff, Int.reduceToNat, Int.reduceLE, Int.reduceLT, Int.reduceAdd, Int.reduceSub, Int.reduceNeg, Int.reduceBEq, Int.reduceBNe, Nat.reduceBNe, Nat.reduceDiv, Nat.reduceMod]
      refine SlcH.done hFl (hx.set hlo _) ?_
      have hSl : ((L.filter gk).map (·.iD)).length = out.length := by rw [← hfin, sorted_len]
      refine .inr ⟨lo, g, off, sortRow off row (sorted out), ?_, hlo, ?_, ?_⟩
      · rw [hSl]
      · rw [hSl]; exact hgetS ho_l
      · rw [hfin]
        intro i hi
        unfold sortRow
        rw [if_pos (by omega), show off + i - off = i by omega]
        rfl
  · obtain ⟨x, hfx, hev, hid⟩ := T.ent he
    rw [hev]
    have hsel : sel L gk e.k = gk x := by simp [sel, hfx]
    obtain ⟨H', hH'⟩ : ∃ H', H' = H.set F.length (iterOb m c c (seen ++ [e.b])) := ⟨_, rfl⟩
    have hx' : ExtF F H' := by rw [hH']; exact hx.set (Nat.le_refl _) _
    have hit' : H'[F.length]? = some (iterOb m c c (seen ++ [e.b])) := by rw [hH']; exact hgetS hit_l
    have hs' : SlcH F.length H' d out := by
      rcases hs with hs | ⟨lo, g, off, row, h1, h2, h3, h4⟩
      · exact .inl hs
      · refine .inr ⟨lo, g, off, row, h1, h2, ?_, h4⟩
        rw [hH', hgetN (by rintro rfl; rw [hit] at h3; cases h3)]
        exact h3
    have hm3 := hx'.get hm
    have hm3_l := hlt hm3
    have hit'_l := hlt hit'
    have hstep := filt_step (fun e => sel L gk e.k) hB.nodup he hns
    have hlt2 := leftE_lt he hns
    rw [← hH']
    refine kont_of_hx cx_ok hb 200 ?_
    simp only [go_sem, Nat.reduceAdd, Nat.reduceSub, Nat.reduceMul, Nat.reduceBEq, Nat.reduceLT, Nat.reduceLeDiff, Nat.reduceEqDiff, Int.reduceToNat, Int.reduceLE, Int.reduceLT, Int.reduceAdd, Int.reduceSub, Int.reduceNeg, Int.reduceBEq, Int.reduceBNe, Nat.reduceBNe, Nat.reduceDiv, Nat.reduceMod, hgetA, hgetL, hgetLk, hsetA, hsetL, hsetLk, List.length_append, List.length_set, List.append_assoc, List.set_set]
    refine kont_of_hx cx_ok hb 200 ?_
    simp only [go_sem, Nat.reduceAdd, Nat.reduceSub, Nat.reduceMul, Nat.reduceBEq, Nat.reduceLT, Nat.reduceLeDiff, Nat.reduceEqDiff, Int.reduceToNat, Int.reduceLE, Int.reduceLT, Int.reduceAdd, Int.reduceSub, Int.reduceNeg, Int.reduceBEq, Int.reduceBNe, Nat.reduceBNe, Nat.reduceDiv, Nat.reduceMod, hgetA, hgetL, hgetLk, hsetA, hsetL, hsetLk, List.length_append, List.length_set, List.append_assoc, List.set_set]
    refine kont_entry (li := F.length) (l := m) (c := c) (es := es) (seen := seen) (q := .i64) (kd := .rmap) (e := e) rfl hit' rfl hm3 he rfl ?_
    rw [hev]
    refine kont_of_hx cx_ok hb 200 ?_
    simp only [go_sem, Nat.reduceAdd, Nat.reduceSub, Nat.reduceMul, Nat.reduceBEq, Nat.reduceLT, Nat.reduceLeDiff, Nat.reduceEqDiff, Int.reduceToNat, Int.reduceLE, Int.reduceLT, Int.reduceAdd, Int.reduceSub, Int.reduceNeg, Int.reduceBEq, Int.reduceBNe, Nat.reduceBNe, Nat.reduceDiv, Nat.reduceMod, hgetA, hgetL, hgetLk, hsetA, hsetL, hsetLk, List.length_append, List.length_set, List.append_assoc, List.set_set]
    refine kont_of_hx cx_ok hb 200 ?_
    simp only [go_sem, Nat.reduceAdd, Nat.reduceSub, Nat.reduceMul, Nat.reduceBEq, Nat.reduceLT, Nat.reduceLeDiff, Nat.reduceEqDiff, Int.reduceToNat, Int.reduceLE, Int.reduceLT, Int.reduceAdd, Int.reduceSub, Int.reduceNeg, Int.reduceBEq, Int.reduceBNe, Nat.reduceBNe, Nat.reduceDiv, Nat.reduceMod, hgetA, hgetL, hgetLk, hsetA, hsetL, hsetLk, List.length_append, List.length_set, List.append_assoc, List.set_set]
    refine kont_callR0 hb hf hso ?_ (hg _ x ?_) rfl fun d2 hR => ?_
    · simp only [go_sem, Nat.reduceAdd, Nat.reduceSub, Nat.reduceMul, Nat.reduceBEq, Nat.reduceLT, Nat.reduceLeDiff, Nat.reduceEqDiff, Int.reduceToNat, Int.reduceLE, Int.reduceLT, Int.reduceAdd, Int.reduceSub, Int.reduceNeg, Int.reduceBEq, Int.reduceBNe, Nat.reduceBNe, Nat.reduceDiv, Nat.reduceMod]
      exact argsEq_refl _
    · rw [← hF]; exact hx'.app _
    subst hR
    refine kont_of_hx cx_ok hb 200 ?_
    have hol : out.length ≤ es.length := by
      have h1 := hp.length_eq
      rw [List.length_map] at h1
      rw [h1]; exact List.length_filter_le _ _
    have hol2 := T.len
    simp only [hsel] at hstep
    cases hgx : gk x
    · simp only [hgx, Bool.false_eq_true, if_false] at hstep
      simp only [go_sem, Nat.reduceAdd, Nat.reduceSub, Nat.reduceMul, Nat.reduceBEq, Nat.reduceLT, Nat.reduceLeDiff, Nat.reduceEqDiff, Int.reduceToNat, Int.reduceLE, Int.reduceLT, Int.reduceAdd, Int.reduceSub, Int.reduceNeg, Int.reduceBEq, Int.reduceBNe, Nat.reduceBNe, Nat.reduceDiv, Nat.reduceMod, hgetA, hgetL, hgetLk, hsetA, hsetL, hsetLk, List.length_append, List.length_set, List.append_assoc, List.set_set]
      exact ⟨leftE es (seen ++ [e.b]), ⟨[(0, .ptr t 0 0 0), (1, so), (5, d), (14, .mref F.length 0)], _⟩, by omega, Weak.frame (by simp only [go_sem, Nat.reduceAdd, Nat.reduceSub, Nat.reduceMul, Nat.reduceBEq, Nat.reduceLT, Nat.reduceLeDiff, Nat.reduceEqDiff, Int.reduceToNat, Int.reduceLE, Int.reduceLT, Int.reduceAdd, Int.reduceSub, Int.reduceNeg, Int.reduceBEq, Int.reduceBNe, Nat.reduceBNe, Nat.reduceDiv, Nat.reduceMod]), ⟨⟨seen ++ [e.b], d, out, _, rfl, hx'.app _, hs'.app _, hp.trans (hstep.map _).symm, by rw [hgetA hit'_l]; exact hit', rfl⟩⟩⟩
    · simp only [hgx, if_true] at hstep
      have hp2 : (out ++ [e.k]).Perm ((es.filter fun x => (seen ++ [e.b]).contains x.b && sel L gk x.k).map (·.k)) := by
        refine (List.perm_append_comm.trans ?_).trans (hstep.map _).symm
        exact hp.cons e.k
      rcases hs' with ⟨rfl, rfl⟩ | ⟨lo, g, off, row, rfl, hlo, ho, hr⟩
      · simp only [go_sem, Nat.reduceAdd, Nat.reduceSub, Nat.reduceMul, Nat.reduceBEq, Nat.reduceLT, Nat.reduceLeDiff, Nat.reduceEqDiff, Int.reduceToNat, Int.reduceLE, Int.reduceLT, Int.reduceAdd, Int.reduceSub, Int.reduceNeg, Int.reduceBEq, Int.reduceBNe, Nat.reduceBNe, Nat.reduceDiv, Nat.reduceMod, hgetA, hgetL, hgetLk, hsetA, hsetL, hsetLk, List.length_append, List.length_set, List.append_assoc, List.set_set]
        refine ⟨leftE es (seen ++ [e.b]), ⟨[(0, .ptr t 0 0 0), (1, so), (5, .ref (H'.length + 2) 0 0 1), (14, .mref F.length 0)], _⟩, by omega, Weak.frame (by simp only [go_sem, Nat.reduceAdd, Nat.reduceSub, Nat.reduceMul, Nat.reduceBEq, Nat.reduceLT, Nat.reduceLeDiff, Nat.reduceEqDiff, Int.reduceToNat, Int.reduceLE, Int.reduceLT, Int.reduceAdd, Int.reduceSub, Int.reduceNeg, Int.reduceBEq, Int.reduceBNe, Nat.reduceBNe, Nat.reduceDiv, Nat.reduceMod]), ⟨⟨seen ++ [e.b], _, [e.k], _, rfl, hx'.app _, ?_, hp2, by rw [hgetA hit'_l]; exact hit', rfl⟩⟩⟩
        have := hx'.len
        refine .inr ⟨H'.length + 2, 0, 0, _, rfl, by omega, by rw [hgetLk rfl]; rfl, fun i hi => ?_⟩
        have : i = 0 := by simp at hi; omega
        subst this; rfl
      · have ho_l := hlt ho
        have hne : F.length ≠ lo := by rintro rfl; rw [hit'] at ho; cases ho
        simp only [go_sem, Nat.reduceAdd, Nat.reduceSub, Nat.reduceMul, Nat.reduceBEq, Nat.reduceLT, Nat.reduceLeDiff, Nat.reduceEqDiff, Int.reduceToNat, Int.reduceLE, Int.reduceLT, Int.reduceAdd, Int.reduceSub, Int.reduceNeg, Int.reduceBEq, Int.reduceBNe, Nat.reduceBNe, Nat.reduceDiv, Nat.reduceMod, hgetA, hgetL, hgetLk, hsetA, hsetL, hsetLk, List.length_append, List.length_set, List.append_assoc, List.set_set, ho, ho_l]
        refine ⟨by omega, leftE es (seen ++ [e.b]), ⟨[(0, .ptr t 0 0 0), (1, so), (5, .ref lo (g + 1) 0 (out.length + 1)), (14, .mref F.length 0)], _⟩, by omega, Weak.frame (by simp only [go_sem, Nat.reduceAdd, Nat.reduceSub, Nat.reduceMul, Nat.reduceBEq, Nat.reduceLT, Nat.reduceLeDiff, Nat.reduceEqDiff, Int.reduceToNat, Int.reduceLE, Int.reduceLT, Int.reduceAdd, Int.reduceSub, Int.reduceNeg, Int.reduceBEq, Int.reduceBNe, Nat.reduceBNe, Nat.reduceDiv, Nat.reduceMod]), ⟨⟨seen ++ [e.b], _, out ++ [e.k], _, rfl, ?_, ?_, hp2, ?_, rfl⟩⟩⟩
        · exact (hx'.set hlo _).app _
        · refine .inr ⟨lo, g + 1, 0, _, by simp, by omega, ?_, slc_push hr⟩
          rw [hgetA (by simpa using ho_l), hgetS ho_l]
          simp [dint]
        · rw [hgetA (by simpa using hit'_l), hgetN (Ne.symm hne)]; exact hit'
end
end Go.Fg.X
namespace Go.Fg.X
open Go.Proofs Go.Fg
set_option maxRecDepth 100000
set_option maxHeartbeats 4000000
set_option linter.unusedSimpArgs false
set_option linter.unusedVariables false
theorem ro_app {h t : List Ob} {l : Nat} {o : Ob} (e : h[l]? = some o) : ((h ++ t).map Ob.ro)[l]? = some o.ro := ro_get (by rw [hgetA (hlt e)]; exact e)
theorem SlcH.le {n n' : Nat} {H : List Ob} {d : D} {L : List Int} (x : SlcH n H d L) (hn : n' ≤ n) : SlcH n' H d L := by
  rcases x with x | ⟨lo, gg, off, row, h1, h2, h3, h4⟩
  · exact .inl x
  · exact .inr ⟨lo, gg, off, row, h1, by omega, h3, h4⟩
theorem child_ok (h : List Ob) (lb : Nat) (id : Int) (x : Kls) (hl : (h.map Ob.ro)[lb]? = some ⟨.rone, 0, 1, 1, fun _ => [dint id]⟩) : RFn0 Try.prog 97 h [dkl x, .ptr lb 0 0 0] (fun d => d = dbool (x.parent == id)) := by
  refine RFn0_hx cx_ok 200 Try.func97 rfl Try.ntmps97 Try.results97 rfl fun base w pl F hF hFl hb => ?_
  rw [← hF] at hl
  have hl_l := hlt hl
  simp only [go_sem, Nat.reduceAdd, Nat.reduceSub, Nat.reduceMul, Nat.reduceBEq, Nat.reduceLT, Nat.reduceLeDiff, Nat.reduceEqDiff, Int.reduceToNat, Int.reduceLE, Int.reduceLT, Int.reduceAdd, Int.reduceSub, Int.reduceNeg, Int.reduceBEq, Int.reduceBNe, Nat.reduceBNe, Nat.reduceDiv, Nat.reduceMod, hgetA, hgetL, hgetLk, hsetA, hsetL, hsetLk, List.length_append, List.length_set, List.append_assoc, List.set_set, hl, hl_l]
  exact ⟨_, rfl⟩
def childC (L : List Kls) (id : Int) : List Int := (L.filter fun x => x.parent == id).map (·.iD)
section
variable (h : List Ob) (t m c : Nat) {es : List Ent} {L : List Kls} (T : TreeIs es L) (hlen : L.length < 1000000)
  (ht : (h.map Ob.ro)[t]? = some ⟨.rone, 0, 1, 1, fun _ => [.mref m 0]⟩) (hm : (h.map Ob.ro)[m]? = some (mapOb .i64 c es).ro)
include T ht hm hlen
theorem hchildren_ok (id : Int) : RFn Try.prog 58 h [.ptr t 0 0 0, dint id] (fun d g => SlcH h.length (h ++ g) d (childC L id)) := by
  refine RFn_hx cx_ok 200 Try.func58 rfl Try.ntmps58 Try.results58 rfl fun base w pl F hF hFl hb => ?_
  rw [← hF] at ht hm
  have ht_l := hlt ht
  have hm_l := hlt hm
  simp only [go_sem, Nat.reduceAdd, Nat.reduceSub, Nat.reduceMul, Nat.reduceBEq, Nat.reduceLT, Nat.reduceLeDiff, Nat.reduceEqDiff, Int.reduceToNat, Int.reduceLE, Int.reduceLT, Int.reduceAdd, Int.reduceSub, Int.reduceNeg, Int.reduceBEq, Int.reduceBNe, Nat.reduceBNe, Nat.reduceDiv, Nat.reduceMod, hgetA, hgetL, hgetLk, hsetA, hsetL, hsetLk, List.length_append, List.length_set, List.append_assoc, List.set_set, ht, ht_l, hm, hm_l]
  have hx : ExtF F (F ++ ([⟨.one, 0, 1, 1, fun _ => [dint id]⟩] : List Ob)) := ⟨_, rfl⟩
  have hT : Tells ((F ++ ([⟨.one, 0, 1, 1, fun _ => [dint id]⟩] : List Ob)).map Ob.ro) 97 0 [.ptr F.length 0 0 0] (fun x => x.parent == id) := fun h' x hx' => child_ok h' F.length id x (by
    have e := hx'.get (l := F.length) (o := ⟨.rone, 0, 1, 1, fun _ => [dint id]⟩) (by rw [List.map_append, hgetL (by simp)]; rfl)
    exact ro_get e)
  refine kont_callR hb fn96 rfl ?_ (hwhich_ok _ t m c T hlen (ro_get (hx.get ht)) (roro_get (hx.get hm)) (.clo 97 0 [.ptr F.length 0 0 0]) 97 0 [.ptr F.length 0 0 0] fn97 rfl _ hT) rfl fun d g hs => ?_
  · simp only [go_sem, Nat.reduceAdd, Nat.reduceSub, Nat.reduceMul, Nat.reduceBEq, Nat.reduceLT, Nat.reduceLeDiff, Nat.reduceEqDiff, Int.reduceToNat, Int.reduceLE, Int.reduceLT, Int.reduceAdd, Int.reduceSub, Int.reduceNeg, Int.reduceBEq, Int.reduceBNe, Nat.reduceBNe, Nat.reduceDiv, Nat.reduceMod]
  refine kont_of_hx cx_ok hb 200 ?_
  simp only [go_sem, Nat.reduceAdd, Nat.reduceSub, Nat.reduceMul, Nat.reduceBEq, Nat.reduceLT, Nat.reduceLeDiff, Nat.reduceEqDiff, Int.reduceToNat, Int.reduceLE, Int.reduceLT, Int.reduceAdd, Int.reduceSub, Int.reduceNeg, Int.reduceBEq, Int.reduceBNe, Nat.reduceBNe, Nat.reduceDiv, Nat.reduceMod, hgetA, hgetL, hgetLk, hsetA, hsetL, hsetLk, List.length_append, List.length_set, List.append_assoc, List.set_set]
  have hs2 := hs.le (n' := F.length) (by simp)
  rw [List.append_assoc] at hs2
  exact SlcH.done hFl ⟨_, rfl⟩ hs2
/-! What becomes of a tree. -/
def addE (L : List Kls) (x : Kls) (dp : Nat) : Int :=
  if rightV x ≠ 0 then rightV x
  else if (findC L x.iD).isSome then 8
  else if L.length = 64 then 5
  else if (x.parent ≠ 0 ∧ (findC L x.parent).isNone) ∨ ((findC L x.parent).getD default).leaf = true then 23
  else if 1 < ofI x.ls ∧ sharesC L x.parent = false then 29
  else if dp = 16 then 25
  else 0
end
section
variable (h : List Ob) (t m c : Nat) {es : List Ent} {L : List Kls} (T : TreeIs es L) (hlen : L.length < 1000000)
  (ht : h[t]? = some ⟨.one, 0, 1, 1, fun _ => [.mref m 0]⟩) (hm : h[m]? = some (mapOb .i64 c es))
include T ht hm hlen
/-- What a heap is behind a change: a tree, and more. -/
structure TreeAt (h : List Ob) (t m : Nat) (L : List Kls) (h' : List Ob) : Prop where
  ex : ∃ c es, h'[t]? = some ⟨.one, 0, 1, 1, fun _ => [.mref m 0]⟩ ∧ h'[m]? = some (mapOb .i64 c es) ∧ TreeIs es L
  len : h.length ≤ h'.length
  old : ∀ l, l < h.length → l ≠ m → h'[l]? = h[l]?
omit T hlen in
theorem TreeAt.same (T : TreeIs es L) (g : List Ob) : TreeAt h t m L (h ++ g) :=
  ⟨⟨c, es, by rw [hgetA (hlt ht)]; exact ht, by rw [hgetA (hlt hm)]; exact hm, T⟩, by simp, fun l hl _ => hgetA hl⟩
omit hlen in
theorem TreeAt.upd (x : Kls) (g : List Ob) : TreeAt h t m (putC L x) (h.set m (mset .i64 c es x.iD (dkl x)) ++ g) := by
  obtain ⟨c', es', e, T'⟩ := mset_tree T .i64 c x
  have hm_l := hlt hm
  have ht_l := hlt ht
  have hne : m ≠ t := by rintro rfl; rw [ht] at hm; cases hm
  rw [e]
  refine ⟨⟨c', es', ?_, ?_, T'⟩, by simp, fun l hl hl2 => ?_⟩
  · rw [hgetA (by simpa using ht_l), hgetN hne]; exact ht
  · rw [hgetA (by simpa using hm_l), hgetS hm_l]
  · rw [hgetA (by simpa using hl), hgetN (Ne.symm hl2)]
omit hlen in
theorem hadd_ok (x : Kls) (N : Nat) (hN : N < 1000000) (hE : Ends L N x.parent) : MFn Try.prog 31 h [.ptr t 0 0 0, dkl x] (fun d h' => d = dint (addE L x (upF L N x.parent).length) ∧ TreeAt h t m (if addE L x (upF L N x.parent).length = 0 then putC L x else L) h') := by
  have hk := T.look x.iD
  have hk2 := T.look x.parent
  have hll := T.len
  have ht_l := hlt ht
  have hm_l := hlt hm
  obtain ⟨E, hE0⟩ : ∃ E, E = addE L x (upF L N x.parent).length := ⟨_, rfl⟩
  rw [← hE0]
  have bad : ∀ g : List Ob, E ≠ 0 → TreeAt h t m (if E = 0 then putC L x else L) (h ++ g) := fun g hne => by rw [if_neg hne]; exact TreeAt.same h t m c ht hm T g
  refine MFn_hx cx_ok 200 Try.func31 rfl Try.ntmps31 Try.results31 rfl fun base w pl hb => ?_
  have ht_l := hlt ht
  have hm_l := hlt hm
  simp only [go_sem, Nat.reduceAdd, Nat.reduceSub, Nat.reduceMul, Nat.reduceBEq, Nat.reduceLT, Nat.reduceLeDiff, Nat.reduceEqDiff, Int.reduceToNat, Int.reduceLE, Int.reduceLT, Int.reduceAdd, Int.reduceSub, Int.reduceNeg, Int.reduceBEq, Int.reduceBNe, Nat.reduceBNe, Nat.reduceDiv, Nat.reduceMod, hgetA, hgetL, hgetLk, hsetA, hsetL, hsetLk, List.length_append, List.length_set, List.append_assoc, List.set_set, ht, ht_l, hm, hm_l]
  refine kont_call hb fn54 rfl ?_ (sright_ok x) (Ret.flat rfl) rfl fun d h hR => ?_
  · simp only [go_sem, Nat.reduceAdd, Nat.reduceSub, Nat.reduceMul, Nat.reduceBEq, Nat.reduceLT, Nat.reduceLeDiff, Nat.reduceEqDiff, Int.reduceToNat, Int.reduceLE, Int.reduceLT, Int.reduceAdd, Int.reduceSub, Int.reduceNeg, Int.reduceBEq, Int.reduceBNe, Nat.reduceBNe, Nat.reduceDiv, Nat.reduceMod, hgetA, hgetL, hgetLk, hsetA, hsetL, hsetLk, List.length_append, List.length_set, List.append_assoc, List.set_set]
  obtain ⟨rfl, rfl⟩ := hR
  refine kont_of_hx cx_ok hb 200 ?_
  simp only [go_sem, Nat.reduceAdd, Nat.reduceSub, Nat.reduceMul, Nat.reduceBEq, Nat.reduceLT, Nat.reduceLeDiff, Nat.reduceEqDiff, Int.reduceToNat, Int.reduceLE, Int.reduceLT, Int.reduceAdd, Int.reduceSub, Int.reduceNeg, Int.reduceBEq, Int.reduceBNe, Nat.reduceBNe, Nat.reduceDiv, Nat.reduceMod, hgetA, hgetL, hgetLk, hsetA, hsetL, hsetLk, List.length_append, List.length_set, List.append_assoc, List.set_set]
  by_cases h0 : rightV x = 0
  case neg =>
    have e : E = rightV x := by rw [hE0, addE, if_pos h0]
    simp only [go_sem, Nat.reduceAdd, Nat.reduceSub, Nat.reduceMul, Nat.reduceBEq, Nat.reduceLT, Nat.reduceLeDiff, Nat.reduceEqDiff, Int.reduceToNat, Int.reduceLE, Int.reduceLT, Int.reduceAdd, Int.reduceSub, Int.reduceNeg, Int.reduceBEq, Int.reduceBNe, Nat.reduceBNe, Nat.reduceDiv, Nat.reduceMod, hgetA, hgetL, hgetLk, hsetA, hsetL, hsetLk, List.length_append, List.length_set, List.append_assoc, List.set_set, beqF h0, bne]
    exact ⟨by rw [e], bad _ (by rw [e]; exact h0)⟩
  simp only [go_sem, Nat.reduceAdd, Nat.reduceSub, Nat.reduceMul, Nat.reduceBEq, Nat.reduceLT, Nat.reduceLeDiff, Nat.reduceEqDiff, Int.reduceToNat, Int.reduceLE, Int.reduceLT, Int.reduceAdd, Int.reduceSub, Int.reduceNeg, Int.reduceBEq, Int.reduceBNe, Nat.reduceBNe, Nat.reduceDiv, Nat.reduceMod, hgetA, hgetL, hgetLk, hsetA, hsetL, hsetLk, List.length_append, List.length_set, List.append_assoc, List.set_set, beqT h0, bne]
  cases hf1 : findC L x.iD with
  | some y =>
    have e : E = 8 := by rw [hE0, addE, if_neg (by simpa using h0), if_pos (by simp [hf1])]
    rw [hf1, Option.map_some] at hk
    refine kont_hax cx_ok hb 200 mixed [(0, true), (1, true), (2, true), (3, true), (4, true), (5, true), (6, true), (7, true), (8, true), (9, true), (10, false), (11, false), (12, true)] (by kernel_rfl) (by kernel_rfl) ?_
    simp only [go_sem, Nat.reduceAdd, Nat.reduceSub, Nat.reduceMul, Nat.reduceBEq, Nat.reduceLT, Nat.reduceLeDiff, Nat.reduceEqDiff, Int.reduceToNat, Int.reduceLE, Int.reduceLT, Int.reduceAdd, Int.reduceSub, Int.reduceNeg, Int.reduceBEq, Int.reduceBNe, Nat.reduceBNe, Nat.reduceDiv, Nat.reduceMod, hgetA, hgetL, hgetLk, hsetA, hsetL, hsetLk, List.length_append, List.length_set, List.append_assoc, List.set_set, ht, hm, ht_l, hm_l, hk]
    cases hf2 : findC L x.parent with
    | none =>
      rw [hf2, Option.map_none] at hk2
      refine kont_hax cx_ok hb 200 mixed [(0, true), (1, true), (2, true), (3, true), (4, true), (5, true), (6, true), (7, true), (8, true), (9, true), (10, false), (11, false), (12, true)] (by kernel_rfl) (by kernel_rfl) ?_
      simp only [go_sem, Nat.reduceAdd, Nat.reduceSub, Nat.reduceMul, Nat.reduceBEq, Nat.reduceLT, Nat.reduceLeDiff, Nat.reduceEqDiff, Int.reduceToNat, Int.reduceLE, Int.reduceLT, Int.reduceAdd, Int.reduceSub, Int.reduceNeg, Int.reduceBEq, Int.reduceBNe, Nat.reduceBNe, Nat.reduceDiv, Nat.reduceMod, hgetA, hgetL, hgetLk, hsetA, hsetL, hsetLk, List.length_append, List.length_set, List.append_assoc, List.set_set, ht, hm, ht_l, hm_l, hk2]
      exact ⟨by rw [e], bad _ (by rw [e]; decide)⟩
    | some z =>
      rw [hf2, Option.map_some] at hk2
      refine kont_hax cx_ok hb 200 mixed [(0, true), (1, true), (2, true), (3, true), (4, true), (5, true), (6, true), (7, true), (8, true), (9, true), (10, false), (11, false), (12, true)] (by kernel_rfl) (by kernel_rfl) ?_
      simp only [go_sem, Nat.reduceAdd, Nat.reduceSub, Nat.reduceMul, Nat.reduceBEq, Nat.reduceLT, Nat.reduceLeDiff, Nat.reduceEqDiff, Int.reduceToNat, Int.reduceLE, Int.reduceLT, Int.reduceAdd, Int.reduceSub, Int.reduceNeg, Int.reduceBEq, Int.reduceBNe, Nat.reduceBNe, Nat.reduceDiv, Nat.reduceMod, hgetA, hgetL, hgetLk, hsetA, hsetL, hsetLk, List.length_append, List.length_set, List.append_assoc, List.set_set, ht, hm, ht_l, hm_l, hk2]
      exact ⟨by rw [e], bad _ (by rw [e]; decide)⟩
  | none =>
    rw [hf1, Option.map_none] at hk
    refine kont_hax cx_ok hb 200 mixed [(0, true), (1, true), (2, true), (3, true), (4, true), (5, true), (6, true), (7, true), (8, true), (9, true), (10, false), (11, false), (12, true)] (by kernel_rfl) (by kernel_rfl) ?_
    simp only [go_sem, Nat.reduceAdd, Nat.reduceSub, Nat.reduceMul, Nat.reduceBEq, Nat.reduceLT, Nat.reduceLeDiff, Nat.reduceEqDiff, Int.reduceToNat, Int.reduceLE, Int.reduceLT, Int.reduceAdd, Int.reduceSub, Int.reduceNeg, Int.reduceBEq, Int.reduceBNe, Nat.reduceBNe, Nat.reduceDiv, Nat.reduceMod, hgetA, hgetL, hgetLk, hsetA, hsetL, hsetLk, List.length_append, List.length_set, List.append_assoc, List.set_set, ht, hm, ht_l, hm_l, hk]
    have a1 : E = (if L.length = 64 then 5 else if (x.parent ≠ 0 ∧ (findC L x.parent).isNone) ∨ ((findC L x.parent).getD default).leaf = true then 23 else if 1 < ofI x.ls ∧ sharesC L x.parent = false then 29 else if (upF L N x.parent).length = 16 then 25 else 0) := by
      rw [hE0, addE, if_neg (by simpa using h0), if_neg (by simp [hf1])]
    by_cases h64 : L.length = 64
    · have e : E = 5 := by rw [a1, if_pos h64]
      have e64 : (((es.length + 1 - 1 : Nat) : Int) == 64) = true := by rw [Nat.add_sub_cancel]; simp; omega
      cases hf2 : findC L x.parent with
      | none =>
        rw [hf2, Option.map_none] at hk2
        refine kont_hax cx_ok hb 200 mixed [(0, true), (1, true), (2, true), (3, true), (4, true), (5, true), (6, true), (7, true), (8, true), (9, true), (10, false), (11, false), (12, true)] (by kernel_rfl) (by kernel_rfl) ?_
        simp only [go_sem, Nat.reduceAdd, Nat.reduceSub, Nat.reduceMul, Nat.reduceBEq, Nat.reduceLT, Nat.reduceLeDiff, Nat.reduceEqDiff, Int.reduceToNat, Int.reduceLE, Int.reduceLT, Int.reduceAdd, Int.reduceSub, Int.reduceNeg, Int.reduceBEq, Int.reduceBNe, Nat.reduceBNe, Nat.reduceDiv, Nat.reduceMod, hgetA, hgetL, hgetLk, hsetA, hsetL, hsetLk, List.length_append, List.length_set, List.append_assoc, List.set_set, ht, hm, ht_l, hm_l, hk2, e64]
        exact ⟨by rw [e], bad _ (by rw [e]; decide)⟩
      | some z =>
        rw [hf2, Option.map_some] at hk2
        refine kont_hax cx_ok hb 200 mixed [(0, true), (1, true), (2, true), (3, true), (4, true), (5, true), (6, true), (7, true), (8, true), (9, true), (10, false), (11, false), (12, true)] (by kernel_rfl) (by kernel_rfl) ?_
        simp only [go_sem, Nat.reduceAdd, Nat.reduceSub, Nat.reduceMul, Nat.reduceBEq, Nat.reduceLT, Nat.reduceLeDiff, Nat.reduceEqDiff, Int.reduceToNat, Int.reduceLE, Int.reduceLT, Int.reduceAdd, Int.reduceSub, Int.reduceNeg, Int.reduceBEq, Int.reduceBNe, Nat.reduceBNe, Nat.reduceDiv, Nat.reduceMod, hgetA, hgetL, hgetLk, hsetA, hsetL, hsetLk, List.length_append, List.length_set, List.append_assoc, List.set_set, ht, hm, ht_l, hm_l, hk2, e64]
        exact ⟨by rw [e], bad _ (by rw [e]; decide)⟩
    rw [if_neg h64] at a1
    have e64 : (((es.length + 1 - 1 : Nat) : Int) == 64) = false := by rw [Nat.add_sub_cancel]; simp; omega
    cases hf2 : findC L x.parent with
    | none =>
      rw [hf2, Option.map_none] at hk2
      by_cases hp0 : x.parent = 0
      · refine kont_hax cx_ok hb 200 mixed [(0, true), (1, true), (2, true), (3, true), (4, true), (5, true), (6, true), (7, true), (8, true), (9, true), (10, false), (11, false), (12, true)] (by kernel_rfl) (by kernel_rfl) ?_
        simp only [go_sem, Nat.reduceAdd, Nat.reduceSub, Nat.reduceMul, Nat.reduceBEq, Nat.reduceLT, Nat.reduceLeDiff, Nat.reduceEqDiff, Int.reduceToNat, Int.reduceLE, Int.reduceLT, Int.reduceAdd, Int.reduceSub, Int.reduceNeg, Int.reduceBEq, Int.reduceBNe, Nat.reduceBNe, Nat.reduceDiv, Nat.reduceMod, hgetA, hgetL, hgetLk, hsetA, hsetL, hsetLk, List.length_append, List.length_set, List.append_assoc, List.set_set, ht, hm, ht_l, hm_l, hk2, e64, beqT hp0, bne]
        have a2 : E = (if 1 < ofI x.ls ∧ sharesC L x.parent = false then 29 else if (upF L N x.parent).length = 16 then 25 else 0) := by rw [a1, if_neg (by rw [hf2]; rintro (⟨h1, _⟩ | h1); exact h1 hp0; cases h1)]
        refine kont_call hb fn55 rfl ?_ (sshares_ok x) (Ret.flat rfl) rfl fun d h hR => ?_
        · simp only [go_sem, Nat.reduceAdd, Nat.reduceSub, Nat.reduceMul, Nat.reduceBEq, Nat.reduceLT, Nat.reduceLeDiff, Nat.reduceEqDiff, Int.reduceToNat, Int.reduceLE, Int.reduceLT, Int.reduceAdd, Int.reduceSub, Int.reduceNeg, Int.reduceBEq, Int.reduceBNe, Nat.reduceBNe, Nat.reduceDiv, Nat.reduceMod, hgetA, hgetL, hgetLk, hsetA, hsetL, hsetLk, List.length_append, List.length_set, List.append_assoc, List.set_set]
        obtain ⟨rfl, rfl⟩ := hR
        refine kont_of_hx cx_ok hb 200 ?_
        simp only [go_sem, Nat.reduceAdd, Nat.reduceSub, Nat.reduceMul, Nat.reduceBEq, Nat.reduceLT, Nat.reduceLeDiff, Nat.reduceEqDiff, Int.reduceToNat, Int.reduceLE, Int.reduceLT, Int.reduceAdd, Int.reduceSub, Int.reduceNeg, Int.reduceBEq, Int.reduceBNe, Nat.reduceBNe, Nat.reduceDiv, Nat.reduceMod, hgetA, hgetL, hgetLk, hsetA, hsetL, hsetLk, List.length_append, List.length_set, List.append_assoc, List.set_set]
        cases hs1 : decide (1 < ofI x.ls)
        · simp only [go_sem, Nat.reduceAdd, Nat.reduceSub, Nat.reduceMul, Nat.reduceBEq, Nat.reduceLT, Nat.reduceLeDiff, Nat.reduceEqDiff, Int.reduceToNat, Int.reduceLE, Int.reduceLT, Int.reduceAdd, Int.reduceSub, Int.reduceNeg, Int.reduceBEq, Int.reduceBNe, Nat.reduceBNe, Nat.reduceDiv, Nat.reduceMod, hgetA, hgetL, hgetLk, hsetA, hsetL, hsetLk, List.length_append, List.length_set, List.append_assoc, List.set_set, Go.undef]
          refine kont_callR0 hb fn57 rfl ?_ (hdepth_ok _ t m c T (ro_app ht) (ro_app hm) x.parent N hN hE) rfl fun d hR => ?_
          · simp only [go_sem, Nat.reduceAdd, Nat.reduceSub, Nat.reduceMul, Nat.reduceBEq, Nat.reduceLT, Nat.reduceLeDiff, Nat.reduceEqDiff, Int.reduceToNat, Int.reduceLE, Int.reduceLT, Int.reduceAdd, Int.reduceSub, Int.reduceNeg, Int.reduceBEq, Int.reduceBNe, Nat.reduceBNe, Nat.reduceDiv, Nat.reduceMod, hgetA, hgetL, hgetLk, hsetA, hsetL, hsetLk, List.length_append, List.length_set, List.append_assoc, List.set_set]
          subst hR
          refine kont_of_hx cx_ok hb 200 ?_
          simp only [go_sem, Nat.reduceAdd, Nat.reduceSub, Nat.reduceMul, Nat.reduceBEq, Nat.reduceLT, Nat.reduceLeDiff, Nat.reduceEqDiff, Int.reduceToNat, Int.reduceLE, Int.reduceLT, Int.reduceAdd, Int.reduceSub, Int.reduceNeg, Int.reduceBEq, Int.reduceBNe, Nat.reduceBNe, Nat.reduceDiv, Nat.reduceMod, hgetA, hgetL, hgetLk, hsetA, hsetL, hsetLk, List.length_append, List.length_set, List.append_assoc, List.set_set]
          by_cases hd : (upF L N x.parent).length = 16
          · have e : E = 25 := by rw [a2, if_neg (by simp at hs1; omega), if_pos hd]
            have hd2 : (((upF L N x.parent).length : Int) == 16) = true := by simp; omega
            simp only [go_sem, Nat.reduceAdd, Nat.reduceSub, Nat.reduceMul, Nat.reduceBEq, Nat.reduceLT, Nat.reduceLeDiff, Nat.reduceEqDiff, Int.reduceToNat, Int.reduceLE, Int.reduceLT, Int.reduceAdd, Int.reduceSub, Int.reduceNeg, Int.reduceBEq, Int.reduceBNe, Nat.reduceBNe, Nat.reduceDiv, Nat.reduceMod, hgetA, hgetL, hgetLk, hsetA, hsetL, hsetLk, List.length_append, List.length_set, List.append_assoc, List.set_set, hd2]
            exact ⟨by rw [e], bad _ (by rw [e]; decide)⟩
          · have e : E = 0 := by rw [a2, if_neg (by simp at hs1; omega), if_neg hd]
            have hd2 : (((upF L N x.parent).length : Int) == 16) = false := by simp; omega
            simp only [go_sem, Nat.reduceAdd, Nat.reduceSub, Nat.reduceMul, Nat.reduceBEq, Nat.reduceLT, Nat.reduceLeDiff, Nat.reduceEqDiff, Int.reduceToNat, Int.reduceLE, Int.reduceLT, Int.reduceAdd, Int.reduceSub, Int.reduceNeg, Int.reduceBEq, Int.reduceBNe, Nat.reduceBNe, Nat.reduceDiv, Nat.reduceMod, hgetA, hgetL, hgetLk, hsetA, hsetL, hsetLk, List.length_append, List.length_set, List.append_assoc, List.set_set, hd2]
            refine kont_hax cx_ok hb 200 mixed [(0, true), (1, true), (2, true), (3, true), (4, true), (5, true), (6, true), (7, false)] (by kernel_rfl) (by kernel_rfl) ?_
            simp only [go_sem, Nat.reduceAdd, Nat.reduceSub, Nat.reduceMul, Nat.reduceBEq, Nat.reduceLT, Nat.reduceLeDiff, Nat.reduceEqDiff, Int.reduceToNat, Int.reduceLE, Int.reduceLT, Int.reduceAdd, Int.reduceSub, Int.reduceNeg, Int.reduceBEq, Int.reduceBNe, Nat.reduceBNe, Nat.reduceDiv, Nat.reduceMod, hgetA, hgetL, hgetLk, hsetA, hsetL, hsetLk, List.length_append, List.length_set, List.append_assoc, List.set_set, ht, hm, ht_l, hm_l]
            rw [if_pos e]
            exact ⟨by rw [e], TreeAt.upd h t m c T ht hm x _⟩
        · simp only [go_sem, Nat.reduceAdd, Nat.reduceSub, Nat.reduceMul, Nat.reduceBEq, Nat.reduceLT, Nat.reduceLeDiff, Nat.reduceEqDiff, Int.reduceToNat, Int.reduceLE, Int.reduceLT, Int.reduceAdd, Int.reduceSub, Int.reduceNeg, Int.reduceBEq, Int.reduceBNe, Nat.reduceBNe, Nat.reduceDiv, Nat.reduceMod, hgetA, hgetL, hgetLk, hsetA, hsetL, hsetLk, List.length_append, List.length_set, List.append_assoc, List.set_set, Go.undef]
          refine kont_callR0 hb fn56 rfl ?_ (hshares_ok _ t m c T (ro_app ht) (ro_app hm) x.parent) rfl fun d hR => ?_
          · simp only [go_sem, Nat.reduceAdd, Nat.reduceSub, Nat.reduceMul, Nat.reduceBEq, Nat.reduceLT, Nat.reduceLeDiff, Nat.reduceEqDiff, Int.reduceToNat, Int.reduceLE, Int.reduceLT, Int.reduceAdd, Int.reduceSub, Int.reduceNeg, Int.reduceBEq, Int.reduceBNe, Nat.reduceBNe, Nat.reduceDiv, Nat.reduceMod, hgetA, hgetL, hgetLk, hsetA, hsetL, hsetLk, List.length_append, List.length_set, List.append_assoc, List.set_set]
          subst hR
          refine kont_of_hx cx_ok hb 200 ?_
          simp only [go_sem, Nat.reduceAdd, Nat.reduceSub, Nat.reduceMul, Nat.reduceBEq, Nat.reduceLT, Nat.reduceLeDiff, Nat.reduceEqDiff, Int.reduceToNat, Int.reduceLE, Int.reduceLT, Int.reduceAdd, Int.reduceSub, Int.reduceNeg, Int.reduceBEq, Int.reduceBNe, Nat.reduceBNe, Nat.reduceDiv, Nat.reduceMod, hgetA, hgetL, hgetLk, hsetA, hsetL, hsetLk, List.length_append, List.length_set, List.append_assoc, List.set_set]
          cases hs2 : sharesC L x.parent
          · have e : E = 29 := by rw [a2, if_pos ⟨by simpa using hs1, hs2⟩]
            simp only [go_sem, Nat.reduceAdd, Nat.reduceSub, Nat.reduceMul, Nat.reduceBEq, Nat.reduceLT, Nat.reduceLeDiff, Nat.reduceEqDiff, Int.reduceToNat, Int.reduceLE, Int.reduceLT, Int.reduceAdd, Int.reduceSub, Int.reduceNeg, Int.reduceBEq, Int.reduceBNe, Nat.reduceBNe, Nat.reduceDiv, Nat.reduceMod, hgetA, hgetL, hgetLk, hsetA, hsetL, hsetLk, List.length_append, List.length_set, List.append_assoc, List.set_set, Go.undef]
            exact ⟨by rw [e], bad _ (by rw [e]; decide)⟩
          · simp only [go_sem, Nat.reduceAdd, Nat.reduceSub, Nat.reduceMul, Nat.reduceBEq, Nat.reduceLT, Nat.reduceLeDiff, Nat.reduceEqDiff, Int.reduceToNat, Int.reduceLE, Int.reduceLT, Int.reduceAdd, Int.reduceSub, Int.reduceNeg, Int.reduceBEq, Int.reduceBNe, Nat.reduceBNe, Nat.reduceDiv, Nat.reduceMod, hgetA, hgetL, hgetLk, hsetA, hsetL, hsetLk, List.length_append, List.length_set, List.append_assoc, List.set_set, Go.undef]
            refine kont_callR0 hb fn57 rfl ?_ (hdepth_ok _ t m c T (ro_app ht) (ro_app hm) x.parent N hN hE) rfl fun d hR => ?_
            · simp only [go_sem, Nat.reduceAdd, Nat.reduceSub, Nat.reduceMul, Nat.reduceBEq, Nat.reduceLT, Nat.reduceLeDiff, Nat.reduceEqDiff, Int.reduceToNat, Int.reduceLE, Int.reduceLT, Int.reduceAdd, Int.reduceSub, Int.reduceNeg, Int.reduceBEq, Int.reduceBNe, Nat.reduceBNe, Nat.reduceDiv, Nat.reduceMod, hgetA, hgetL, hgetLk, hsetA, hsetL, hsetLk, List.length_append, List.length_set, List.append_assoc, List.set_set]
            subst hR
            refine kont_of_hx cx_ok hb 200 ?_
            simp only [go_sem, Nat.reduceAdd, Nat.reduceSub, Nat.reduceMul, Nat.reduceBEq, Nat.reduceLT, Nat.reduceLeDiff, Nat.reduceEqDiff, Int.reduceToNat, Int.reduceLE, Int.reduceLT, Int.reduceAdd, Int.reduceSub, Int.reduceNeg, Int.reduceBEq, Int.reduceBNe, Nat.reduceBNe, Nat.reduceDiv, Nat.reduceMod, hgetA, hgetL, hgetLk, hsetA, hsetL, hsetLk, List.length_append, List.length_set, List.append_assoc, List.set_set]
            by_cases hd : (upF L N x.parent).length = 16
            · have e : E = 25 := by rw [a2, if_neg (by rw [hs2]; simp), if_pos hd]
              have hd2 : (((upF L N x.parent).length : Int) == 16) = true := by simp; omega
              simp only [go_sem, Nat.reduceAdd, Nat.reduceSub, Nat.reduceMul, Nat.reduceBEq, Nat.reduceLT, Nat.reduceLeDiff, Nat.reduceEqDiff, Int.reduceToNat, Int.reduceLE, Int.reduceLT, Int.reduceAdd, Int.reduceSub, Int.reduceNeg, Int.reduceBEq, Int.reduceBNe, Nat.reduceBNe, Nat.reduceDiv, Nat.reduceMod, hgetA, hgetL, hgetLk, hsetA, hsetL, hsetLk, List.length_append, List.length_set, List.append_assoc, List.set_set, hd2]
              exact ⟨by rw [e], bad _ (by rw [e]; decide)⟩
            · have e : E = 0 := by rw [a2, if_neg (by rw [hs2]; simp), if_neg hd]
              have hd2 : (((upF L N x.parent).length : Int) == 16) = false := by simp; omega
              simp only [go_sem, Nat.reduceAdd, Nat.reduceSub, Nat.reduceMul, Nat.reduceBEq, Nat.reduceLT, Nat.reduceLeDiff, Nat.reduceEqDiff, Int.reduceToNat, Int.reduceLE, Int.reduceLT, Int.reduceAdd, Int.reduceSub, Int.reduceNeg, Int.reduceBEq, Int.reduceBNe, Nat.reduceBNe, Nat.reduceDiv, Nat.reduceMod, hgetA, hgetL, hgetLk, hsetA, hsetL, hsetLk, List.length_append, List.length_set, List.append_assoc, List.set_set, hd2]
              refine kont_hax cx_ok hb 200 mixed [(0, true), (1, true), (2, true), (3, true), (4, true), (5, true), (6, true), (7, false)] (by kernel_rfl) (by kernel_rfl) ?_
              simp only [go_sem, Nat.reduceAdd, Nat.reduceSub, Nat.reduceMul, Nat.reduceBEq, Nat.reduceLT, Nat.reduceLeDiff, Nat.reduceEqDiff, Int.reduceToNat, Int.reduceLE, Int.reduceLT, Int.reduceAdd, Int.reduceSub, Int.reduceNeg, Int.reduceBEq, Int.reduceBNe, Nat.reduceBNe, Nat.reduceDiv, Nat.reduceMod, hgetA, hgetL, hgetLk, hsetA, hsetL, hsetLk, List.length_append, List.length_set, List.append_assoc, List.set_set, ht, hm, ht_l, hm_l]
              rw [if_pos e]
              exact ⟨by rw [e], TreeAt.upd h t m c T ht hm x _⟩
      · have e : E = 23 := by rw [a1, if_pos (.inl ⟨hp0, by simp [hf2]⟩)]
        refine kont_hax cx_ok hb 200 mixed [(0, true), (1, true), (2, true), (3, true), (4, true), (5, true), (6, true), (7, true), (8, true), (9, true), (10, false), (11, false), (12, true)] (by kernel_rfl) (by kernel_rfl) ?_
        simp only [go_sem, Nat.reduceAdd, Nat.reduceSub, Nat.reduceMul, Nat.reduceBEq, Nat.reduceLT, Nat.reduceLeDiff, Nat.reduceEqDiff, Int.reduceToNat, Int.reduceLE, Int.reduceLT, Int.reduceAdd, Int.reduceSub, Int.reduceNeg, Int.reduceBEq, Int.reduceBNe, Nat.reduceBNe, Nat.reduceDiv, Nat.reduceMod, hgetA, hgetL, hgetLk, hsetA, hsetL, hsetLk, List.length_append, List.length_set, List.append_assoc, List.set_set, ht, hm, ht_l, hm_l, hk2, e64, beqF hp0, bne]
        exact ⟨by rw [e], bad _ (by rw [e]; decide)⟩
    | some z =>
      rw [hf2, Option.map_some] at hk2
      cases hz : z.leaf with
      | true =>
        have e : E = 23 := by rw [a1, if_pos (.inr (by simp [hf2, hz]))]
        by_cases hp0 : x.parent = 0
        · refine kont_hax cx_ok hb 200 mixed [(0, true), (1, true), (2, true), (3, true), (4, true), (5, true), (6, true), (7, true), (8, true), (9, true), (10, false), (11, false), (12, true)] (by kernel_rfl) (by kernel_rfl) ?_
          simp only [go_sem, Nat.reduceAdd, Nat.reduceSub, Nat.reduceMul, Nat.reduceBEq, Nat.reduceLT, Nat.reduceLeDiff, Nat.reduceEqDiff, Int.reduceToNat, Int.reduceLE, Int.reduceLT, Int.reduceAdd, Int.reduceSub, Int.reduceNeg, Int.reduceBEq, Int.reduceBNe, Nat.reduceBNe, Nat.reduceDiv, Nat.reduceMod, hgetA, hgetL, hgetLk, hsetA, hsetL, hsetLk, List.length_append, List.length_set, List.append_assoc, List.set_set, ht, hm, ht_l, hm_l, hk2, e64, beqT hp0, bne, hz]
          exact ⟨by rw [e], bad _ (by rw [e]; decide)⟩
        · refine kont_hax cx_ok hb 200 mixed [(0, true), (1, true), (2, true), (3, true), (4, true), (5, true), (6, true), (7, true), (8, true), (9, true), (10, false), (11, false), (12, true)] (by kernel_rfl) (by kernel_rfl) ?_
          simp only [go_sem, Nat.reduceAdd, Nat.reduceSub, Nat.reduceMul, Nat.reduceBEq, Nat.reduceLT, Nat.reduceLeDiff, Nat.reduceEqDiff, Int.reduceToNat, Int.reduceLE, Int.reduceLT, Int.reduceAdd, Int.reduceSub, Int.reduceNeg, Int.reduceBEq, Int.reduceBNe, Nat.reduceBNe, Nat.reduceDiv, Nat.reduceMod, hgetA, hgetL, hgetLk, hsetA, hsetL, hsetLk, List.length_append, List.length_set, List.append_assoc, List.set_set, ht, hm, ht_l, hm_l, hk2, e64, beqF hp0, bne, hz]
          exact ⟨by rw [e], bad _ (by rw [e]; decide)⟩
      | false =>
        by_cases hp0 : x.parent = 0
        · refine kont_hax cx_ok hb 200 mixed [(0, true), (1, true), (2, true), (3, true), (4, true), (5, true), (6, true), (7, true), (8, true), (9, true), (10, false), (11, false), (12, true)] (by kernel_rfl) (by kernel_rfl) ?_
          simp only [go_sem, Nat.reduceAdd, Nat.reduceSub, Nat.reduceMul, Nat.reduceBEq, Nat.reduceLT, Nat.reduceLeDiff, Nat.reduceEqDiff, Int.reduceToNat, Int.reduceLE, Int.reduceLT, Int.reduceAdd, Int.reduceSub, Int.reduceNeg, Int.reduceBEq, Int.reduceBNe, Nat.reduceBNe, Nat.reduceDiv, Nat.reduceMod, hgetA, hgetL, hgetLk, hsetA, hsetL, hsetLk, List.length_append, List.length_set, List.append_assoc, List.set_set, ht, hm, ht_l, hm_l, hk2, e64, beqT hp0, bne, hz]
          have a2 : E = (if 1 < ofI x.ls ∧ sharesC L x.parent = false then 29 else if (upF L N x.parent).length = 16 then 25 else 0) := by rw [a1, if_neg (by rw [hf2]; rintro (⟨h1, _⟩ | h1); exact h1 hp0; exact absurd h1 (by simp [hz]))]
          refine kont_call hb fn55 rfl ?_ (sshares_ok x) (Ret.flat rfl) rfl fun d h hR => ?_
          · simp only [go_sem, Nat.reduceAdd, Nat.reduceSub, Nat.reduceMul, Nat.reduceBEq, Nat.reduceLT, Nat.reduceLeDiff, Nat.reduceEqDiff, Int.reduceToNat, Int.reduceLE, Int.reduceLT, Int.reduceAdd, Int.reduceSub, Int.reduceNeg, Int.reduceBEq, Int.reduceBNe, Nat.reduceBNe, Nat.reduceDiv, Nat.reduceMod, hgetA, hgetL, hgetLk, hsetA, hsetL, hsetLk, List.length_append, List.length_set, List.append_assoc, List.set_set]
          obtain ⟨rfl, rfl⟩ := hR
          refine kont_of_hx cx_ok hb 200 ?_
          simp only [go_sem, Nat.reduceAdd, Nat.reduceSub, Nat.reduceMul, Nat.reduceBEq, Nat.reduceLT, Nat.reduceLeDiff, Nat.reduceEqDiff, Int.reduceToNat, Int.reduceLE, Int.reduceLT, Int.reduceAdd, Int.reduceSub, Int.reduceNeg, Int.reduceBEq, Int.reduceBNe, Nat.reduceBNe, Nat.reduceDiv, Nat.reduceMod, hgetA, hgetL, hgetLk, hsetA, hsetL, hsetLk, List.length_append, List.length_set, List.append_assoc, List.set_set]
          cases hs1 : decide (1 < ofI x.ls)
          · simp only [go_sem, Nat.reduceAdd, Nat.reduceSub, Nat.reduceMul, Nat.reduceBEq, Nat.reduceLT, Nat.reduceLeDiff, Nat.reduceEqDiff, Int.reduceToNat, Int.reduceLE, Int.reduceLT, Int.reduceAdd, Int.reduceSub, Int.reduceNeg, Int.reduceBEq, Int.reduceBNe, Nat.reduceBNe, Nat.reduceDiv, Nat.reduceMod, hgetA, hgetL, hgetLk, hsetA, hsetL, hsetLk, List.length_append, List.length_set, List.append_assoc, List.set_set, Go.undef]
            refine kont_callR0 hb fn57 rfl ?_ (hdepth_ok _ t m c T (ro_app ht) (ro_app hm) x.parent N hN hE) rfl fun d hR => ?_
            · simp only [go_sem, Nat.reduceAdd, Nat.reduceSub, Nat.reduceMul, Nat.reduceBEq, Nat.reduceLT, Nat.reduceLeDiff, Nat.reduceEqDiff, Int.reduceToNat, Int.reduceLE, Int.reduceLT, Int.reduceAdd, Int.reduceSub, Int.reduceNeg, Int.reduceBEq, Int.reduceBNe, Nat.reduceBNe, Nat.reduceDiv, Nat.reduceMod, hgetA, hgetL, hgetLk, hsetA, hsetL, hsetLk, List.length_append, List.length_set, List.append_assoc, List.set_set]
            subst hR
            refine kont_of_hx cx_ok hb 200 ?_
            simp only [go_sem, Nat.reduceAdd, Nat.reduceSub, Nat.reduceMul, Nat.reduceBEq, Nat.reduceLT, Nat.reduceLeDiff, Nat.reduceEqDiff, Int.reduceToNat, Int.reduceLE, Int.reduceLT, Int.reduceAdd, Int.reduceSub, Int.reduceNeg, Int.reduceBEq, Int.reduceBNe, Nat.reduceBNe, Nat.reduceDiv, Nat.reduceMod, hgetA, hgetL, hgetLk, hsetA, hsetL, hsetLk, List.length_append, List.length_set, List.append_assoc, List.set_set]
            by_cases hd : (upF L N x.parent).length = 16
            · have e : E = 25 := by rw [a2, if_neg (by simp at hs1; omega), if_pos hd]
              have hd2 : (((upF L N x.parent).length : Int) == 16) = true := by simp; omega
              simp only [go_sem, Nat.reduceAdd, Nat.reduceSub, Nat.reduceMul, Nat.reduceBEq, Nat.reduceLT, Nat.reduceLeDiff, Nat.reduceEqDiff, Int.reduceToNat, Int.reduceLE, Int.reduceLT, Int.reduceAdd, Int.reduceSub, Int.reduceNeg, Int.reduceBEq, Int.reduceBNe, Nat.reduceBNe, Nat.reduceDiv, Nat.reduceMod, hgetA, hgetL, hgetLk, hsetA, hsetL, hsetLk, List.length_append, List.length_set, List.append_assoc, List.set_set, hd2]
              exact ⟨by rw [e], bad _ (by rw [e]; decide)⟩
            · have e : E = 0 := by rw [a2, if_neg (by simp at hs1; omega), if_neg hd]
              have hd2 : (((upF L N x.parent).length : Int) == 16) = false := by simp; omega
              simp only [go_sem, Nat.reduceAdd, Nat.reduceSub, Nat.reduceMul, Nat.reduceBEq, Nat.reduceLT, Nat.reduceLeDiff, Nat.reduceEqDiff, Int.reduceToNat, Int.reduceLE, Int.reduceLT, Int.reduceAdd, Int.reduceSub, Int.reduceNeg, Int.reduceBEq, Int.reduceBNe, Nat.reduceBNe, Nat.reduceDiv, Nat.reduceMod, hgetA, hgetL, hgetLk, hsetA, hsetL, hsetLk, List.length_append, List.length_set, List.append_assoc, List.set_set, hd2]
              refine kont_hax cx_ok hb 200 mixed [(0, true), (1, true), (2, true), (3, true), (4, true), (5, true), (6, true), (7, false)] (by kernel_rfl) (by kernel_rfl) ?_
              simp only [go_sem, Nat.reduceAdd, Nat.reduceSub, Nat.reduceMul, Nat.reduceBEq, Nat.reduceLT, Nat.reduceLeDiff, Nat.reduceEqDiff, Int.reduceToNat, Int.reduceLE, Int.reduceLT, Int.reduceAdd, Int.reduceSub, Int.reduceNeg, Int.reduceBEq, Int.reduceBNe, Nat.reduceBNe, Nat.reduceDiv, Nat.reduceMod, hgetA, hgetL, hgetLk, hsetA, hsetL, hsetLk, List.length_append, List.length_set, List.append_assoc, List.set_set, ht, hm, ht_l, hm_l]
              rw [if_pos e]
              exact ⟨by rw [e], TreeAt.upd h t m c T ht hm x _⟩
          · simp only [go_sem, Nat.reduceAdd, Nat.reduceSub, Nat.reduceMul, Nat.reduceBEq, Nat.reduceLT, Nat.reduceLeDiff, Nat.reduceEqDiff, Int.reduceToNat, Int.reduceLE, Int.reduceLT, Int.reduceAdd, Int.reduceSub, Int.reduceNeg, Int.reduceBEq, Int.reduceBNe, Nat.reduceBNe, Nat.reduceDiv, Nat.reduceMod, hgetA, hgetL, hgetLk, hsetA, hsetL, hsetLk, List.length_append, List.length_set, List.append_assoc, List.set_set, Go.undef]
            refine kont_callR0 hb fn56 rfl ?_ (hshares_ok _ t m c T (ro_app ht) (ro_app hm) x.parent) rfl fun d hR => ?_
            · simp only [go_sem, Nat.reduceAdd, Nat.reduceSub, Nat.reduceMul, Nat.reduceBEq, Nat.reduceLT, Nat.reduceLeDiff, Nat.reduceEqDiff, Int.reduceToNat, Int.reduceLE, Int.reduceLT, Int.reduceAdd, Int.reduceSub, Int.reduceNeg, Int.reduceBEq, Int.reduceBNe, Nat.reduceBNe, Nat.reduceDiv, Nat.reduceMod, hgetA, hgetL, hgetLk, hsetA, hsetL, hsetLk, List.length_append, List.length_set, List.append_assoc, List.set_set]
            subst hR
            refine kont_of_hx cx_ok hb 200 ?_
            simp only [go_sem, Nat.reduceAdd, Nat.reduceSub, Nat.reduceMul, Nat.reduceBEq, Nat.reduceLT, Nat.reduceLeDiff, Nat.reduceEqDiff, Int.reduceToNat, Int.reduceLE, Int.reduceLT, Int.reduceAdd, Int.reduceSub, Int.reduceNeg, Int.reduceBEq, Int.reduceBNe, Nat.reduceBNe, Nat.reduceDiv, Nat.reduceMod, hgetA, hgetL, hgetLk, hsetA, hsetL, hsetLk, List.length_append, List.length_set, List.append_assoc, List.set_set]
            cases hs2 : sharesC L x.parent
            · have e : E = 29 := by rw [a2, if_pos ⟨by simpa using hs1, hs2⟩]
              simp only [go_sem, Nat.reduceAdd, Nat.reduceSub, Nat.reduceMul, Nat.reduceBEq, Nat.reduceLT, Nat.reduceLeDiff, Nat.reduceEqDiff, Int.reduceToNat, Int.reduceLE, Int.reduceLT, Int.reduceAdd, Int.reduceSub, Int.reduceNeg, Int.reduceBEq, Int.reduceBNe, Nat.reduceBNe, Nat.reduceDiv, Nat.reduceMod, hgetA, hgetL, hgetLk, hsetA, hsetL, hsetLk, List.length_append, List.length_set, List.append_assoc, List.set_set, Go.undef]
              exact ⟨by rw [e], bad _ (by rw [e]; decide)⟩
            · simp only [go_sem, Nat.reduceAdd, Nat.reduceSub, Nat.reduceMul, Nat.reduceBEq, Nat.reduceLT, Nat.reduceLeDiff, Nat.reduceEqDiff, Int.reduceToNat, Int.reduceLE, Int.reduceLT, Int.reduceAdd, Int.reduceSub, Int.reduceNeg, Int.reduceBEq, Int.reduceBNe, Nat.reduceBNe, Nat.reduceDiv, Nat.reduceMod, hgetA, hgetL, hgetLk, hsetA, hsetL, hsetLk, List.length_append, List.length_set, List.append_assoc, List.set_set, Go.undef]
              refine kont_callR0 hb fn57 rfl ?_ (hdepth_ok _ t m c T (ro_app ht) (ro_app hm) x.parent N hN hE) rfl fun d hR => ?_
              · simp only [go_sem, Nat.reduceAdd, Nat.reduceSub, Nat.reduceMul, Nat.reduceBEq, Nat.reduceLT, Nat.reduceLeDiff, Nat.reduceEqDiff, Int.reduceToNat, Int.reduceLE, Int.reduceLT, Int.reduceAdd, Int.reduceSub, Int.reduceNeg, Int.reduceBEq, Int.reduceBNe, Nat.reduceBNe, Nat.reduceDiv, Nat.reduceMod, hgetA, hgetL, hgetLk, hsetA, hsetL, hsetLk, List.length_append, List.length_set, List.append_assoc, List.set_set]
              subst hR
              refine kont_of_hx cx_ok hb 200 ?_
              simp only [go_sem, Nat.reduceAdd, Nat.reduceSub, Nat.reduceMul, Nat.reduceBEq, Nat.reduceLT, Nat.reduceLeDiff, Nat.reduceEqDiff, Int.reduceToNat, Int.reduceLE, Int.reduceLT, Int.reduceAdd, Int.reduceSub, Int.reduceNeg, Int.reduceBEq, Int.reduceBNe, Nat.reduceBNe, Nat.reduceDiv, Nat.reduceMod, hgetA, hgetL, hgetLk, hsetA, hsetL, hsetLk, List.length_append, List.length_set, List.append_assoc, List.set_set]
              by_cases hd : (upF L N x.parent).length = 16
              · have e : E = 25 := by rw [a2, if_neg (by rw [hs2]; simp), if_pos hd]
                have hd2 : (((upF L N x.parent).length : Int) == 16) = true := by simp; omega
                simp only [go_sem, Nat.reduceAdd, Nat.reduceSub, Nat.reduceMul, Nat.reduceBEq, Nat.reduceLT, Nat.reduceLeDiff, Nat.reduceEqDiff, Int.reduceToNat, Int.reduceLE, Int.reduceLT, Int.reduceAdd, Int.reduceSub, Int.reduceNeg, Int.reduceBEq, Int.reduceBNe, Nat.reduceBNe, Nat.reduceDiv, Nat.reduceMod, hgetA, hgetL, hgetLk, hsetA, hsetL, hsetLk, List.length_append, List.length_set, List.append_assoc, List.set_set, hd2]
                exact ⟨by rw [e], bad _ (by rw [e]; decide)⟩
              · have e : E = 0 := by rw [a2, if_neg (by rw [hs2]; simp), if_neg hd]
                have hd2 : (((upF L N x.parent).length : Int) == 16) = false := by simp; omega
                simp only [go_sem, Nat.reduceAdd, Nat.reduceSub, Nat.reduceMul, Nat.reduceBEq, Nat.reduceLT, Nat.reduceLeDiff, Nat.reduceEqDiff, Int.reduceToNat, Int.reduceLE, Int.reduceLT, Int.reduceAdd, Int.reduceSub, Int.reduceNeg, Int.reduceBEq, Int.reduceBNe, Nat.reduceBNe, Nat.reduceDiv, Nat.reduceMod, hgetA, hgetL, hgetLk, hsetA, hsetL, hsetLk, List.length_append, List.length_set, List.append_assoc, List.set_set, hd2]
                refine kont_hax cx_ok hb 200 mixed [(0, true), (1, true), (2, true), (3, true), (4, true), (5, true), (6, true), (7, false)] (by kernel_rfl) (by kernel_rfl) ?_
                simp only [go_sem, Nat.reduceAdd, Nat.reduceSub, Nat.reduceMul, Nat.reduceBEq, Nat.reduceLT, Nat.reduceLeDiff, Nat.reduceEqDiff, Int.reduceToNat, Int.reduceLE, Int.reduceLT, Int.reduceAdd, Int.reduceSub, Int.reduceNeg, Int.reduceBEq, Int.reduceBNe, Nat.reduceBNe, Nat.reduceDiv, Nat.reduceMod, hgetA, hgetL, hgetLk, hsetA, hsetL, hsetLk, List.length_append, List.length_set, List.append_assoc, List.set_set, ht, hm, ht_l, hm_l]
                rw [if_pos e]
                exact ⟨by rw [e], TreeAt.upd h t m c T ht hm x _⟩
        · refine kont_hax cx_ok hb 200 mixed [(0, true), (1, true), (2, true), (3, true), (4, true), (5, true), (6, true), (7, true), (8, true), (9, true), (10, false), (11, false), (12, true)] (by kernel_rfl) (by kernel_rfl) ?_
          simp only [go_sem, Nat.reduceAdd, Nat.reduceSub, Nat.reduceMul, Nat.reduceBEq, Nat.reduceLT, Nat.reduceLeDiff, Nat.reduceEqDiff, Int.reduceToNat, Int.reduceLE, Int.reduceLT, Int.reduceAdd, Int.reduceSub, Int.reduceNeg, Int.reduceBEq, Int.reduceBNe, Nat.reduceBNe, Nat.reduceDiv, Nat.reduceMod, hgetA, hgetL, hgetLk, hsetA, hsetL, hsetLk, List.length_append, List.length_set, List.append_assoc, List.set_set, ht, hm, ht_l, hm_l, hk2, e64, beqF hp0, bne, hz]
          have a2 : E = (if 1 < ofI x.ls ∧ sharesC L x.parent = false then 29 else if (upF L N x.parent).length = 16 then 25 else 0) := by rw [a1, if_neg (by simp [hf2, hz])]
          refine kont_call hb fn55 rfl ?_ (sshares_ok x) (Ret.flat rfl) rfl fun d h hR => ?_
          · simp only [go_sem, Nat.reduceAdd, Nat.reduceSub, Nat.reduceMul, Nat.reduceBEq, Nat.reduceLT, Nat.reduceLeDiff, Nat.reduceEqDiff, Int.reduceToNat, Int.reduceLE, Int.reduceLT, Int.reduceAdd, Int.reduceSub, Int.reduceNeg, Int.reduceBEq, Int.reduceBNe, Nat.reduceBNe, Nat.reduceDiv, Nat.reduceMod, hgetA, hgetL, hgetLk, hsetA, hsetL, hsetLk, List.length_append, List.length_set, List.append_assoc, List.set_set]
          obtain ⟨rfl, rfl⟩ := hR
          refine kont_of_hx cx_ok hb 200 ?_
          simp only [go_sem, Nat.reduceAdd, Nat.reduceSub, Nat.reduceMul, Nat.reduceBEq, Nat.reduceLT, Nat.reduceLeDiff, Nat.reduceEqDiff, Int.reduceToNat, Int.reduceLE, Int.reduceLT, Int.reduceAdd, Int.reduceSub, Int.reduceNeg, Int.reduceBEq, Int.reduceBNe, Nat.reduceBNe, Nat.reduceDiv, Nat.reduceMod, hgetA, hgetL, hgetLk, hsetA, hsetL, hsetLk, List.length_append, List.length_set, List.append_assoc, List.set_set]
          cases hs1 : decide (1 < ofI x.ls)
          · simp only [go_sem, Nat.reduceAdd, Nat.reduceSub, Nat.reduceMul, Nat.reduceBEq, Nat.reduceLT, Nat.reduceLeDiff, Nat.reduceEqDiff, Int.reduceToNat, Int.reduceLE, Int.reduceLT, Int.reduceAdd, Int.reduceSub, Int.reduceNeg, Int.reduceBEq, Int.reduceBNe, Nat.reduceBNe, Nat.reduceDiv, Nat.reduceMod, hgetA, hgetL, hgetLk, hsetA, hsetL, hsetLk, List.length_append, List.length_set, List.append_assoc, List.set_set, Go.undef]
            refine kont_callR0 hb fn57 rfl ?_ (hdepth_ok _ t m c T (ro_app ht) (ro_app hm) x.parent N hN hE) rfl fun d hR => ?_
            · simp only [go_sem, Nat.reduceAdd, Nat.reduceSub, Nat.reduceMul, Nat.reduceBEq, Nat.reduceLT, Nat.reduceLeDiff, Nat.reduceEqDiff, Int.reduceToNat, Int.reduceLE, Int.reduceLT, Int.reduceAdd, Int.reduceSub, Int.reduceNeg, Int.reduceBEq, Int.reduceBNe, Nat.reduceBNe, Nat.reduceDiv, Nat.reduceMod, hgetA, hgetL, hgetLk, hsetA, hsetL, hsetLk, List.length_append, List.length_set, List.append_assoc, List.set_set]
            subst hR
            refine kont_of_hx cx_ok hb 200 ?_
            simp only [go_sem, Nat.reduceAdd, Nat.reduceSub, Nat.reduceMul, Nat.reduceBEq, Nat.reduceLT, Nat.reduceLeDiff, Nat.reduceEqDiff, Int.reduceToNat, Int.reduceLE, Int.reduceLT, Int.reduceAdd, Int.reduceSub, Int.reduceNeg, Int.reduceBEq, Int.reduceBNe, Nat.reduceBNe, Nat.reduceDiv, Nat.reduceMod, hgetA, hgetL, hgetLk, hsetA, hsetL, hsetLk, List.length_append, List.length_set, List.append_assoc, List.set_set]
            by_cases hd : (upF L N x.parent).length = 16
            · have e : E = 25 := by rw [a2, if_neg (by simp at hs1; omega), if_pos hd]
              have hd2 : (((upF L N x.parent).length : Int) == 16) = true := by simp; omega
              simp only [go_sem, Nat.reduceAdd, Nat.reduceSub, Nat.reduceMul, Nat.reduceBEq, Nat.reduceLT, Nat.reduceLeDiff, Nat.reduceEqDiff, Int.reduceToNat, Int.reduceLE, Int.reduceLT, Int.reduceAdd, Int.reduceSub, Int.reduceNeg, Int.reduceBEq, Int.reduceBNe, Nat.reduceBNe, Nat.reduceDiv, Nat.reduceMod, hgetA, hgetL, hgetLk, hsetA, hsetL, hsetLk, List.length_append, List.length_set, List.append_assoc, List.set_set, hd2]
              exact ⟨by rw [e], bad _ (by rw [e]; decide)⟩
            · have e : E = 0 := by rw [a2, if_neg (by simp at hs1; omega), if_neg hd]
              have hd2 : (((upF L N x.parent).length : Int) == 16) = false := by simp; omega
              simp only [go_sem, Nat.reduceAdd, Nat.reduceSub, Nat.reduceMul, Nat.reduceBEq, Nat.reduceLT, Nat.reduceLeDiff, Nat.reduceEqDiff, Int.reduceToNat, Int.reduceLE, Int.reduceLT, Int.reduceAdd, Int.reduceSub, Int.reduceNeg, Int.reduceBEq, Int.reduceBNe, Nat.reduceBNe, Nat.reduceDiv, Nat.reduceMod, hgetA, hgetL, hgetLk, hsetA, hsetL, hsetLk, List.length_append, List.length_set, List.append_assoc, List.set_set, hd2]
              refine kont_hax cx_ok hb 200 mixed [(0, true), (1, true), (2, true), (3, true), (4, true), (5, true), (6, true), (7, false)] (by kernel_rfl) (by kernel_rfl) ?_
              simp only [go_sem, Nat.reduceAdd, Nat.reduceSub, Nat.reduceMul, Nat.reduceBEq, Nat.reduceLT, Nat.reduceLeDiff, Nat.reduceEqDiff, Int.reduceToNat, Int.reduceLE, Int.reduceLT, Int.reduceAdd, Int.reduceSub, Int.reduceNeg, Int.reduceBEq, Int.reduceBNe, Nat.reduceBNe, Nat.reduceDiv, Nat.reduceMod, hgetA, hgetL, hgetLk, hsetA, hsetL, hsetLk, List.length_append, List.length_set, List.append_assoc, List.set_set, ht, hm, ht_l, hm_l]
              rw [if_pos e]
              exact ⟨by rw [e], TreeAt.upd h t m c T ht hm x _⟩
          · simp only [go_sem, Nat.reduceAdd, Nat.reduceSub, Nat.reduceMul, Nat.reduceBEq, Nat.reduceLT, Nat.reduceLeDiff, Nat.reduceEqDiff, Int.reduceToNat, Int.reduceLE, Int.reduceLT, Int.reduceAdd, Int.reduceSub, Int.reduceNeg, Int.reduceBEq, Int.reduceBNe, Nat.reduceBNe, Nat.reduceDiv, Nat.reduceMod, hgetA, hgetL, hgetLk, hsetA, hsetL, hsetLk, List.length_append, List.length_set, List.append_assoc, List.set_set, Go.undef]
            refine kont_callR0 hb fn56 rfl ?_ (hshares_ok _ t m c T (ro_app ht) (ro_app hm) x.parent) rfl fun d hR => ?_
            · simp only [go_sem, Nat.reduceAdd, Nat.reduceSub, Nat.reduceMul, Nat.reduceBEq, Nat.reduceLT, Nat.reduceLeDiff, Nat.reduceEqDiff, Int.reduceToNat, Int.reduceLE, Int.reduceLT, Int.reduceAdd, Int.reduceSub, Int.reduceNeg, Int.reduceBEq, Int.reduceBNe, Nat.reduceBNe, Nat.reduceDiv, Nat.reduceMod, hgetA, hgetL, hgetLk, hsetA, hsetL, hsetLk, List.length_append, List.length_set, List.append_assoc, List.set_set]
            subst hR
            refine kont_of_hx cx_ok hb 200 ?_
            simp only [go_sem, Nat.reduceAdd, Nat.reduceSub, Nat.reduceMul, Nat.reduceBEq, Nat.reduceLT, Nat.reduceLeDiff, Nat.reduceEqDiff, Int.reduceToNat, Int.reduceLE, Int.reduceLT, Int.reduceAdd, Int.reduceSub, Int.reduceNeg, Int.reduceBEq, Int.reduceBNe, Nat.reduceBNe, Nat.reduceDiv, Nat.reduceMod, hgetA, hgetL, hgetLk, hsetA, hsetL, hsetLk, List.length_append, List.length_set, List.append_assoc, List.set_set]
            cases hs2 : sharesC L x.parent
            · have e : E = 29 := by rw [a2, if_pos ⟨by simpa using hs1, hs2⟩]
              simp only [go_sem, Nat.reduceAdd, Nat.reduceSub, Nat.reduceMul, Nat.reduceBEq, Nat.reduceLT, Nat.reduceLeDiff, Nat.reduceEqDiff, Int.reduceToNat, Int.reduceLE, Int.reduceLT, Int.reduceAdd, Int.reduceSub, Int.reduceNeg, Int.reduceBEq, Int.reduceBNe, Nat.reduceBNe, Nat.reduceDiv, Nat.reduceMod, hgetA, hgetL, hgetLk, hsetA, hsetL, hsetLk, List.length_append, List.length_set, List.append_assoc, List.set_set, Go.undef]
              exact ⟨by rw [e], bad _ (by rw [e]; decide)⟩
            · simp only [go_sem, Nat.reduceAdd, Nat.reduceSub, Nat.reduceMul, Nat.reduceBEq, Nat.reduceLT, Nat.reduceLeDiff, Nat.reduceEqDiff, Int.reduceToNat, Int.reduceLE, Int.reduceLT, Int.reduceAdd, Int.reduceSub, Int.reduceNeg, Int.reduceBEq, Int.reduceBNe, Nat.reduceBNe, Nat.reduceDiv, Nat.reduceMod, hgetA, hgetL, hgetLk, hsetA, hsetL, hsetLk, List.length_append, List.length_set, List.append_assoc, List.set_set, Go.undef]
              refine kont_callR0 hb fn57 rfl ?_ (hdepth_ok _ t m c T (ro_app ht) (ro_app hm) x.parent N hN hE) rfl fun d hR => ?_
              · simp only [go_sem, Nat.reduceAdd, Nat.reduceSub, Nat.reduceMul, Nat.reduceBEq, Nat.reduceLT, Nat.reduceLeDiff, Nat.reduceEqDiff, Int.reduceToNat, Int.reduceLE, Int.reduceLT, Int.reduceAdd, Int.reduceSub, Int.reduceNeg, Int.reduceBEq, Int.reduceBNe, Nat.reduceBNe, Nat.reduceDiv, Nat.reduceMod, hgetA, hgetL, hgetLk, hsetA, hsetL, hsetLk, List.length_append, List.length_set, List.append_assoc, List.set_set]
              subst hR
              refine kont_of_hx cx_ok hb 200 ?_
              simp only [go_sem, Nat.reduceAdd, Nat.reduceSub, Nat.reduceMul, Nat.reduceBEq, Nat.reduceLT, Nat.reduceLeDiff, Nat.reduceEqDiff, Int.reduceToNat, Int.reduceLE, Int.reduceLT, Int.reduceAdd, Int.reduceSub, Int.reduceNeg, Int.reduceBEq, Int.reduceBNe, Nat.reduceBNe, Nat.reduceDiv, Nat.reduceMod, hgetA, hgetL, hgetLk, hsetA, hsetL, hsetLk, List.length_append, List.length_set, List.append_assoc, List.set_set]
              by_cases hd : (upF L N x.parent).length = 16
              · have e : E = 25 := by rw [a2, if_neg (by rw [hs2]; simp), if_pos hd]
                have hd2 : (((upF L N x.parent).length : Int) == 16) = true := by simp; omega
                simp only [go_sem, Nat.reduceAdd, Nat.reduceSub, Nat.reduceMul, Nat.reduceBEq, Nat.reduceLT, Nat.reduceLeDiff, Nat.reduceEqDiff, Int.reduceToNat, Int.reduceLE, Int.reduceLT, Int.reduceAdd, Int.reduceSub, Int.reduceNeg, Int.reduceBEq, Int.reduceBNe, Nat.reduceBNe, Nat.reduceDiv, Nat.reduceMod, hgetA, hgetL, hgetLk, hsetA, hsetL, hsetLk, List.length_append, List.length_set, List.append_assoc, List.set_set, hd2]
                exact ⟨by rw [e], bad _ (by rw [e]; decide)⟩
              · have e : E = 0 := by rw [a2, if_neg (by rw [hs2]; simp), if_neg hd]
                have hd2 : (((upF L N x.parent).length : Int) == 16) = false := by simp; omega
                simp only [go_sem, Nat.reduceAdd, Nat.reduceSub, Nat.reduceMul, Nat.reduceBEq, Nat.reduceLT, Nat.reduceLeDiff, Nat.reduceEqDiff, Int.reduceToNat, Int.reduceLE, Int.reduceLT, Int.reduceAdd, Int.reduceSub, Int.reduceNeg, Int.reduceBEq, Int.reduceBNe, Nat.reduceBNe, Nat.reduceDiv, Nat.reduceMod, hgetA, hgetL, hgetLk, hsetA, hsetL, hsetLk, List.length_append, List.length_set, List.append_assoc, List.set_set, hd2]
                refine kont_hax cx_ok hb 200 mixed [(0, true), (1, true), (2, true), (3, true), (4, true), (5, true), (6, true), (7, false)] (by kernel_rfl) (by kernel_rfl) ?_
                simp only [go_sem, Nat.reduceAdd, Nat.reduceSub, Nat.reduceMul, Nat.reduceBEq, Nat.reduceLT, Nat.reduceLeDiff, Nat.reduceEqDiff, Int.reduceToNat, Int.reduceLE, Int.reduceLT, Int.reduceAdd, Int.reduceSub, Int.reduceNeg, Int.reduceBEq, Int.reduceBNe, Nat.reduceBNe, Nat.reduceDiv, Nat.reduceMod, hgetA, hgetL, hgetLk, hsetA, hsetL, hsetLk, List.length_append, List.length_set, List.append_assoc, List.set_set, ht, hm, ht_l, hm_l]
                rw [if_pos e]
                exact ⟨by rw [e], TreeAt.upd h t m c T ht hm x _⟩
end
end Go.Fg.X
