/- Walks of the functions that the statement reaches. No conditions: contracts and laws. -/
import Derived.Test.YtbijdpnacnnaoaaGreatFgHeap
import Derived.Shelf.Sort.Plain
import Derived.Shelf.Slices.In.SortNone
import Derived.Lib.SortBridge
import Derived.Test.YtbijdpnacnnaoaaGreatYH3
import Derived.Test.YtbijdpnacnnaoaaGreatSU3
namespace Go.Fg
set_option linter.unusedSimpArgs false
set_option linter.unusedVariables false
open Go.RowKit (Below)
open Go.Proofs Go.Shelf Go.Sort
def sorted (zs : List Int) : List Int := zs.mergeSort fun x y => decide (x ≤ y)
theorem sorted_len (zs : List Int) : (sorted zs).length = zs.length := by simp [sorted]
def sortRow (off : Nat) (row : Nat → List D) (ts : List Int) : Nat → List D := fun i => if off ≤ i ∧ i < off + ts.length then [.raw (.int .i64 (ts.getD (i - off) 0))] else row i
variable {P : Program} {ρ : Ren}
theorem heap_sortedAt {w : World} {b n o : Nat} {os : Array Obj} {cur : Array Value} {e : TypeId} {fr : Nat × Nat} (d : Array Int) (hb : w.heap[b]? = some (.cells cur e fr)) :
    (grow (putRow (Value.int .i64) (Sort.ahead w n) b o d) os).heap[b]? = some (.cells (putCells (Value.int .i64) o d cur) e fr) := by
  have hg : b < w.heap.size := (Array.getElem?_eq_some_iff.1 hb).1
  rw [heap_grow_old _ _ (by simpa using hg)]
  simp [putRow, mapBlock, Sort.ahead, Array.getElem?_modify, hb, onCells]
theorem grownBy_sortedAt {w : World} {b n o : Nat} {os : Array Obj} (d : Array Int) : w.grownBy (grow (putRow (Value.int .i64) (Sort.ahead w n) b o d) os) (some b) := by
  refine ⟨rfl, rfl, rfl, by simp, fun k hk hne => ?_⟩
  rw [heap_grow_old _ _ (by simpa using hk)]
  have : b ≠ k := fun e => hne (by rw [e])
  simp [putRow, mapBlock, Sort.ahead, Array.getElem?_modify, this]
theorem sort_ok (Ly : Lays.n189 P ρ) {h : List Ob} {l g off N : Nat} {row : Nat → List D} {zs : List Int} (ho : h[l]? = some ⟨.arr, g, 1, N, row⟩) (hn : off + zs.length ≤ N) (hr : ∀ i, i < zs.length → row (off + i) = [.raw (.int .i64 (zs.getD i 0))]) (hlen : zs.length < 4611686018427387904) :
    MFn P (ρ.f 189) h [.ref l g off zs.length] (fun d h' => d = .tup [] ∧ h' = h.set l ⟨.arr, g, 1, N, sortRow off row (sorted zs)⟩) := by
  intro Z base w pl vs hbase hZ R hvl hv
  match vs, hvl with
  | [v], _ =>
  have r0 := hv 0 (by simp)
  obtain ⟨o, p, a, cap, e1, h1, h2, h3, h4, h5⟩ := inv_ref r0
  rw [ho] at h1; cases h1
  have e1 : v = .slice a zs.length cap := e1
  have hsl := h5 rfl
  subst e1
  have hlt : l < h.length := lt_of_some ho
  by_cases h0 : zs.length = 0
  · have hz : zs = [] := List.length_eq_zero_iff.1 h0
    subst hz
    refine (Any.slices_Sort_int_none Ly a cap w).mono ?_
    rintro e w' ⟨rfl, rfl⟩
    have hs : h.set l ⟨.arr, g, 1, N, sortRow off row (sorted [])⟩ = h := by
      have : sortRow off row (sorted []) = row := by
        funext i
        have : ¬ (off ≤ i ∧ i < off + (sorted []).length) := by rw [sorted_len]; simp
        unfold sortRow; rw [if_neg this]
      rw [this]
      apply List.ext_getElem?
      intro i
      by_cases hi : l = i
      · subst hi; rw [List.getElem?_set_self hlt, ho]
      · rw [List.getElem?_set_ne hi]
    rw [hs]
    exact ⟨_, .tup [], h, pl, rfl, ⟨rfl, rfl⟩, R, .tup [] [] rfl (fun i hi => by simp at hi), Tr.refl _ _ _, .refl _ _⟩
  · rcases hsl with ⟨h6, _⟩ | ⟨b, q, c, el, rfl, rfl, hb, hcap, hcl⟩
    · exact absurd h6 h0
    · obtain ⟨hbb, xat⟩ := R.at_ l _ b q ho h2
      obtain ⟨c', el', hb', hcs, hrl, hrow⟩ := xat.cells rfl
      rw [hb] at hb'; cases hb'
      simp only [Nat.mul_one] at hcap hcs hrow ⊢
      have hcell : ∀ i, i < zs.length → c[q + off + i]? = some (.int .i64 (zs.getD i 0)) := fun i hi => by
        obtain ⟨u, hu, hur⟩ := hrow (off + i) 0 (by show off + i < N; omega) (by show 0 < 1; omega)
        have e2 : (row (off + i)) = _ := hr i hi
        have hur : RelV Z h pl w (nth (row (off + i)) 0) u := hur
        rw [e2] at hur
        have := inv_raw hur
        rw [show q + off + i = q + (off + i + 0) by omega, hu, this]
      have hH : Holds (Value.int .i64) w b (q + off) zs.toArray := by
        intro j hj
        have hj' : j < zs.length := by simpa using hj
        refine ⟨?_, by simp [World.frozen?, hb]⟩
        rw [World.cell?_of_block (w := w) (w' := w) rfl]
        simp only [World.cell?, hb]
        simp only [Option.isSome_none, Bool.false_eq_true, if_false]
        rw [hcell j hj']
        simp [List.getD_eq_getElem?_getD, hj']
      refine (Any.slices_Sort_int Ly b (q + off) cap zs w hH (lt_of_heap hb) hlen).mono ?_
      rintro e w' ⟨rfl, n, os, hw⟩
      have hG : w.grownBy w' (some b) := by rw [hw]; exact grownBy_sortedAt _
      have hnew : w'.heap[b]? = some (.cells (putCells (Value.int .i64) (q + off) (sorted zs).toArray c) el (0, 0)) := by rw [hw]; exact heap_sortedAt _ hb
      have hsz : (putCells (Value.int .i64) (q + off) (sorted zs).toArray c).size = c.size := by simp [putCells]
      have hold : ∀ k, k ≠ b → k < w.heap.size → w'.heap[k]? = w.heap[k]? := fun k hk hlt => hG.block k hlt (fun e => hk (by cases e; rfl))
      have hbase' : base ≤ b := hbb rfl
      have hB : Below base w w' := (Below.refl base w).grown hG hbase (fun k hk => by cases hk; exact hbase')
      have T := Tr.upd (w' := w') (o' := ⟨.arr, g, 1, N, sortRow off row (sorted zs)⟩) R ho h2 rfl rfl rfl hold (fun c1 el1 e1 => by rw [hb] at e1; cases e1; exact ⟨_, hnew, hsz⟩)
      have hput : ∀ i, i < c.size → (putCells (Value.int .i64) (q + off) (sorted zs).toArray c)[i]? = if q + off ≤ i ∧ i < q + off + zs.length then some (.int .i64 ((sorted zs).getD (i - (q + off)) 0)) else c[i]? := fun i hi => by
        have hl : (sorted zs).toArray.size = zs.length := by simp [sorted_len]
        simp only [putCells, Array.getElem?_mapIdx, hl, Array.getElem?_eq_getElem hi, Option.map_some]
        split
        · rename_i hin
          have : i - (q + off) < (sorted zs).length := by rw [sorted_len]; omega
          simp [List.getD_eq_getElem?_getD, this]
        · rfl
      refine ⟨_, .tup [], _, pl, rfl, ⟨rfl, rfl⟩, RelO.upd (w' := w') (o' := ⟨.arr, g, 1, N, sortRow off row (sorted zs)⟩) R ho h2 rfl rfl rfl rfl hold hb hnew hsz (by rw [hsz]; simpa using hcs) (fun i hi => ?_) (fun i j hi hj => ?_) rfl, .tup [] [] rfl (fun i hi => by simp at hi), T, hB⟩
      · show (sortRow off row (sorted zs) i).length = 1
        unfold sortRow
        split
        · rfl
        · exact hrl i hi
      · have hi : i < N := hi
        have hj : j < 1 := hj
        have hj0 : j = 0 := by omega
        subst hj0
        have hic : q + (i + 0) < c.size := by omega
        show ∃ v, (putCells (Value.int .i64) (q + off) (sorted zs).toArray c)[q + (i * 1 + 0)]? = some v ∧ RelV Z _ pl w' (nth (sortRow off row (sorted zs) i) 0) v
        rw [Nat.mul_one, hput _ hic]
        have hsr : sortRow off row (sorted zs) i = if off ≤ i ∧ i < off + zs.length then [.raw (.int .i64 ((sorted zs).getD (i - off) 0))] else row i := by unfold sortRow; rw [sorted_len]
        rw [hsr]
        by_cases hin : off ≤ i ∧ i < off + zs.length
        · rw [if_pos (by omega), if_pos hin]
          exact ⟨_, rfl, by rw [show q + (i + 0) - (q + off) = i - off by omega]; exact .cl _ _ (.raw _)⟩
        · rw [if_neg (by omega), if_neg hin]
          obtain ⟨u, hu, hur⟩ := hrow i 0 hi hj
          exact ⟨u, hu, hur.tr T⟩
end Go.Fg
namespace Go.Fg.X
open Go.Proofs Go.Fg
set_option maxRecDepth 100000
set_option maxHeartbeats 4000000
set_option linter.unusedSimpArgs false
set_option linter.unusedVariables false
/-! A tree of classes: a list by rising numbers, and a map. -/
def findC (L : List Kls) (k : Int) : Option Kls := L.find? fun c => c.iD == k
def ofE (e : Ent) : Int × D := (e.k, e.v)
def ofC (c : Kls) : Int × D := (c.iD, dkl c)
def Rising (L : List Kls) : Prop := L.Pairwise fun a b => a.iD < b.iD
structure TreeIs (es : List Ent) (L : List Kls) : Prop where
  perm : (es.map ofE).Perm (L.map ofC)
  sorted : Rising L
theorem nd_map {α : Type} {f : α → Int} : ∀ {l : List α}, (l.map f).Nodup → ∀ {x y : α}, x ∈ l → y ∈ l → f x = f y → x = y
  | [], _, x, _, hx, _, _ => by simp at hx
  | a :: l, hn, x, y, hx, hy, e => by
    simp only [List.map_cons, List.nodup_cons, List.mem_map, not_exists, not_and] at hn
    rcases List.mem_cons.1 hx with h1 | h1 <;> rcases List.mem_cons.1 hy with h2 | h2
    · rw [h1, h2]
    · exact absurd (by rw [← e, h1]) (hn.1 y h2)
    · exact absurd (by rw [e, h2]) (hn.1 x h1)
    · exact nd_map hn.2 h1 h2 e
theorem Rising.nd {L : List Kls} (h : Rising L) : (L.map (·.iD)).Nodup := by
  unfold List.Nodup
  rw [List.pairwise_map]
  exact List.Pairwise.imp (fun h => by omega) h
theorem TreeIs.keysNd {es : List Ent} {L : List Kls} (T : TreeIs es L) : KeysNd es := by
  have h1 : es.map (·.k) = (es.map ofE).map Prod.fst := by simp [ofE, Function.comp_def]
  have h2 : (L.map ofC).map Prod.fst = L.map (·.iD) := by simp [ofC, Function.comp_def]
  unfold KeysNd
  rw [h1, (T.perm.map Prod.fst).nodup_iff, h2]
  exact T.sorted.nd
theorem alook_iff : ∀ {es : List Ent}, KeysNd es → ∀ {k : Int} {v : D}, alook es k = some v ↔ (k, v) ∈ es.map ofE
  | [], _, k, v => by simp [alook]
  | e :: es, hn, k, v => by
    have hn2 : KeysNd es := by unfold KeysNd at hn ⊢; simp only [List.map_cons, List.nodup_cons] at hn; exact hn.2
    simp only [alook]
    by_cases h : e.k = k
    · rw [if_pos h]
      constructor
      · rintro ⟨rfl⟩; simp [ofE, h]
      · intro hm
        simp only [List.map_cons, List.mem_cons] at hm
        rcases hm with hm | hm
        · simp only [ofE, Prod.mk.injEq] at hm; rw [hm.2]
        · exfalso
          obtain ⟨e', he', hh⟩ := List.mem_map.1 hm
          simp only [ofE, Prod.mk.injEq] at hh
          unfold KeysNd at hn
          simp only [List.map_cons, List.nodup_cons, List.mem_map, not_exists, not_and] at hn
          exact hn.1 e' he' (by rw [hh.1, h])
    · rw [if_neg h, alook_iff hn2]
      simp only [List.map_cons, List.mem_cons]
      constructor
      · exact fun h => .inr h
      · rintro (hm | hm)
        · simp only [ofE, Prod.mk.injEq] at hm; exact absurd hm.1.symm h
        · exact hm
theorem findC_iff {L : List Kls} (h : Rising L) {k : Int} {c : Kls} : findC L k = some c ↔ c ∈ L ∧ c.iD = k := by
  constructor
  · intro e
    exact ⟨List.mem_of_find?_eq_some e, by have := List.find?_some e; simpa using this⟩
  · rintro ⟨hm, rfl⟩
    cases hf : findC L c.iD with
    | none =>
      have := List.find?_eq_none.1 hf c hm
      simp at this
    | some d =>
      have h1 := List.mem_of_find?_eq_some hf
      have h2 : d.iD = c.iD := by have := List.find?_some hf; simpa using this
      rw [nd_map h.nd h1 hm h2]
theorem findC_none {L : List Kls} {k : Int} : findC L k = none ↔ ∀ c ∈ L, c.iD ≠ k := by
  simp [findC, List.find?_eq_none]
theorem TreeIs.look {es : List Ent} {L : List Kls} (T : TreeIs es L) (k : Int) : alook es k = (findC L k).map dkl := by
  cases hf : findC L k with
  | some c =>
    obtain ⟨h1, h2⟩ := (findC_iff T.sorted).1 hf
    rw [Option.map_some, alook_iff T.keysNd, T.perm.mem_iff]
    exact List.mem_map.2 ⟨c, h1, by simp [ofC, h2]⟩
  | none =>
    rw [Option.map_none]
    cases ha : alook es k with
    | none => rfl
    | some v =>
      rw [alook_iff T.keysNd, T.perm.mem_iff] at ha
      obtain ⟨c, hc, e⟩ := List.mem_map.1 ha
      simp only [ofC, Prod.mk.injEq] at e
      exact absurd e.1 (findC_none.1 hf c hc)
theorem TreeIs.len {es : List Ent} {L : List Kls} (T : TreeIs es L) : es.length = L.length := by
  have := T.perm.length_eq
  simpa using this
theorem TreeIs.nil : TreeIs [] [] := ⟨by simp, by simp [Rising]⟩
/-- A list with a class, in the place of the one that was there. -/
def putC : List Kls → Kls → List Kls
  | [], x => [x]
  | c :: r, x => if x.iD < c.iD then x :: c :: r else if c.iD = x.iD then x :: r else c :: putC r x
def delC (L : List Kls) (k : Int) : List Kls := L.filter fun c => c.iD != k
theorem filter_id {α : Type} {p : α → Bool} {l : List α} (h : ∀ x ∈ l, p x = true) : l.filter p = l := List.filter_eq_self.2 h
theorem putC_perm : ∀ {L : List Kls} (x : Kls), Rising L → (putC L x).Perm (x :: delC L x.iD)
  | [], x, _ => by simp [putC, delC]
  | c :: r, x, h => by
    have hr : Rising r := List.Pairwise.of_cons h
    have hc : ∀ d ∈ r, c.iD < d.iD := fun d hd => (List.pairwise_cons.1 h).1 d hd
    simp only [putC]
    by_cases h1 : x.iD < c.iD
    · rw [if_pos h1]
      have : delC (c :: r) x.iD = c :: r := filter_id fun d hd => by
        rcases List.mem_cons.1 hd with rfl | hd
        · simp; omega
        · have := hc d hd; simp; omega
      rw [this]
    · rw [if_neg h1]
      by_cases h2 : c.iD = x.iD
      · rw [if_pos h2]
        have e1 : delC r x.iD = r := filter_id fun d hd => by have := hc d hd; simp; omega
        have : delC (c :: r) x.iD = r := by unfold delC at e1 ⊢; rw [List.filter_cons_of_neg (by simp [h2]), e1]
        rw [this]
      · rw [if_neg h2]
        have : delC (c :: r) x.iD = c :: delC r x.iD := by unfold delC; rw [List.filter_cons_of_pos (by simp [h2])]
        rw [this]
        exact ((putC_perm x hr).cons c).trans (List.Perm.swap x c _)
theorem putC_rising : ∀ {L : List Kls} (x : Kls), Rising L → Rising (putC L x)
  | [], x, _ => by simp [putC, Rising]
  | c :: r, x, h => by
    have hr : Rising r := List.Pairwise.of_cons h
    have hc : ∀ d ∈ r, c.iD < d.iD := fun d hd => (List.pairwise_cons.1 h).1 d hd
    simp only [putC]
    by_cases h1 : x.iD < c.iD
    · rw [if_pos h1]
      exact List.pairwise_cons.2 ⟨fun d hd => by
        rcases List.mem_cons.1 hd with rfl | hd
        · exact h1
        · have := hc d hd; omega, h⟩
    · rw [if_neg h1]
      by_cases h2 : c.iD = x.iD
      · rw [if_pos h2]
        exact List.pairwise_cons.2 ⟨fun d hd => by have := hc d hd; omega, hr⟩
      · rw [if_neg h2]
        refine List.pairwise_cons.2 ⟨fun d hd => ?_, putC_rising x hr⟩
        have := (putC_perm x hr).mem_iff.1 hd
        rcases List.mem_cons.1 this with rfl | hd2
        · omega
        · exact hc d (List.mem_filter.1 hd2).1
theorem delC_rising {L : List Kls} (k : Int) (h : Rising L) : Rising (delC L k) := List.Pairwise.filter _ h
theorem aput_perm : ∀ {es : List Ent} (k : Int) (v : D), KeysNd es → (∃ u, alook es k = some u) → ((aput es k v).map ofE).Perm ((k, v) :: (es.map ofE).filter fun p => p.1 != k)
  | [], k, v, _, h => by simp [alook] at h
  | e :: es, k, v, hn, h => by
    have hn1 := hn
    unfold KeysNd at hn1
    simp only [List.map_cons, List.nodup_cons, List.mem_map, not_exists, not_and] at hn1
    simp only [aput]
    by_cases he : e.k = k
    · rw [if_pos he]
      have e1 : (es.map ofE).filter (fun p => p.1 != k) = es.map ofE := filter_id fun p hp => by
        obtain ⟨e', he', rfl⟩ := List.mem_map.1 hp
        have := hn1.1 e' he'
        simp [ofE]; omega
      have : ((e :: es).map ofE).filter (fun p => p.1 != k) = es.map ofE := by rw [List.map_cons, List.filter_cons_of_neg (by simp [ofE, he]), e1]
      rw [this]
      simp [ofE]
    · rw [if_neg he]
      have h2 : ∃ u, alook es k = some u := by simpa only [alook, if_neg he] using h
      have : ((e :: es).map ofE).filter (fun p => p.1 != k) = ofE e :: (es.map ofE).filter (fun p => p.1 != k) := by rw [List.map_cons, List.filter_cons_of_pos (by simp [ofE, he])]
      rw [this, List.map_cons]
      exact ((aput_perm k v hn1.2 h2).cons _).trans (List.Perm.swap _ _ _)
theorem mset_tree {es : List Ent} {L : List Kls} (T : TreeIs es L) (q : IntKind) (c : Nat) (x : Kls) : ∃ c' es', mset q c es x.iD (dkl x) = mapOb q c' es' ∧ TreeIs es' (putC L x) := by
  have hp : ((putC L x).map ofC).Perm ((x.iD, dkl x) :: (L.map ofC).filter fun p => p.1 != x.iD) := by
    have := (putC_perm x T.sorted).map ofC
    rw [List.map_cons] at this
    refine this.trans ?_
    have : (L.map ofC).filter (fun p => p.1 != x.iD) = (delC L x.iD).map ofC := by
      rw [List.filter_map]; rfl
    rw [this]
    exact List.Perm.refl _
  have hf := T.perm.filter fun p => p.1 != x.iD
  unfold mset
  cases ha : alook es x.iD with
  | some u => exact ⟨c, _, rfl, ⟨(aput_perm x.iD (dkl x) T.keysNd ⟨u, ha⟩).trans ((hf.cons _).trans hp.symm), putC_rising x T.sorted⟩⟩
  | none =>
    refine ⟨c + 1, _, rfl, ⟨?_, putC_rising x T.sorted⟩⟩
    have e1 : (es.map ofE).filter (fun p => p.1 != x.iD) = es.map ofE := filter_id fun p hp => by
      obtain ⟨e', he', rfl⟩ := List.mem_map.1 hp
      have := (alook_none ha).1 e' he'
      simp [ofE]; omega
    rw [e1] at hf
    rw [List.map_append]
    refine List.perm_append_comm.trans ?_
    exact (hf.cons (x.iD, dkl x)).trans hp.symm
theorem adel_perm : ∀ {es : List Ent} (k : Int), KeysNd es → ((adel es k).map ofE) = ((es.map ofE).filter fun p => p.1 != k)
  | [], k, _ => rfl
  | e :: es, k, hn => by
    have hn1 := hn
    unfold KeysNd at hn1
    simp only [List.map_cons, List.nodup_cons, List.mem_map, not_exists, not_and] at hn1
    simp only [adel]
    by_cases he : e.k = k
    · rw [if_pos he, List.map_cons, List.filter_cons_of_neg (by simp [ofE, he])]
      exact (filter_id fun p hp => by
        obtain ⟨e', he', rfl⟩ := List.mem_map.1 hp
        have := hn1.1 e' he'
        simp [ofE]; omega).symm
    · rw [if_neg he, List.map_cons, List.map_cons, List.filter_cons_of_pos (by simp [ofE, he]), adel_perm k hn1.2]
theorem adel_tree {es : List Ent} {L : List Kls} (T : TreeIs es L) (k : Int) : TreeIs (adel es k) (delC L k) := by
  refine ⟨?_, delC_rising k T.sorted⟩
  rw [adel_perm k T.keysNd]
  have : (L.map ofC).filter (fun p => p.1 != k) = (delC L k).map ofC := by rw [List.filter_map]; rfl
  rw [← this]
  exact T.perm.filter _
/-- Sorting what a sorted list was mixed from. -/
theorem sorted_of_perm {zs ts : List Int} (h : zs.Perm ts) (hs : ts.Pairwise (· < ·)) : sorted zs = ts := by
  refine List.Perm.eq_of_pairwise (le := fun a b => a ≤ b) (fun a b _ _ h1 h2 => by omega) ?_ (hs.imp (fun h => by omega)) ((List.mergeSort_perm _ _).trans h)
  have := List.pairwise_mergeSort (le := fun x y : Int => decide (x ≤ y)) (fun a b c h1 h2 => by simp at *; omega) (fun a b => by simp; omega) zs
  exact this.imp (fun h => by simpa using h)
end Go.Fg.X
namespace Go.Fg.X
open Go.Proofs Go.Fg
set_option maxRecDepth 100000
set_option maxHeartbeats 4000000
set_option linter.unusedSimpArgs false
set_option linter.unusedVariables false
section
variable (h : List Ob) (t m c : Nat) {es : List Ent} {L : List Kls} (T : TreeIs es L)
  (ht : (h.map Ob.ro)[t]? = some ⟨.rone, 0, 1, 1, fun _ => [.mref m 0]⟩) (hm : (h.map Ob.ro)[m]? = some (mapOb .i64 c es).ro)
include T ht hm
theorem hget_ok (id : Int) : RFn0 Tryz.prog 73 h [.ptr t 0 0 0, dint id] (fun d => d = .tup [dkl ((findC L id).getD default), dint (if (findC L id).isSome then 0 else 6)]) := by
  have hk := T.look id
  cases hf : findC L id with
  | none =>
    rw [hf, Option.map_none] at hk
    refine RFn0_hx cx_ok 200 Tryz.func73 rfl Tryz.ntmps73 Tryz.results73 rfl fun base w pl F hF hFl hb => ?_
    rw [← hF] at ht hm
    have ht_l := hlt ht
    have hm_l := hlt hm
    simp only [go_sem, simprocAttr, hgetA, hgetL, hgetLk, hsetA, hsetL, hsetLk, List.length_append, List.length_set, List.append_assoc, List.set_set, ht, ht_l, hm, hm_l, hk]
    exact ⟨_, rfl, rfl⟩
  | some x =>
    rw [hf, Option.map_some] at hk
    refine RFn0_hx cx_ok 200 Tryz.func73 rfl Tryz.ntmps73 Tryz.results73 rfl fun base w pl F hF hFl hb => ?_
    rw [← hF] at ht hm
    have ht_l := hlt ht
    have hm_l := hlt hm
    simp only [go_sem, simprocAttr, hgetA, hgetL, hgetLk, hsetA, hsetL, hsetLk, List.length_append, List.length_set, List.append_assoc, List.set_set, ht, ht_l, hm, hm_l, hk]
    exact ⟨_, rfl, rfl⟩
end
end Go.Fg.X
namespace Go.Fg.X
open Go.Proofs Go.Fg
set_option maxRecDepth 100000
set_option maxHeartbeats 4000000
set_option linter.unusedSimpArgs false
set_option linter.unusedVariables false
/-! A heap that began as F; a slice of numbers in it. -/
def ExtF (F H : List Ob) : Prop := ∃ g, H = F ++ g
theorem ExtF.refl (F : List Ob) : ExtF F F := ⟨[], by simp⟩
theorem ExtF.app {F H : List Ob} (h : ExtF F H) (g : List Ob) : ExtF F (H ++ g) := by
  obtain ⟨x, rfl⟩ := h
  exact ⟨x ++ g, by simp⟩
theorem ExtF.set {F H : List Ob} (h : ExtF F H) {lo : Nat} (hl : F.length ≤ lo) (o : Ob) : ExtF F (H.set lo o) := by
  obtain ⟨x, rfl⟩ := h
  exact ⟨x.set (lo - F.length) o, by rw [List.set_append_right _ _ hl]⟩
theorem ExtF.len {F H : List Ob} (h : ExtF F H) : F.length ≤ H.length := by
  obtain ⟨x, rfl⟩ := h
  simp
theorem ExtF.get {F H : List Ob} (h : ExtF F H) {l : Nat} {o : Ob} (e : F[l]? = some o) : H[l]? = some o := by
  obtain ⟨x, rfl⟩ := h
  rw [hgetA (hlt e)]; exact e
/-- A slice of numbers among the objects from n on. -/
def SlcH (n : Nat) (H : List Ob) (d : D) (L : List Int) : Prop := (d = .nil ∧ L = []) ∨ ∃ lo g off row, d = .ref lo g off L.length ∧ n ≤ lo ∧ H[lo]? = some ⟨.arr, g, 1, off + L.length, row⟩ ∧ ∀ i, i < L.length → row (off + i) = [dint (L.getD i 0)]
theorem SlcH.app {n : Nat} {H : List Ob} {d : D} {L : List Int} (h : SlcH n H d L) (g : List Ob) : SlcH n (H ++ g) d L := by
  rcases h with h | ⟨lo, gg, off, row, h1, h2, h3, h4⟩
  · exact .inl h
  · exact .inr ⟨lo, gg, off, row, h1, h2, by rw [hgetA (hlt h3)]; exact h3, h4⟩
theorem SlcH.base {F h g : List Ob} {d : D} {L : List Int} (hl : F.length = h.length) (x : SlcH F.length (F ++ g) d L) : SlcH h.length (h ++ g) d L := by
  rcases x with x | ⟨lo, gg, off, row, h1, h2, h3, h4⟩
  · exact .inl x
  · refine .inr ⟨lo, gg, off, row, h1, by omega, ?_, h4⟩
    rw [List.getElem?_append_right (by omega)] at h3 ⊢
    rw [← hl]; exact h3
theorem SlcH.done {F h H : List Ob} {d : D} {L : List Int} (hl : F.length = h.length) (hx : ExtF F H) (x : SlcH F.length H d L) : ∃ g, H = F ++ g ∧ SlcH h.length (h ++ g) d L := by
  obtain ⟨g, rfl⟩ := hx
  exact ⟨g, rfl, x.base hl⟩
theorem slc_push {dn : List Int} {off : Nat} {row : Nat → List D} {v : Int} (hr : ∀ i, i < dn.length → row (off + i) = [dint (dn.getD i 0)]) : ∀ i, i < (dn ++ [v]).length → appRow dn.length off row (fun _ => [dint v]) (0 + i) = [dint ((dn ++ [v]).getD i 0)] := fun i hi => by
  rw [Nat.zero_add]
  simp at hi
  by_cases h1 : i < dn.length
  · rw [appRow_lt h1, hr i h1]; simp [h1, List.getElem?_append_left h1]
  · have : i = dn.length := by omega
    subst this
    rw [appRow_ge (Nat.le_refl _)]; simp
theorem roro_get {h : List Ob} {l : Nat} {o : Ob} (e : h[l]? = some o.ro) : (h.map Ob.ro)[l]? = some o.ro := by have := ro_get e; rwa [ro_ro] at this
def upF (L : List Kls) : Nat → Int → List Int
  | 0, _ => []
  | n + 1, id => match findC L id with
    | none => []
    | some c => id :: upF L n c.parent
def Ends (L : List Kls) : Nat → Int → Prop
  | 0, id => findC L id = none
  | n + 1, id => match findC L id with
    | none => True
    | some c => Ends L n c.parent
structure UpInv (t : Nat) (L : List Kls) (N : Nat) (id : Int) (F : List Ob) (n : Nat) (s : St) : Prop where
  ex : ∃ dn cur d H, dn ++ upF L n cur = upF L N id ∧ dn.length + n ≤ N + 1 ∧ Ends L n cur ∧ ExtF F H ∧ SlcH F.length H d dn ∧ s = ⟨[(0, .ptr t 0 0 0), (1, dint cur), (5, d)], H⟩
section
variable (h : List Ob) (t m c : Nat) {es : List Ent} {L : List Kls} (T : TreeIs es L)
  (ht : (h.map Ob.ro)[t]? = some ⟨.rone, 0, 1, 1, fun _ => [.mref m 0]⟩) (hm : (h.map Ob.ro)[m]? = some (mapOb .i64 c es).ro)
include T ht hm
theorem hup_ok (id : Int) (N : Nat) (hN : N < 1000000) (hE : Ends L N id) : RFn Tryz.prog 45 h [.ptr t 0 0 0, dint id] (fun d g => SlcH h.length (h ++ g) d (upF L N id)) := by
  refine RFn_hx cx_ok 200 Tryz.func45 rfl Tryz.ntmps45 Tryz.results45 rfl fun base w pl F hF hFl hb => ?_
  rw [← hF] at ht hm
  have ht_l := hlt ht
  have hm_l := hlt hm
  simp only [go_sem, simprocAttr, hgetA, hgetL, hgetLk, hsetA, hsetL, hsetLk, List.length_append, List.length_set, List.append_assoc, List.set_set, ht, ht_l, hm, hm_l]
  refine kont_loop (UpInv t L N id F) N (s0 := ⟨[(0, .ptr t 0 0 0), (1, dint id), (5, .nil)], F⟩) (Weak.frame (by simp only [go_sem, simprocAttr])) ⟨[], id, .nil, F, rfl, by simp, hE, ExtF.refl F, .inl ⟨rfl, rfl⟩, rfl⟩ ?_
  rintro n s ⟨dn, cur, d, H, h1, h2, h3, hx, hs, rfl⟩
  have hFH := hx.len
  have ht2 := hx.get ht
  have hm2 := hx.get hm
  have ht2_l := hlt ht2
  have hm2_l := hlt hm2
  have hg := hget_ok H t m c T (ro_get ht2) (roro_get hm2) cur
  refine kont_of_hx cx_ok hb 200 ?_
  simp only [go_sem, simprocAttr, hgetA, hgetL, hgetLk, hsetA, hsetL, hsetLk, List.length_append, List.length_set, List.append_assoc, List.set_set]
  cases hf : findC L cur with
  | none =>
    rw [hf] at hg
    simp only [Option.isSome_none, Bool.false_eq_true, if_false] at hg
    refine kont_callR0 hb fn73 rfl ?_ hg rfl fun d hR => ?_
    · simp only [go_sem, simprocAttr, hgetA, hgetL, hgetLk, hsetA, hsetL, hsetLk, List.length_append, List.length_set, List.append_assoc, List.set_set, ht2, hm2, ht2_l, hm2_l]
    subst hR
    refine kont_of_hx cx_ok hb 200 ?_
    simp only [go_sem, simprocAttr, hgetA, hgetL, hgetLk, hsetA, hsetL, hsetLk, List.length_append, List.length_set, List.append_assoc, List.set_set, ht2, hm2, ht2_l, hm2_l]
    have e0 : upF L n cur = [] := by cases n with
      | zero => rfl
      | succ n => simp only [upF, hf]
    rw [e0, List.append_nil] at h1
    rw [← h1]
    exact SlcH.done hFl (hx.app _) (hs.app _)
  | some x =>
    rw [hf] at hg
    simp only [Option.isSome_some, if_true, Option.getD_some] at hg
    obtain ⟨n, rfl⟩ : ∃ n', n = n' + 1 := by
      cases n with
      | zero => rw [Ends, hf] at h3; cases h3
      | succ n => exact ⟨n, rfl⟩
    have h3' : Ends L n x.parent := by simpa only [Ends, hf] using h3
    have h1' : (dn ++ [cur]) ++ upF L n x.parent = upF L N id := by rw [← h1]; simp only [upF, hf, List.append_assoc, List.singleton_append]
    rcases hs with ⟨rfl, rfl⟩ | ⟨lo, g, off, row, rfl, hlo, ho, hr⟩
    · refine kont_callR0 hb fn73 rfl ?_ hg rfl fun d hR => ?_
      · simp only [go_sem, simprocAttr, hgetA, hgetL, hgetLk, hsetA, hsetL, hsetLk, List.length_append, List.length_set, List.append_assoc, List.set_set, ht2, hm2, ht2_l, hm2_l]
      subst hR
      refine kont_of_hx cx_ok hb 200 ?_
      simp only [go_sem, simprocAttr, hgetA, hgetL, hgetLk, hsetA, hsetL, hsetLk, List.length_append, List.length_set, List.append_assoc, List.set_set, ht2, hm2, ht2_l, hm2_l]
      refine ⟨n, ⟨[(0, .ptr t 0 0 0), (1, dint x.parent), (5, .ref (H.length + 2) 0 0 1)], _⟩, by omega, Weak.frame (by simp only [go_sem, simprocAttr]), ⟨⟨[cur], x.parent, _, _, h1', by simp at h2 ⊢; omega, h3', hx.app _, .inr ⟨H.length + 2, 0, 0, _, rfl, by omega, by rw [hgetLk rfl]; rfl, fun i hi => ?_⟩, rfl⟩⟩⟩
      have : i = 0 := by simp at hi; omega
      subst this; rfl
    · have ho_l := hlt ho
      refine kont_callR0 hb fn73 rfl ?_ hg rfl fun d hR => ?_
      · simp only [go_sem, simprocAttr, hgetA, hgetL, hgetLk, hsetA, hsetL, hsetLk, List.length_append, List.length_set, List.append_assoc, List.set_set, ht2, hm2, ht2_l, hm2_l, ho, ho_l]
      subst hR
      refine kont_of_hx cx_ok hb 200 ?_
      simp only [go_sem, simprocAttr, hgetA, hgetL, hgetLk, hsetA, hsetL, hsetLk, List.length_append, List.length_set, List.append_assoc, List.set_set, ht2, hm2, ht2_l, hm2_l, ho, ho_l]
      refine ⟨by omega, n, ⟨[(0, .ptr t 0 0 0), (1, dint x.parent), (5, .ref lo (g + 1) 0 (dn.length + 1))], _⟩, by omega, Weak.frame (by simp only [go_sem, simprocAttr]), ⟨⟨dn ++ [cur], x.parent, _, _, h1', ?_, h3', ?_, ?_, rfl⟩⟩⟩
      · simp at h2 ⊢; omega
      · exact (hx.set hlo _).app _
      · refine .inr ⟨lo, g + 1, 0, _, by simp, by omega, ?_, slc_push hr⟩
        rw [hgetA (by simpa using ho_l), hgetS ho_l]
        simp [dint]
end
end Go.Fg.X
namespace Go.Fg.X
open Go.Proofs Go.Fg
set_option maxRecDepth 100000
set_option maxHeartbeats 4000000
set_option linter.unusedSimpArgs false
set_option linter.unusedVariables false
def sharesC (L : List Kls) (id : Int) : Bool := id == 0 || decide (1 < ofI ((findC L id).getD default).ls)
section
variable (h : List Ob) (t m c : Nat) {es : List Ent} {L : List Kls} (T : TreeIs es L)
  (ht : (h.map Ob.ro)[t]? = some ⟨.rone, 0, 1, 1, fun _ => [.mref m 0]⟩) (hm : (h.map Ob.ro)[m]? = some (mapOb .i64 c es).ro)
include T ht hm
theorem hdepth_ok (id : Int) (N : Nat) (hN : N < 1000000) (hE : Ends L N id) : RFn0 Tryz.prog 19 h [.ptr t 0 0 0, dint id] (fun d => d = dint (upF L N id).length) := by
  refine RFn0_hx cx_ok 200 Tryz.func19 rfl Tryz.ntmps19 Tryz.results19 rfl fun base w pl F hF hFl hb => ?_
  rw [← hF] at ht hm
  have ht_l := hlt ht
  have hm_l := hlt hm
  simp only [go_sem, simprocAttr, hgetA, hgetL, hgetLk, hsetA, hsetL, hsetLk, List.length_append, List.length_set, List.append_assoc, List.set_set, ht, ht_l, hm, hm_l]
  refine kont_callR hb fn45 rfl ?_ (hup_ok F t m c T (ro_get ht) (roro_get hm) id N hN hE) rfl fun d g2 hs => ?_
  · simp only [go_sem, simprocAttr]
  rcases hs with ⟨rfl, h0⟩ | ⟨lo, g, off, row, rfl, hlo, ho, hr⟩
  · refine kont_of_hx cx_ok hb 200 ?_
    simp only [go_sem, simprocAttr, hgetA, hgetL, hgetLk, hsetA, hsetL, hsetLk, List.length_append, List.length_set, List.append_assoc, List.set_set, h0]
    exact ⟨_, rfl⟩
  · have ho_l := hlt ho
    refine kont_of_hx cx_ok hb 200 ?_
    simp only [go_sem, simprocAttr, hgetA, hgetL, hgetLk, hsetA, hsetL, hsetLk, List.length_append, List.length_set, List.append_assoc, List.set_set, ho, ho_l]
    exact ⟨_, rfl⟩
theorem hshares_ok (id : Int) : RFn0 Tryz.prog 18 h [.ptr t 0 0 0, dint id] (fun d => d = dbool (sharesC L id)) := by
  by_cases h0 : id = 0
  · have e : sharesC L id = true := by simp [sharesC, h0]
    rw [e]
    refine RFn0_hx cx_ok 200 Tryz.func18 rfl Tryz.ntmps18 Tryz.results18 rfl fun base w pl F hF hFl hb => ?_
    rw [← hF] at ht hm
    have ht_l := hlt ht
    have hm_l := hlt hm
    simp only [go_sem, simprocAttr, hgetA, hgetL, hgetLk, hsetA, hsetL, hsetLk, List.length_append, List.length_set, List.append_assoc, List.set_set, ht, ht_l, hm, hm_l, beqT h0]
    exact ⟨[], by simp⟩
  · have hk := T.look id
    have e : sharesC L id = decide (1 < ofI ((findC L id).getD default).ls) := by simp [sharesC, h0]
    rw [e]
    cases hf : findC L id with
    | none =>
      rw [hf, Option.map_none] at hk
      refine RFn0_hx cx_ok 200 Tryz.func18 rfl Tryz.ntmps18 Tryz.results18 rfl fun base w pl F hF hFl hb => ?_
      rw [← hF] at ht hm
      have ht_l := hlt ht
      have hm_l := hlt hm
      simp only [go_sem, simprocAttr, hgetA, hgetL, hgetLk, hsetA, hsetL, hsetLk, List.length_append, List.length_set, List.append_assoc, List.set_set, ht, ht_l, hm, hm_l, hk, beqF h0]
      refine kont_call hb fn17 rfl ?_ (sshares_ok ⟨0, 0, false, ⟨0, 0, 0⟩, ⟨0, 0, 0⟩, ⟨0, 0, 0⟩, 0, 0⟩) (Ret.flat rfl) rfl fun d h hR => ?_
      · simp only [go_sem, simprocAttr, hgetA, hgetL, hgetLk, hsetA, hsetL, hsetLk, List.length_append, List.length_set, List.append_assoc, List.set_set]
      obtain ⟨rfl, rfl⟩ := hR
      refine kont_of_hx cx_ok hb 200 ?_
      simp only [go_sem, simprocAttr, hgetA, hgetL, hgetLk, hsetA, hsetL, hsetLk, List.length_append, List.length_set, List.append_assoc, List.set_set]
      exact ⟨[], (List.append_nil F).symm, rfl⟩
    | some x =>
      rw [hf, Option.map_some] at hk
      refine RFn0_hx cx_ok 200 Tryz.func18 rfl Tryz.ntmps18 Tryz.results18 rfl fun base w pl F hF hFl hb => ?_
      rw [← hF] at ht hm
      have ht_l := hlt ht
      have hm_l := hlt hm
      simp only [go_sem, simprocAttr, hgetA, hgetL, hgetLk, hsetA, hsetL, hsetLk, List.length_append, List.length_set, List.append_assoc, List.set_set, ht, ht_l, hm, hm_l, hk, beqF h0]
      refine kont_call hb fn17 rfl ?_ (sshares_ok x) (Ret.flat rfl) rfl fun d h hR => ?_
      · simp only [go_sem, simprocAttr, hgetA, hgetL, hgetLk, hsetA, hsetL, hsetLk, List.length_append, List.length_set, List.append_assoc, List.set_set]
      obtain ⟨rfl, rfl⟩ := hR
      refine kont_of_hx cx_ok hb 200 ?_
      simp only [go_sem, simprocAttr, hgetA, hgetL, hgetLk, hsetA, hsetL, hsetLk, List.length_append, List.length_set, List.append_assoc, List.set_set]
      exact ⟨[], by simp⟩
end
end Go.Fg.X
namespace Go.Fg.X
open Go.Proofs Go.Fg
set_option maxRecDepth 100000
set_option maxHeartbeats 4000000
set_option linter.unusedSimpArgs false
set_option linter.unusedVariables false
def sel (L : List Kls) (g : Kls → Bool) (k : Int) : Bool := ((findC L k).map g).getD false
theorem filt_same {es : List Ent} {seen : List Nat} {b : Nat} (p : Ent → Bool) (h : ∀ e ∈ es, e.b ≠ b) : (es.filter fun x => (seen ++ [b]).contains x.b && p x) = es.filter fun x => seen.contains x.b && p x := by
  apply List.filter_congr
  intro x hx
  have := h x hx
  simp [this]
theorem filt_step : ∀ {es : List Ent} {seen : List Nat} {e : Ent} (p : Ent → Bool), (es.map (·.b)).Nodup → e ∈ es → e.b ∉ seen → (es.filter fun x => (seen ++ [e.b]).contains x.b && p x).Perm (if p e then e :: es.filter (fun x => seen.contains x.b && p x) else es.filter fun x => seen.contains x.b && p x)
  | [], _, _, _, _, h, _ => by simp at h
  | x :: es, seen, e, p, hn, h, hs => by
    simp only [List.map_cons, List.nodup_cons, List.mem_map, not_exists, not_and] at hn
    rcases List.mem_cons.1 h with h1 | h1
    · subst h1
      have e1 := filt_same (seen := seen) (b := e.b) p (es := es) fun y hy he => hn.1 y hy he
      have hc : seen.contains e.b = false := by simpa using hs
      rw [List.filter_cons, List.filter_cons, e1]
      simp only [hc, Bool.false_and, Bool.false_eq_true, if_false]
      have : (seen ++ [e.b]).contains e.b = true := by simp
      rw [this, Bool.true_and]
    · have ih := filt_step p hn.2 h1 hs
      have hne : x.b ≠ e.b := fun he => hn.1 e h1 he.symm
      have hc : (seen ++ [e.b]).contains x.b = seen.contains x.b := by simp [hne]
      rw [List.filter_cons, List.filter_cons, hc]
      by_cases h2 : (seen.contains x.b && p x) = true
      · rw [if_pos h2, if_pos h2]
        by_cases h3 : p e = true
        · rw [if_pos h3] at ih ⊢
          exact (ih.cons x).trans (List.Perm.swap _ _ _)
        · rw [if_neg h3] at ih ⊢
          exact ih.cons x
      · rw [if_neg h2, if_neg h2]
        exact ih
theorem TreeIs.ent {es : List Ent} {L : List Kls} (T : TreeIs es L) {e : Ent} (he : e ∈ es) : ∃ x, findC L e.k = some x ∧ e.v = dkl x ∧ x.iD = e.k := by
  have : ofE e ∈ L.map ofC := T.perm.mem_iff.1 (List.mem_map.2 ⟨e, he, rfl⟩)
  obtain ⟨x, hx, e1⟩ := List.mem_map.1 this
  simp only [ofC, ofE, Prod.mk.injEq] at e1
  exact ⟨x, (findC_iff T.sorted).2 ⟨hx, e1.1⟩, e1.2.symm, e1.1⟩
theorem TreeIs.pick {es : List Ent} {L : List Kls} (T : TreeIs es L) (g : Kls → Bool) : ((es.filter fun e => sel L g e.k).map (·.k)).Perm ((L.filter g).map (·.iD)) := by
  have h1 := (T.perm.filter fun p => sel L g p.1).map Prod.fst
  have e1 : ((es.map ofE).filter fun p => sel L g p.1).map Prod.fst = (es.filter fun e => sel L g e.k).map (·.k) := by
    rw [List.filter_map, List.map_map]; rfl
  have e2 : ((L.map ofC).filter fun p => sel L g p.1).map Prod.fst = (L.filter g).map (·.iD) := by
    rw [List.filter_map, List.map_map]
    have : L.filter ((fun p => sel L g p.1) ∘ ofC) = L.filter g := List.filter_congr fun x hx => by
      have := (findC_iff T.sorted).2 ⟨hx, rfl⟩
      simp [sel, ofC, this]
    rw [this]; rfl
  rw [e1, e2] at h1
  exact h1
theorem pick_rising {L : List Kls} (h : Rising L) (g : Kls → Bool) : ((L.filter g).map (·.iD)).Pairwise (· < ·) := by
  rw [List.pairwise_map]
  exact List.Pairwise.filter g h
open Go.Shelf in
theorem sort_nil {P : Program} {ρ : Ren} (Ly : Lays.n189 P ρ) (h : List Ob) : MFn P (ρ.f 189) h [.nil] (fun d h' => d = .tup [] ∧ h' = h) := by
  intro Z base w pl vs hbase hZ R hvl hv
  match vs, hvl with
  | [v], _ =>
  obtain ⟨a, e1⟩ := inv_nil (hv 0 (by simp))
  have e1 : v = _ := e1
  subst e1
  refine (Any.slices_Sort_int_none Ly a 0 w).mono ?_
  rintro e w' ⟨rfl, rfl⟩
  exact ⟨_, .tup [], h, pl, rfl, ⟨rfl, rfl⟩, R, .tup [] [] rfl (fun i hi => by simp at hi), Tr.refl _ _ _, .refl _ _⟩
open Go.Shelf in
def Tryz.laysSort_ren : Go.Shelf.Ren := ⟨fun | 189 => 74 | 125 => 99 | 257 => 98 | 128 => 119 | 129 => 120 | 294 => 110 | 295 => 111 | 296 => 112 | 297 => 113 | 298 => 114 | 299 => 115 | 216 => 116 | 300 => 117 | 301 => 118 | 328 => 130 | 329 => 131 | 330 => 132 | 331 => 133 | 332 => 134 | 215 => 135 | 343 => 140 | n => n, fun | 28 => 66 | 3 => 3 | 46 => 121 | 0 => 0 | 51 => 170 | 53 => 23 | 4 => 4 | 183 => 162 | 182 => 161 | 131 => 167 | 5 => 5 | 9 => 9 | 218 => 178 | 222 => 182 | 228 => 186 | 229 => 187 | n => n, fun | n => n⟩
theorem Tryz.laysSort : Go.Proofs.Lays.n189 Tryz.prog Tryz.laysSort_ren := {
  mixed := by kernel_rfl
  f125 := Tryz.func99.trans (congrArg some (by kernel_rfl))
  f128 := Tryz.func119.trans (congrArg some (by kernel_rfl))
  f129 := Tryz.func120.trans (congrArg some (by kernel_rfl))
  f189 := Tryz.func74.trans (congrArg some (by kernel_rfl))
  f215 := Tryz.func135.trans (congrArg some (by kernel_rfl))
  f216 := Tryz.func116.trans (congrArg some (by kernel_rfl))
  f257 := Tryz.func98.trans (congrArg some (by kernel_rfl))
  f294 := Tryz.func110.trans (congrArg some (by kernel_rfl))
  f295 := Tryz.func111.trans (congrArg some (by kernel_rfl))
  f296 := Tryz.func112.trans (congrArg some (by kernel_rfl))
  f297 := Tryz.func113.trans (congrArg some (by kernel_rfl))
  f298 := Tryz.func114.trans (congrArg some (by kernel_rfl))
  f299 := Tryz.func115.trans (congrArg some (by kernel_rfl))
  f300 := Tryz.func117.trans (congrArg some (by kernel_rfl))
  f301 := Tryz.func118.trans (congrArg some (by kernel_rfl))
  f328 := Tryz.func130.trans (congrArg some (by kernel_rfl))
  f329 := Tryz.func131.trans (congrArg some (by kernel_rfl))
  f330 := Tryz.func132.trans (congrArg some (by kernel_rfl))
  f331 := Tryz.func133.trans (congrArg some (by kernel_rfl))
  f332 := Tryz.func134.trans (congrArg some (by kernel_rfl))
  f343 := Tryz.func140.trans (congrArg some (by kernel_rfl))
  t0 := Tryz.underlying0
  a0 := Tryz.isAgg0
  z0 := Tryz.sizeOf0
  v0 := Tryz.zeroValue0
  t3 := Tryz.underlying3
  a3 := Tryz.isAgg3
  z3 := Tryz.sizeOf3
  v3 := Tryz.zeroValue3
  t4 := Tryz.underlying4
  a4 := Tryz.isAgg4
  z4 := Tryz.sizeOf4
  v4 := Tryz.zeroValue4
  t5 := Tryz.underlying5
  a5 := Tryz.isAgg5
  z5 := Tryz.sizeOf5
  v5 := Tryz.zeroValue5
  t9 := Tryz.underlying9
  a9 := Tryz.isAgg9
  z9 := Tryz.sizeOf9
  v9 := Tryz.zeroValue9
  t28 := Tryz.underlying66
  a28 := Tryz.isAgg66
  z28 := Tryz.sizeOf66
  v28 := Tryz.zeroValue66
  t46 := Tryz.underlying121
  a46 := Tryz.isAgg121
  z46 := Tryz.sizeOf121
  v46 := Tryz.zeroValue121
  t51 := Tryz.underlying170
  a51 := Tryz.isAgg170
  z51 := Tryz.sizeOf170
  v51 := Tryz.zeroValue170
  t53 := Tryz.underlying23
  a53 := Tryz.isAgg23
  z53 := Tryz.sizeOf23
  v53 := Tryz.zeroValue23
  t131 := Tryz.underlying167
  a131 := Tryz.isAgg167
  z131 := Tryz.sizeOf167
  v131 := Tryz.zeroValue167
  t182 := Tryz.underlying161
  a182 := Tryz.isAgg161
  z182 := Tryz.sizeOf161
  v182 := Tryz.zeroValue161
  t183 := Tryz.underlying162
  a183 := Tryz.isAgg162
  z183 := Tryz.sizeOf162
  v183 := Tryz.zeroValue162
  t218 := Tryz.underlying178
  a218 := Tryz.isAgg178
  z218 := Tryz.sizeOf178
  v218 := Tryz.zeroValue178
  t222 := Tryz.underlying182
  a222 := Tryz.isAgg182
  z222 := Tryz.sizeOf182
  v222 := Tryz.zeroValue182
  t228 := Tryz.underlying186
  a228 := Tryz.isAgg186
  z228 := Tryz.sizeOf186
  v228 := Tryz.zeroValue186
  t229 := Tryz.underlying187
  a229 := Tryz.isAgg187
  z229 := Tryz.sizeOf187
  v229 := Tryz.zeroValue187 }
end Go.Fg.X
namespace Go.Fg.X
open Go.Proofs Go.Fg
set_option maxRecDepth 100000
set_option maxHeartbeats 4000000
set_option linter.unusedSimpArgs false
set_option linter.unusedVariables false
theorem sortI_ok {h : List Ob} {l g off N : Nat} {row : Nat → List D} {zs : List Int} (ho : h[l]? = some ⟨.arr, g, 1, N, row⟩) (hn : off + zs.length ≤ N) (hr : ∀ i, i < zs.length → row (off + i) = [.raw (.int .i64 (zs.getD i 0))]) (hlen : zs.length < 4611686018427387904) :
    MFn Tryz.prog 74 h [.ref l g off zs.length] (fun d h' => d = .tup [] ∧ h' = h.set l ⟨.arr, g, 1, N, sortRow off row (sorted zs)⟩) := sort_ok Tryz.laysSort ho hn hr hlen
theorem sortN_ok (h : List Ob) : MFn Tryz.prog 74 h [.nil] (fun d h' => d = .tup [] ∧ h' = h) := sort_nil Tryz.laysSort h
theorem argEq_refl (d : D) : argEq d d := by unfold argEq; split <;> first | exact rfl | simp_all
theorem argsEq_refl : ∀ l : List D, argsEq l l
  | [] => trivial
  | d :: r => ⟨argEq_refl d, argsEq_refl r⟩
/-- What a function value tells of a class, whatever is lent to it. -/
def Tells (F : List Ob) (f nf : Nat) (caps : List D) (g : Kls → Bool) : Prop := ∀ (h : List Ob) (c : Kls), ExtF F h → RFn0 Tryz.prog f h (argsD nf caps [dkl c]) (fun d => d = dbool (g c))
structure WInv (t m c : Nat) (es : List Ent) (L : List Kls) (gk : Kls → Bool) (so : D) (F : List Ob) (n : Nat) (s : St) : Prop where
  ex : ∃ seen d out H, leftE es seen = n ∧ ExtF F H ∧ SlcH F.length H d out ∧ out.Perm ((es.filter fun e => seen.contains e.b && sel L gk e.k).map (·.k)) ∧ H[F.length]? = some (iterOb m c c seen) ∧
    s = ⟨[(0, .ptr t 0 0 0), (1, so), (5, d), (14, .mref F.length 0)], H⟩
section
variable (h : List Ob) (t m c : Nat) {es : List Ent} {L : List Kls} (T : TreeIs es L) (hlen : L.length < 1000000)
  (ht : (h.map Ob.ro)[t]? = some ⟨.rone, 0, 1, 1, fun _ => [.mref m 0]⟩) (hm : (h.map Ob.ro)[m]? = some (mapOb .i64 c es).ro)
include T ht hm hlen
theorem hwhich_ok (so : D) (f nf : Nat) (caps : List D) (hf : FnOk Tryz.prog f) (hso : calleeD so = some (f, nf, caps)) (gk : Kls → Bool) (hg : Tells (h.map Ob.ro) f nf caps gk) :
    RFn Tryz.prog 46 h [.ptr t 0 0 0, so] (fun d g => SlcH h.length (h ++ g) d ((L.filter gk).map (·.iD))) := by
  refine RFn_hx cx_ok 200 Tryz.func46 rfl Tryz.ntmps46 Tryz.results46 rfl fun base w pl F hF hFl hb => ?_
  rw [← hF] at ht hm
  have ht_l := hlt ht
  have hm_l := hlt hm
  simp only [go_sem, simprocAttr, hgetA, hgetL, hgetLk, hsetA, hsetL, hsetLk, List.length_append, List.length_set, List.append_assoc, List.set_set, ht, ht_l, hm, hm_l]
  refine kont_births (kd := .rmap) (q := .i64) (l := m) (c := c) (es := es) rfl (by simp only [go_sem, simprocAttr, hgetA, hgetL, hgetLk, hsetA, hsetL, hsetLk, List.length_append, List.length_set, List.append_assoc, List.set_set, hm, hm_l]; rfl) fun hB => ?_
  refine kont_loop (WInv t m c es L gk so F) (leftE es []) (s0 := ⟨[(0, .ptr t 0 0 0), (1, so), (5, .nil), (14, .mref F.length 0)], F ++ [iterOb m c c []]⟩) (Weak.frame (by simp only [go_sem, simprocAttr])) ⟨[], .nil, [], _, rfl, ⟨_, rfl⟩, .inl ⟨rfl, rfl⟩, by simp, by rw [hgetL rfl]; rfl, rfl⟩ ?_
  rintro n s ⟨seen, d, out, H, hn, hx, hs, hp, hit, rfl⟩
  have hm2 := hx.get hm
  have hm2_l := hlt hm2
  have hit_l := hlt hit
  refine kont_of_hx cx_ok hb 200 ?_
  simp only [go_sem, simprocAttr, hgetA, hgetL, hgetLk, hsetA, hsetL, hsetLk, List.length_append, List.length_set, List.append_assoc, List.set_set]
  refine kont_next hb (li := F.length) (l := m) (c := c) (es := es) (seen := seen) (q := .i64) (kd := .rmap) rfl hit rfl hm2 rfl (fun hall => ?_) (fun e he hns => ?_)
  · refine kont_of_hx cx_ok hb 200 ?_
    simp only [go_sem, simprocAttr, hgetA, hgetL, hgetLk, hsetA, hsetL, hsetLk, List.length_append, List.length_set, List.append_assoc, List.set_set]
    have hfin : sorted out = (L.filter gk).map (·.iD) := by
      refine sorted_of_perm (hp.trans ?_) (pick_rising T.sorted gk)
      have : (es.filter fun e => seen.contains e.b && sel L gk e.k) = es.filter fun e => sel L gk e.k := List.filter_congr fun e he => by
        have : seen.contains e.b = true := by simpa using hall e he
        rw [this, Bool.true_and]
      rw [this]
      exact T.pick gk
    have hol : out.length < 4611686018427387904 := by
      have h1 : out.length = ((L.filter gk).map (·.iD)).length := by rw [← hfin, sorted_len]
      have h2 := List.length_filter_le gk L
      rw [List.length_map] at h1
      omega
    rcases hs with ⟨rfl, rfl⟩ | ⟨lo, g, off, row, rfl, hlo, ho, hr⟩
    · refine kont_of_hx cx_ok hb 200 ?_
      simp only [go_sem, simprocAttr, hgetA, hgetL, hgetLk, hsetA, hsetL, hsetLk, List.length_append, List.length_set, List.append_assoc, List.set_set]
      refine kont_callH hb fn74 rfl ?_ (sortN_ok H) rfl fun d h hR => ?_
      · simp only [go_sem, simprocAttr]
      obtain ⟨rfl, rfl⟩ := hR
      refine kont_of_hx cx_ok hb 200 ?_
      simp only [go_sem, simprocAttr]
      exact SlcH.done hFl hx (.inl ⟨rfl, by rw [← hfin]; simp [sorted]⟩)
    · have ho_l := hlt ho
      refine kont_of_hx cx_ok hb 200 ?_
      simp only [go_sem, simprocAttr, hgetA, hgetL, hgetLk, hsetA, hsetL, hsetLk, List.length_append, List.length_set, List.append_assoc, List.set_set]
      refine kont_callH hb fn74 rfl ?_ (sortI_ok ho (Nat.le_refl _) hr hol) rfl fun d h hR => ?_
      · simp only [go_sem, simprocAttr]
      obtain ⟨rfl, rfl⟩ := hR
      refine kont_of_hx cx_ok hb 200 ?_
      simp only [go_sem, simprocAttr]
      refine SlcH.done hFl (hx.set hlo _) ?_
      have hSl : ((L.filter gk).map (·.iD)).length = out.length := by rw [← hfin, sorted_len]
      refine .inr ⟨lo, g, off, sortRow off row (sorted out), ?_, hlo, ?_, ?_⟩
      · rw [hSl]
      · rw [hSl]; exact hgetS ho_l
      · rw [hfin]
        intro i hi
        unfold sortRow
        rw [if_pos (by omega), show off + i - off = i by omega]
        rfl
  · obtain ⟨x, hfx, hev, hid⟩ := T.ent he
    rw [hev]
    have hsel : sel L gk e.k = gk x := by simp [sel, hfx]
    obtain ⟨H', hH'⟩ : ∃ H', H' = H.set F.length (iterOb m c c (seen ++ [e.b])) := ⟨_, rfl⟩
    have hx' : ExtF F H' := by rw [hH']; exact hx.set (Nat.le_refl _) _
    have hit' : H'[F.length]? = some (iterOb m c c (seen ++ [e.b])) := by rw [hH']; exact hgetS hit_l
    have hs' : SlcH F.length H' d out := by
      rcases hs with hs | ⟨lo, g, off, row, h1, h2, h3, h4⟩
      · exact .inl hs
      · refine .inr ⟨lo, g, off, row, h1, h2, ?_, h4⟩
        rw [hH', hgetN (by rintro rfl; rw [hit] at h3; cases h3)]
        exact h3
    have hm3 := hx'.get hm
    have hm3_l := hlt hm3
    have hit'_l := hlt hit'
    have hstep := filt_step (fun e => sel L gk e.k) hB.nodup he hns
    have hlt2 := leftE_lt he hns
    rw [← hH']
    refine kont_of_hx cx_ok hb 200 ?_
    simp only [go_sem, simprocAttr, hgetA, hgetL, hgetLk, hsetA, hsetL, hsetLk, List.length_append, List.length_set, List.append_assoc, List.set_set]
    refine kont_of_hx cx_ok hb 200 ?_
    simp only [go_sem, simprocAttr, hgetA, hgetL, hgetLk, hsetA, hsetL, hsetLk, List.length_append, List.length_set, List.append_assoc, List.set_set]
    refine kont_entry (li := F.length) (l := m) (c := c) (es := es) (seen := seen) (q := .i64) (kd := .rmap) (e := e) rfl hit' rfl hm3 he rfl ?_
    rw [hev]
    refine kont_of_hx cx_ok hb 200 ?_
    simp only [go_sem, simprocAttr, hgetA, hgetL, hgetLk, hsetA, hsetL, hsetLk, List.length_append, List.length_set, List.append_assoc, List.set_set]
    refine kont_of_hx cx_ok hb 200 ?_
    simp only [go_sem, simprocAttr, hgetA, hgetL, hgetLk, hsetA, hsetL, hsetLk, List.length_append, List.length_set, List.append_assoc, List.set_set]
    refine kont_callR0 hb hf hso ?_ (hg _ x ?_) rfl fun d2 hR => ?_
    · simp only [go_sem, simprocAttr]
      exact argsEq_refl _
    · rw [← hF]; exact hx'.app _
    subst hR
    refine kont_of_hx cx_ok hb 200 ?_
    have hol : out.length ≤ es.length := by
      have h1 := hp.length_eq
      rw [List.length_map] at h1
      rw [h1]; exact List.length_filter_le _ _
    have hol2 := T.len
    simp only [hsel] at hstep
    cases hgx : gk x
    · simp only [hgx, Bool.false_eq_true, if_false] at hstep
      simp only [go_sem, simprocAttr, hgetA, hgetL, hgetLk, hsetA, hsetL, hsetLk, List.length_append, List.length_set, List.append_assoc, List.set_set]
      exact ⟨leftE es (seen ++ [e.b]), ⟨[(0, .ptr t 0 0 0), (1, so), (5, d), (14, .mref F.length 0)], _⟩, by omega, Weak.frame (by simp only [go_sem, simprocAttr]), ⟨⟨seen ++ [e.b], d, out, _, rfl, hx'.app _, hs'.app _, hp.trans (hstep.map _).symm, by rw [hgetA hit'_l]; exact hit', rfl⟩⟩⟩
    · simp only [hgx, if_true] at hstep
      have hp2 : (out ++ [e.k]).Perm ((es.filter fun x => (seen ++ [e.b]).contains x.b && sel L gk x.k).map (·.k)) := by
        refine (List.perm_append_comm.trans ?_).trans (hstep.map _).symm
        exact hp.cons e.k
      rcases hs' with ⟨rfl, rfl⟩ | ⟨lo, g, off, row, rfl, hlo, ho, hr⟩
      · simp only [go_sem, simprocAttr, hgetA, hgetL, hgetLk, hsetA, hsetL, hsetLk, List.length_append, List.length_set, List.append_assoc, List.set_set]
        refine ⟨leftE es (seen ++ [e.b]), ⟨[(0, .ptr t 0 0 0), (1, so), (5, .ref (H'.length + 2) 0 0 1), (14, .mref F.length 0)], _⟩, by omega, Weak.frame (by simp only [go_sem, simprocAttr]), ⟨⟨seen ++ [e.b], _, [e.k], _, rfl, hx'.app _, ?_, hp2, by rw [hgetA hit'_l]; exact hit', rfl⟩⟩⟩
        have := hx'.len
        refine .inr ⟨H'.length + 2, 0, 0, _, rfl, by omega, by rw [hgetLk rfl]; rfl, fun i hi => ?_⟩
        have : i = 0 := by simp at hi; omega
        subst this; rfl
      · have ho_l := hlt ho
        have hne : F.length ≠ lo := by rintro rfl; rw [hit'] at ho; cases ho
        simp only [go_sem, simprocAttr, hgetA, hgetL, hgetLk, hsetA, hsetL, hsetLk, List.length_append, List.length_set, List.append_assoc, List.set_set, ho, ho_l]
        refine ⟨by omega, leftE es (seen ++ [e.b]), ⟨[(0, .ptr t 0 0 0), (1, so), (5, .ref lo (g + 1) 0 (out.length + 1)), (14, .mref F.length 0)], _⟩, by omega, Weak.frame (by simp only [go_sem, simprocAttr]), ⟨⟨seen ++ [e.b], _, out ++ [e.k], _, rfl, ?_, ?_, hp2, ?_, rfl⟩⟩⟩
        · exact (hx'.set hlo _).app _
        · refine .inr ⟨lo, g + 1, 0, _, by simp, by omega, ?_, slc_push hr⟩
          rw [hgetA (by simpa using ho_l), hgetS ho_l]
          simp [dint]
        · rw [hgetA (by simpa using hit'_l), hgetN (Ne.symm hne)]; exact hit'
end
end Go.Fg.X
namespace Go.Fg.X
open Go.Proofs Go.Fg
set_option maxRecDepth 100000
set_option maxHeartbeats 4000000
set_option linter.unusedSimpArgs false
set_option linter.unusedVariables false
theorem ro_app {h t : List Ob} {l : Nat} {o : Ob} (e : h[l]? = some o) : ((h ++ t).map Ob.ro)[l]? = some o.ro := ro_get (by rw [hgetA (hlt e)]; exact e)
theorem SlcH.le {n n' : Nat} {H : List Ob} {d : D} {L : List Int} (x : SlcH n H d L) (hn : n' ≤ n) : SlcH n' H d L := by
  rcases x with x | ⟨lo, gg, off, row, h1, h2, h3, h4⟩
  · exact .inl x
  · exact .inr ⟨lo, gg, off, row, h1, by omega, h3, h4⟩
theorem child_ok (h : List Ob) (lb : Nat) (id : Int) (x : Kls) (hl : (h.map Ob.ro)[lb]? = some ⟨.rone, 0, 1, 1, fun _ => [dint id]⟩) : RFn0 Tryz.prog 47 h [dkl x, .ptr lb 0 0 0] (fun d => d = dbool (x.parent == id)) := by
  refine RFn0_hx cx_ok 200 Tryz.func47 rfl Tryz.ntmps47 Tryz.results47 rfl fun base w pl F hF hFl hb => ?_
  rw [← hF] at hl
  have hl_l := hlt hl
  simp only [go_sem, simprocAttr, hgetA, hgetL, hgetLk, hsetA, hsetL, hsetLk, List.length_append, List.length_set, List.append_assoc, List.set_set, hl, hl_l]
  exact ⟨_, rfl⟩
def childC (L : List Kls) (id : Int) : List Int := (L.filter fun x => x.parent == id).map (·.iD)
section
variable (h : List Ob) (t m c : Nat) {es : List Ent} {L : List Kls} (T : TreeIs es L) (hlen : L.length < 1000000)
  (ht : (h.map Ob.ro)[t]? = some ⟨.rone, 0, 1, 1, fun _ => [.mref m 0]⟩) (hm : (h.map Ob.ro)[m]? = some (mapOb .i64 c es).ro)
include T ht hm hlen
theorem hchildren_ok (id : Int) : RFn Tryz.prog 20 h [.ptr t 0 0 0, dint id] (fun d g => SlcH h.length (h ++ g) d (childC L id)) := by
  refine RFn_hx cx_ok 200 Tryz.func20 rfl Tryz.ntmps20 Tryz.results20 rfl fun base w pl F hF hFl hb => ?_
  rw [← hF] at ht hm
  have ht_l := hlt ht
  have hm_l := hlt hm
  simp only [go_sem, simprocAttr, hgetA, hgetL, hgetLk, hsetA, hsetL, hsetLk, List.length_append, List.length_set, List.append_assoc, List.set_set, ht, ht_l, hm, hm_l]
  have hx : ExtF F (F ++ ([⟨.one, 0, 1, 1, fun _ => [dint id]⟩] : List Ob)) := ⟨_, rfl⟩
  have hT : Tells ((F ++ ([⟨.one, 0, 1, 1, fun _ => [dint id]⟩] : List Ob)).map Ob.ro) 47 0 [.ptr F.length 0 0 0] (fun x => x.parent == id) := fun h' x hx' => child_ok h' F.length id x (by
    have e := hx'.get (l := F.length) (o := ⟨.rone, 0, 1, 1, fun _ => [dint id]⟩) (by rw [List.map_append, hgetL (by simp)]; rfl)
    exact ro_get e)
  refine kont_callR hb fn46 rfl ?_ (hwhich_ok _ t m c T hlen (ro_get (hx.get ht)) (roro_get (hx.get hm)) (.clo 47 0 [.ptr F.length 0 0 0]) 47 0 [.ptr F.length 0 0 0] fn47 rfl _ hT) rfl fun d g hs => ?_
  · simp only [go_sem, simprocAttr]
  refine kont_of_hx cx_ok hb 200 ?_
  simp only [go_sem, simprocAttr, hgetA, hgetL, hgetLk, hsetA, hsetL, hsetLk, List.length_append, List.length_set, List.append_assoc, List.set_set]
  have hs2 := hs.le (n' := F.length) (by simp)
  rw [List.append_assoc] at hs2
  exact SlcH.done hFl ⟨_, rfl⟩ hs2
/-! What becomes of a tree. -/
def addE (L : List Kls) (x : Kls) (dp : Nat) : Int :=
  if rightV x ≠ 0 then rightV x
  else if (findC L x.iD).isSome then 8
  else if L.length = 64 then 5
  else if (x.parent ≠ 0 ∧ (findC L x.parent).isNone) ∨ ((findC L x.parent).getD default).leaf = true then 23
  else if 1 < ofI x.ls ∧ sharesC L x.parent = false then 29
  else if dp = 16 then 25
  else 0
end
section
variable (h : List Ob) (t m c : Nat) {es : List Ent} {L : List Kls} (T : TreeIs es L) (hlen : L.length < 1000000)
  (ht : h[t]? = some ⟨.one, 0, 1, 1, fun _ => [.mref m 0]⟩) (hm : h[m]? = some (mapOb .i64 c es))
include T ht hm hlen
/-- What a heap is behind a change: a tree, and more. -/
structure TreeAt (h : List Ob) (t m : Nat) (L : List Kls) (h' : List Ob) : Prop where
  ex : ∃ c es, h'[t]? = some ⟨.one, 0, 1, 1, fun _ => [.mref m 0]⟩ ∧ h'[m]? = some (mapOb .i64 c es) ∧ TreeIs es L
  len : h.length ≤ h'.length
  old : ∀ l, l < h.length → l ≠ m → h'[l]? = h[l]?
omit T hlen in
theorem TreeAt.same (T : TreeIs es L) (g : List Ob) : TreeAt h t m L (h ++ g) :=
  ⟨⟨c, es, by rw [hgetA (hlt ht)]; exact ht, by rw [hgetA (hlt hm)]; exact hm, T⟩, by simp, fun l hl _ => hgetA hl⟩
omit hlen in
theorem TreeAt.upd (x : Kls) (g : List Ob) : TreeAt h t m (putC L x) (h.set m (mset .i64 c es x.iD (dkl x)) ++ g) := by
  obtain ⟨c', es', e, T'⟩ := mset_tree T .i64 c x
  have hm_l := hlt hm
  have ht_l := hlt ht
  have hne : m ≠ t := by rintro rfl; rw [ht] at hm; cases hm
  rw [e]
  refine ⟨⟨c', es', ?_, ?_, T'⟩, by simp, fun l hl hl2 => ?_⟩
  · rw [hgetA (by simpa using ht_l), hgetN hne]; exact ht
  · rw [hgetA (by simpa using hm_l), hgetS hm_l]
  · rw [hgetA (by simpa using hl), hgetN (Ne.symm hl2)]
omit hlen in
theorem hadd_ok (x : Kls) (N : Nat) (hN : N < 1000000) (hE : Ends L N x.parent) : MFn Tryz.prog 6 h [.ptr t 0 0 0, dkl x] (fun d h' => d = dint (addE L x (upF L N x.parent).length) ∧ TreeAt h t m (if addE L x (upF L N x.parent).length = 0 then putC L x else L) h') := by
  have hk := T.look x.iD
  have hk2 := T.look x.parent
  have hll := T.len
  have ht_l := hlt ht
  have hm_l := hlt hm
  obtain ⟨E, hE0⟩ : ∃ E, E = addE L x (upF L N x.parent).length := ⟨_, rfl⟩
  rw [← hE0]
  have bad : ∀ g : List Ob, E ≠ 0 → TreeAt h t m (if E = 0 then putC L x else L) (h ++ g) := fun g hne => by rw [if_neg hne]; exact TreeAt.same h t m c ht hm T g
  refine MFn_hx cx_ok 200 Tryz.func6 rfl Tryz.ntmps6 Tryz.results6 rfl fun base w pl hb => ?_
  have ht_l := hlt ht
  have hm_l := hlt hm
  simp only [go_sem, simprocAttr, hgetA, hgetL, hgetLk, hsetA, hsetL, hsetLk, List.length_append, List.length_set, List.append_assoc, List.set_set, ht, ht_l, hm, hm_l]
  refine kont_call hb fn16 rfl ?_ (sright_ok x) (Ret.flat rfl) rfl fun d h hR => ?_
  · simp only [go_sem, simprocAttr, hgetA, hgetL, hgetLk, hsetA, hsetL, hsetLk, List.length_append, List.length_set, List.append_assoc, List.set_set]
  obtain ⟨rfl, rfl⟩ := hR
  refine kont_of_hx cx_ok hb 200 ?_
  simp only [go_sem, simprocAttr, hgetA, hgetL, hgetLk, hsetA, hsetL, hsetLk, List.length_append, List.length_set, List.append_assoc, List.set_set]
  by_cases h0 : rightV x = 0
  case neg =>
    have e : E = rightV x := by rw [hE0, addE, if_pos h0]
    simp only [go_sem, simprocAttr, hgetA, hgetL, hgetLk, hsetA, hsetL, hsetLk, List.length_append, List.length_set, List.append_assoc, List.set_set, beqF h0, bne]
    exact ⟨by rw [e], bad _ (by rw [e]; exact h0)⟩
  simp only [go_sem, simprocAttr, hgetA, hgetL, hgetLk, hsetA, hsetL, hsetLk, List.length_append, List.length_set, List.append_assoc, List.set_set, beqT h0, bne]
  cases hf1 : findC L x.iD with
  | some y =>
    have e : E = 8 := by rw [hE0, addE, if_neg (by simpa using h0), if_pos (by simp [hf1])]
    rw [hf1, Option.map_some] at hk
    refine kont_hax cx_ok hb 200 mixed [(0, true), (1, true), (2, true), (3, true), (4, true), (5, true), (6, true), (7, true), (8, true), (9, true), (10, false), (11, false), (12, true)] (by kernel_rfl) (by kernel_rfl) ?_
    simp only [go_sem, simprocAttr, hgetA, hgetL, hgetLk, hsetA, hsetL, hsetLk, List.length_append, List.length_set, List.append_assoc, List.set_set, ht, hm, ht_l, hm_l, hk]
    cases hf2 : findC L x.parent with
    | none =>
      rw [hf2, Option.map_none] at hk2
      refine kont_hax cx_ok hb 200 mixed [(0, true), (1, true), (2, true), (3, true), (4, true), (5, true), (6, true), (7, true), (8, true), (9, true), (10, false), (11, false), (12, true)] (by kernel_rfl) (by kernel_rfl) ?_
      simp only [go_sem, simprocAttr, hgetA, hgetL, hgetLk, hsetA, hsetL, hsetLk, List.length_append, List.length_set, List.append_assoc, List.set_set, ht, hm, ht_l, hm_l, hk2]
      exact ⟨by rw [e], bad _ (by rw [e]; decide)⟩
    | some z =>
      rw [hf2, Option.map_some] at hk2
      refine kont_hax cx_ok hb 200 mixed [(0, true), (1, true), (2, true), (3, true), (4, true), (5, true), (6, true), (7, true), (8, true), (9, true), (10, false), (11, false), (12, true)] (by kernel_rfl) (by kernel_rfl) ?_
      simp only [go_sem, simprocAttr, hgetA, hgetL, hgetLk, hsetA, hsetL, hsetLk, List.length_append, List.length_set, List.append_assoc, List.set_set, ht, hm, ht_l, hm_l, hk2]
      exact ⟨by rw [e], bad _ (by rw [e]; decide)⟩
  | none =>
    rw [hf1, Option.map_none] at hk
    refine kont_hax cx_ok hb 200 mixed [(0, true), (1, true), (2, true), (3, true), (4, true), (5, true), (6, true), (7, true), (8, true), (9, true), (10, false), (11, false), (12, true)] (by kernel_rfl) (by kernel_rfl) ?_
    simp only [go_sem, simprocAttr, hgetA, hgetL, hgetLk, hsetA, hsetL, hsetLk, List.length_append, List.length_set, List.append_assoc, List.set_set, ht, hm, ht_l, hm_l, hk]
    have a1 : E = (if L.length = 64 then 5 else if (x.parent ≠ 0 ∧ (findC L x.parent).isNone) ∨ ((findC L x.parent).getD default).leaf = true then 23 else if 1 < ofI x.ls ∧ sharesC L x.parent = false then 29 else if (upF L N x.parent).length = 16 then 25 else 0) := by
      rw [hE0, addE, if_neg (by simpa using h0), if_neg (by simp [hf1])]
    by_cases h64 : L.length = 64
    · have e : E = 5 := by rw [a1, if_pos h64]
      have e64 : ((es.length : Int) == 64) = true := by simp; omega
      cases hf2 : findC L x.parent with
      | none =>
        rw [hf2, Option.map_none] at hk2
        refine kont_hax cx_ok hb 200 mixed [(0, true), (1, true), (2, true), (3, true), (4, true), (5, true), (6, true), (7, true), (8, true), (9, true), (10, false), (11, false), (12, true)] (by kernel_rfl) (by kernel_rfl) ?_
        simp only [go_sem, simprocAttr, hgetA, hgetL, hgetLk, hsetA, hsetL, hsetLk, List.length_append, List.length_set, List.append_assoc, List.set_set, ht, hm, ht_l, hm_l, hk2, e64]
        exact ⟨by rw [e], bad _ (by rw [e]; decide)⟩
      | some z =>
        rw [hf2, Option.map_some] at hk2
        refine kont_hax cx_ok hb 200 mixed [(0, true), (1, true), (2, true), (3, true), (4, true), (5, true), (6, true), (7, true), (8, true), (9, true), (10, false), (11, false), (12, true)] (by kernel_rfl) (by kernel_rfl) ?_
        simp only [go_sem, simprocAttr, hgetA, hgetL, hgetLk, hsetA, hsetL, hsetLk, List.length_append, List.length_set, List.append_assoc, List.set_set, ht, hm, ht_l, hm_l, hk2, e64]
        exact ⟨by rw [e], bad _ (by rw [e]; decide)⟩
    rw [if_neg h64] at a1
    have e64 : ((es.length : Int) == 64) = false := by simp; omega
    cases hf2 : findC L x.parent with
    | none =>
      rw [hf2, Option.map_none] at hk2
      by_cases hp0 : x.parent = 0
      · refine kont_hax cx_ok hb 200 mixed [(0, true), (1, true), (2, true), (3, true), (4, true), (5, true), (6, true), (7, true), (8, true), (9, true), (10, false), (11, false), (12, true)] (by kernel_rfl) (by kernel_rfl) ?_
        simp only [go_sem, simprocAttr, hgetA, hgetL, hgetLk, hsetA, hsetL, hsetLk, List.length_append, List.length_set, List.append_assoc, List.set_set, ht, hm, ht_l, hm_l, hk2, e64, beqT hp0, bne]
        have a2 : E = (if 1 < ofI x.ls ∧ sharesC L x.parent = false then 29 else if (upF L N x.parent).length = 16 then 25 else 0) := by rw [a1, if_neg (by rw [hf2]; rintro (⟨h1, _⟩ | h1); exact h1 hp0; cases h1)]
        refine kont_call hb fn17 rfl ?_ (sshares_ok x) (Ret.flat rfl) rfl fun d h hR => ?_
        · simp only [go_sem, simprocAttr, hgetA, hgetL, hgetLk, hsetA, hsetL, hsetLk, List.length_append, List.length_set, List.append_assoc, List.set_set]
        obtain ⟨rfl, rfl⟩ := hR
        refine kont_of_hx cx_ok hb 200 ?_
        simp only [go_sem, simprocAttr, hgetA, hgetL, hgetLk, hsetA, hsetL, hsetLk, List.length_append, List.length_set, List.append_assoc, List.set_set]
        cases hs1 : decide (1 < ofI x.ls)
        · simp only [go_sem, simprocAttr, hgetA, hgetL, hgetLk, hsetA, hsetL, hsetLk, List.length_append, List.length_set, List.append_assoc, List.set_set, Go.undef]
          refine kont_callR0 hb fn19 rfl ?_ (hdepth_ok _ t m c T (ro_app ht) (ro_app hm) x.parent N hN hE) rfl fun d hR => ?_
          · simp only [go_sem, simprocAttr, hgetA, hgetL, hgetLk, hsetA, hsetL, hsetLk, List.length_append, List.length_set, List.append_assoc, List.set_set]
          subst hR
          refine kont_of_hx cx_ok hb 200 ?_
          simp only [go_sem, simprocAttr, hgetA, hgetL, hgetLk, hsetA, hsetL, hsetLk, List.length_append, List.length_set, List.append_assoc, List.set_set]
          by_cases hd : (upF L N x.parent).length = 16
          · have e : E = 25 := by rw [a2, if_neg (by simp at hs1; omega), if_pos hd]
            have hd2 : (((upF L N x.parent).length : Int) == 16) = true := by simp; omega
            simp only [go_sem, simprocAttr, hgetA, hgetL, hgetLk, hsetA, hsetL, hsetLk, List.length_append, List.length_set, List.append_assoc, List.set_set, hd2]
            exact ⟨by rw [e], bad _ (by rw [e]; decide)⟩
          · have e : E = 0 := by rw [a2, if_neg (by simp at hs1; omega), if_neg hd]
            have hd2 : (((upF L N x.parent).length : Int) == 16) = false := by simp; omega
            simp only [go_sem, simprocAttr, hgetA, hgetL, hgetLk, hsetA, hsetL, hsetLk, List.length_append, List.length_set, List.append_assoc, List.set_set, hd2]
            refine kont_hax cx_ok hb 200 mixed [(0, true), (1, true), (2, true), (3, true), (4, true), (5, true), (6, true), (7, false)] (by kernel_rfl) (by kernel_rfl) ?_
            simp only [go_sem, simprocAttr, hgetA, hgetL, hgetLk, hsetA, hsetL, hsetLk, List.length_append, List.length_set, List.append_assoc, List.set_set, ht, hm, ht_l, hm_l]
            rw [if_pos e]
            exact ⟨by rw [e], TreeAt.upd h t m c T ht hm x _⟩
        · simp only [go_sem, simprocAttr, hgetA, hgetL, hgetLk, hsetA, hsetL, hsetLk, List.length_append, List.length_set, List.append_assoc, List.set_set, Go.undef]
          refine kont_callR0 hb fn18 rfl ?_ (hshares_ok _ t m c T (ro_app ht) (ro_app hm) x.parent) rfl fun d hR => ?_
          · simp only [go_sem, simprocAttr, hgetA, hgetL, hgetLk, hsetA, hsetL, hsetLk, List.length_append, List.length_set, List.append_assoc, List.set_set]
          subst hR
          refine kont_of_hx cx_ok hb 200 ?_
          simp only [go_sem, simprocAttr, hgetA, hgetL, hgetLk, hsetA, hsetL, hsetLk, List.length_append, List.length_set, List.append_assoc, List.set_set]
          cases hs2 : sharesC L x.parent
          · have e : E = 29 := by rw [a2, if_pos ⟨by simpa using hs1, hs2⟩]
            simp only [go_sem, simprocAttr, hgetA, hgetL, hgetLk, hsetA, hsetL, hsetLk, List.length_append, List.length_set, List.append_assoc, List.set_set, Go.undef]
            exact ⟨by rw [e], bad _ (by rw [e]; decide)⟩
          · simp only [go_sem, simprocAttr, hgetA, hgetL, hgetLk, hsetA, hsetL, hsetLk, List.length_append, List.length_set, List.append_assoc, List.set_set, Go.undef]
            refine kont_callR0 hb fn19 rfl ?_ (hdepth_ok _ t m c T (ro_app ht) (ro_app hm) x.parent N hN hE) rfl fun d hR => ?_
            · simp only [go_sem, simprocAttr, hgetA, hgetL, hgetLk, hsetA, hsetL, hsetLk, List.length_append, List.length_set, List.append_assoc, List.set_set]
            subst hR
            refine kont_of_hx cx_ok hb 200 ?_
            simp only [go_sem, simprocAttr, hgetA, hgetL, hgetLk, hsetA, hsetL, hsetLk, List.length_append, List.length_set, List.append_assoc, List.set_set]
            by_cases hd : (upF L N x.parent).length = 16
            · have e : E = 25 := by rw [a2, if_neg (by rw [hs2]; simp), if_pos hd]
              have hd2 : (((upF L N x.parent).length : Int) == 16) = true := by simp; omega
              simp only [go_sem, simprocAttr, hgetA, hgetL, hgetLk, hsetA, hsetL, hsetLk, List.length_append, List.length_set, List.append_assoc, List.set_set, hd2]
              exact ⟨by rw [e], bad _ (by rw [e]; decide)⟩
            · have e : E = 0 := by rw [a2, if_neg (by rw [hs2]; simp), if_neg hd]
              have hd2 : (((upF L N x.parent).length : Int) == 16) = false := by simp; omega
              simp only [go_sem, simprocAttr, hgetA, hgetL, hgetLk, hsetA, hsetL, hsetLk, List.length_append, List.length_set, List.append_assoc, List.set_set, hd2]
              refine kont_hax cx_ok hb 200 mixed [(0, true), (1, true), (2, true), (3, true), (4, true), (5, true), (6, true), (7, false)] (by kernel_rfl) (by kernel_rfl) ?_
              simp only [go_sem, simprocAttr, hgetA, hgetL, hgetLk, hsetA, hsetL, hsetLk, List.length_append, List.length_set, List.append_assoc, List.set_set, ht, hm, ht_l, hm_l]
              rw [if_pos e]
              exact ⟨by rw [e], TreeAt.upd h t m c T ht hm x _⟩
      · have e : E = 23 := by rw [a1, if_pos (.inl ⟨hp0, by simp [hf2]⟩)]
        refine kont_hax cx_ok hb 200 mixed [(0, true), (1, true), (2, true), (3, true), (4, true), (5, true), (6, true), (7, true), (8, true), (9, true), (10, false), (11, false), (12, true)] (by kernel_rfl) (by kernel_rfl) ?_
        simp only [go_sem, simprocAttr, hgetA, hgetL, hgetLk, hsetA, hsetL, hsetLk, List.length_append, List.length_set, List.append_assoc, List.set_set, ht, hm, ht_l, hm_l, hk2, e64, beqF hp0, bne]
        exact ⟨by rw [e], bad _ (by rw [e]; decide)⟩
    | some z =>
      rw [hf2, Option.map_some] at hk2
      cases hz : z.leaf with
      | true =>
        have e : E = 23 := by rw [a1, if_pos (.inr (by simp [hf2, hz]))]
        by_cases hp0 : x.parent = 0
        · refine kont_hax cx_ok hb 200 mixed [(0, true), (1, true), (2, true), (3, true), (4, true), (5, true), (6, true), (7, true), (8, true), (9, true), (10, false), (11, false), (12, true)] (by kernel_rfl) (by kernel_rfl) ?_
          simp only [go_sem, simprocAttr, hgetA, hgetL, hgetLk, hsetA, hsetL, hsetLk, List.length_append, List.length_set, List.append_assoc, List.set_set, ht, hm, ht_l, hm_l, hk2, e64, beqT hp0, bne, hz]
          exact ⟨by rw [e], bad _ (by rw [e]; decide)⟩
        · refine kont_hax cx_ok hb 200 mixed [(0, true), (1, true), (2, true), (3, true), (4, true), (5, true), (6, true), (7, true), (8, true), (9, true), (10, false), (11, false), (12, true)] (by kernel_rfl) (by kernel_rfl) ?_
          simp only [go_sem, simprocAttr, hgetA, hgetL, hgetLk, hsetA, hsetL, hsetLk, List.length_append, List.length_set, List.append_assoc, List.set_set, ht, hm, ht_l, hm_l, hk2, e64, beqF hp0, bne, hz]
          exact ⟨by rw [e], bad _ (by rw [e]; decide)⟩
      | false =>
        by_cases hp0 : x.parent = 0
        · refine kont_hax cx_ok hb 200 mixed [(0, true), (1, true), (2, true), (3, true), (4, true), (5, true), (6, true), (7, true), (8, true), (9, true), (10, false), (11, false), (12, true)] (by kernel_rfl) (by kernel_rfl) ?_
          simp only [go_sem, simprocAttr, hgetA, hgetL, hgetLk, hsetA, hsetL, hsetLk, List.length_append, List.length_set, List.append_assoc, List.set_set, ht, hm, ht_l, hm_l, hk2, e64, beqT hp0, bne, hz]
          have a2 : E = (if 1 < ofI x.ls ∧ sharesC L x.parent = false then 29 else if (upF L N x.parent).length = 16 then 25 else 0) := by rw [a1, if_neg (by rw [hf2]; rintro (⟨h1, _⟩ | h1); exact h1 hp0; exact absurd h1 (by simp [hz]))]
          refine kont_call hb fn17 rfl ?_ (sshares_ok x) (Ret.flat rfl) rfl fun d h hR => ?_
          · simp only [go_sem, simprocAttr, hgetA, hgetL, hgetLk, hsetA, hsetL, hsetLk, List.length_append, List.length_set, List.append_assoc, List.set_set]
          obtain ⟨rfl, rfl⟩ := hR
          refine kont_of_hx cx_ok hb 200 ?_
          simp only [go_sem, simprocAttr, hgetA, hgetL, hgetLk, hsetA, hsetL, hsetLk, List.length_append, List.length_set, List.append_assoc, List.set_set]
          cases hs1 : decide (1 < ofI x.ls)
          · simp only [go_sem, simprocAttr, hgetA, hgetL, hgetLk, hsetA, hsetL, hsetLk, List.length_append, List.length_set, List.append_assoc, List.set_set, Go.undef]
            refine kont_callR0 hb fn19 rfl ?_ (hdepth_ok _ t m c T (ro_app ht) (ro_app hm) x.parent N hN hE) rfl fun d hR => ?_
            · simp only [go_sem, simprocAttr, hgetA, hgetL, hgetLk, hsetA, hsetL, hsetLk, List.length_append, List.length_set, List.append_assoc, List.set_set]
            subst hR
            refine kont_of_hx cx_ok hb 200 ?_
            simp only [go_sem, simprocAttr, hgetA, hgetL, hgetLk, hsetA, hsetL, hsetLk, List.length_append, List.length_set, List.append_assoc, List.set_set]
            by_cases hd : (upF L N x.parent).length = 16
            · have e : E = 25 := by rw [a2, if_neg (by simp at hs1; omega), if_pos hd]
              have hd2 : (((upF L N x.parent).length : Int) == 16) = true := by simp; omega
              simp only [go_sem, simprocAttr, hgetA, hgetL, hgetLk, hsetA, hsetL, hsetLk, List.length_append, List.length_set, List.append_assoc, List.set_set, hd2]
              exact ⟨by rw [e], bad _ (by rw [e]; decide)⟩
            · have e : E = 0 := by rw [a2, if_neg (by simp at hs1; omega), if_neg hd]
              have hd2 : (((upF L N x.parent).length : Int) == 16) = false := by simp; omega
              simp only [go_sem, simprocAttr, hgetA, hgetL, hgetLk, hsetA, hsetL, hsetLk, List.length_append, List.length_set, List.append_assoc, List.set_set, hd2]
              refine kont_hax cx_ok hb 200 mixed [(0, true), (1, true), (2, true), (3, true), (4, true), (5, true), (6, true), (7, false)] (by kernel_rfl) (by kernel_rfl) ?_
              simp only [go_sem, simprocAttr, hgetA, hgetL, hgetLk, hsetA, hsetL, hsetLk, List.length_append, List.length_set, List.append_assoc, List.set_set, ht, hm, ht_l, hm_l]
              rw [if_pos e]
              exact ⟨by rw [e], TreeAt.upd h t m c T ht hm x _⟩
          · simp only [go_sem, simprocAttr, hgetA, hgetL, hgetLk, hsetA, hsetL, hsetLk, List.length_append, List.length_set, List.append_assoc, List.set_set, Go.undef]
            refine kont_callR0 hb fn18 rfl ?_ (hshares_ok _ t m c T (ro_app ht) (ro_app hm) x.parent) rfl fun d hR => ?_
            · simp only [go_sem, simprocAttr, hgetA, hgetL, hgetLk, hsetA, hsetL, hsetLk, List.length_append, List.length_set, List.append_assoc, List.set_set]
            subst hR
            refine kont_of_hx cx_ok hb 200 ?_
            simp only [go_sem, simprocAttr, hgetA, hgetL, hgetLk, hsetA, hsetL, hsetLk, List.length_append, List.length_set, List.append_assoc, List.set_set]
            cases hs2 : sharesC L x.parent
            · have e : E = 29 := by rw [a2, if_pos ⟨by simpa using hs1, hs2⟩]
              simp only [go_sem, simprocAttr, hgetA, hgetL, hgetLk, hsetA, hsetL, hsetLk, List.length_append, List.length_set, List.append_assoc, List.set_set, Go.undef]
              exact ⟨by rw [e], bad _ (by rw [e]; decide)⟩
            · simp only [go_sem, simprocAttr, hgetA, hgetL, hgetLk, hsetA, hsetL, hsetLk, List.length_append, List.length_set, List.append_assoc, List.set_set, Go.undef]
              refine kont_callR0 hb fn19 rfl ?_ (hdepth_ok _ t m c T (ro_app ht) (ro_app hm) x.parent N hN hE) rfl fun d hR => ?_
              · simp only [go_sem, simprocAttr, hgetA, hgetL, hgetLk, hsetA, hsetL, hsetLk, List.length_append, List.length_set, List.append_assoc, List.set_set]
              subst hR
              refine kont_of_hx cx_ok hb 200 ?_
              simp only [go_sem, simprocAttr, hgetA, hgetL, hgetLk, hsetA, hsetL, hsetLk, List.length_append, List.length_set, List.append_assoc, List.set_set]
              by_cases hd : (upF L N x.parent).length = 16
              · have e : E = 25 := by rw [a2, if_neg (by rw [hs2]; simp), if_pos hd]
                have hd2 : (((upF L N x.parent).length : Int) == 16) = true := by simp; omega
                simp only [go_sem, simprocAttr, hgetA, hgetL, hgetLk, hsetA, hsetL, hsetLk, List.length_append, List.length_set, List.append_assoc, List.set_set, hd2]
                exact ⟨by rw [e], bad _ (by rw [e]; decide)⟩
              · have e : E = 0 := by rw [a2, if_neg (by rw [hs2]; simp), if_neg hd]
                have hd2 : (((upF L N x.parent).length : Int) == 16) = false := by simp; omega
                simp only [go_sem, simprocAttr, hgetA, hgetL, hgetLk, hsetA, hsetL, hsetLk, List.length_append, List.length_set, List.append_assoc, List.set_set, hd2]
                refine kont_hax cx_ok hb 200 mixed [(0, true), (1, true), (2, true), (3, true), (4, true), (5, true), (6, true), (7, false)] (by kernel_rfl) (by kernel_rfl) ?_
                simp only [go_sem, simprocAttr, hgetA, hgetL, hgetLk, hsetA, hsetL, hsetLk, List.length_append, List.length_set, List.append_assoc, List.set_set, ht, hm, ht_l, hm_l]
                rw [if_pos e]
                exact ⟨by rw [e], TreeAt.upd h t m c T ht hm x _⟩
        · refine kont_hax cx_ok hb 200 mixed [(0, true), (1, true), (2, true), (3, true), (4, true), (5, true), (6, true), (7, true), (8, true), (9, true), (10, false), (11, false), (12, true)] (by kernel_rfl) (by kernel_rfl) ?_
          simp only [go_sem, simprocAttr, hgetA, hgetL, hgetLk, hsetA, hsetL, hsetLk, List.length_append, List.length_set, List.append_assoc, List.set_set, ht, hm, ht_l, hm_l, hk2, e64, beqF hp0, bne, hz]
          have a2 : E = (if 1 < ofI x.ls ∧ sharesC L x.parent = false then 29 else if (upF L N x.parent).length = 16 then 25 else 0) := by rw [a1, if_neg (by simp [hf2, hz])]
          refine kont_call hb fn17 rfl ?_ (sshares_ok x) (Ret.flat rfl) rfl fun d h hR => ?_
          · simp only [go_sem, simprocAttr, hgetA, hgetL, hgetLk, hsetA, hsetL, hsetLk, List.length_append, List.length_set, List.append_assoc, List.set_set]
          obtain ⟨rfl, rfl⟩ := hR
          refine kont_of_hx cx_ok hb 200 ?_
          simp only [go_sem, simprocAttr, hgetA, hgetL, hgetLk, hsetA, hsetL, hsetLk, List.length_append, List.length_set, List.append_assoc, List.set_set]
          cases hs1 : decide (1 < ofI x.ls)
          · simp only [go_sem, simprocAttr, hgetA, hgetL, hgetLk, hsetA, hsetL, hsetLk, List.length_append, List.length_set, List.append_assoc, List.set_set, Go.undef]
            refine kont_callR0 hb fn19 rfl ?_ (hdepth_ok _ t m c T (ro_app ht) (ro_app hm) x.parent N hN hE) rfl fun d hR => ?_
            · simp only [go_sem, simprocAttr, hgetA, hgetL, hgetLk, hsetA, hsetL, hsetLk, List.length_append, List.length_set, List.append_assoc, List.set_set]
            subst hR
            refine kont_of_hx cx_ok hb 200 ?_
            simp only [go_sem, simprocAttr, hgetA, hgetL, hgetLk, hsetA, hsetL, hsetLk, List.length_append, List.length_set, List.append_assoc, List.set_set]
            by_cases hd : (upF L N x.parent).length = 16
            · have e : E = 25 := by rw [a2, if_neg (by simp at hs1; omega), if_pos hd]
              have hd2 : (((upF L N x.parent).length : Int) == 16) = true := by simp; omega
              simp only [go_sem, simprocAttr, hgetA, hgetL, hgetLk, hsetA, hsetL, hsetLk, List.length_append, List.length_set, List.append_assoc, List.set_set, hd2]
              exact ⟨by rw [e], bad _ (by rw [e]; decide)⟩
            · have e : E = 0 := by rw [a2, if_neg (by simp at hs1; omega), if_neg hd]
              have hd2 : (((upF L N x.parent).length : Int) == 16) = false := by simp; omega
              simp only [go_sem, simprocAttr, hgetA, hgetL, hgetLk, hsetA, hsetL, hsetLk, List.length_append, List.length_set, List.append_assoc, List.set_set, hd2]
              refine kont_hax cx_ok hb 200 mixed [(0, true), (1, true), (2, true), (3, true), (4, true), (5, true), (6, true), (7, false)] (by kernel_rfl) (by kernel_rfl) ?_
              simp only [go_sem, simprocAttr, hgetA, hgetL, hgetLk, hsetA, hsetL, hsetLk, List.length_append, List.length_set, List.append_assoc, List.set_set, ht, hm, ht_l, hm_l]
              rw [if_pos e]
              exact ⟨by rw [e], TreeAt.upd h t m c T ht hm x _⟩
          · simp only [go_sem, simprocAttr, hgetA, hgetL, hgetLk, hsetA, hsetL, hsetLk, List.length_append, List.length_set, List.append_assoc, List.set_set, Go.undef]
            refine kont_callR0 hb fn18 rfl ?_ (hshares_ok _ t m c T (ro_app ht) (ro_app hm) x.parent) rfl fun d hR => ?_
            · simp only [go_sem, simprocAttr, hgetA, hgetL, hgetLk, hsetA, hsetL, hsetLk, List.length_append, List.length_set, List.append_assoc, List.set_set]
            subst hR
            refine kont_of_hx cx_ok hb 200 ?_
            simp only [go_sem, simprocAttr, hgetA, hgetL, hgetLk, hsetA, hsetL, hsetLk, List.length_append, List.length_set, List.append_assoc, List.set_set]
            cases hs2 : sharesC L x.parent
            · have e : E = 29 := by rw [a2, if_pos ⟨by simpa using hs1, hs2⟩]
              simp only [go_sem, simprocAttr, hgetA, hgetL, hgetLk, hsetA, hsetL, hsetLk, List.length_append, List.length_set, List.append_assoc, List.set_set, Go.undef]
              exact ⟨by rw [e], bad _ (by rw [e]; decide)⟩
            · simp only [go_sem, simprocAttr, hgetA, hgetL, hgetLk, hsetA, hsetL, hsetLk, List.length_append, List.length_set, List.append_assoc, List.set_set, Go.undef]
              refine kont_callR0 hb fn19 rfl ?_ (hdepth_ok _ t m c T (ro_app ht) (ro_app hm) x.parent N hN hE) rfl fun d hR => ?_
              · simp only [go_sem, simprocAttr, hgetA, hgetL, hgetLk, hsetA, hsetL, hsetLk, List.length_append, List.length_set, List.append_assoc, List.set_set]
              subst hR
              refine kont_of_hx cx_ok hb 200 ?_
              simp only [go_sem, simprocAttr, hgetA, hgetL, hgetLk, hsetA, hsetL, hsetLk, List.length_append, List.length_set, List.append_assoc, List.set_set]
              by_cases hd : (upF L N x.parent).length = 16
              · have e : E = 25 := by rw [a2, if_neg (by rw [hs2]; simp), if_pos hd]
                have hd2 : (((upF L N x.parent).length : Int) == 16) = true := by simp; omega
                simp only [go_sem, simprocAttr, hgetA, hgetL, hgetLk, hsetA, hsetL, hsetLk, List.length_append, List.length_set, List.append_assoc, List.set_set, hd2]
                exact ⟨by rw [e], bad _ (by rw [e]; decide)⟩
              · have e : E = 0 := by rw [a2, if_neg (by rw [hs2]; simp), if_neg hd]
                have hd2 : (((upF L N x.parent).length : Int) == 16) = false := by simp; omega
                simp only [go_sem, simprocAttr, hgetA, hgetL, hgetLk, hsetA, hsetL, hsetLk, List.length_append, List.length_set, List.append_assoc, List.set_set, hd2]
                refine kont_hax cx_ok hb 200 mixed [(0, true), (1, true), (2, true), (3, true), (4, true), (5, true), (6, true), (7, false)] (by kernel_rfl) (by kernel_rfl) ?_
                simp only [go_sem, simprocAttr, hgetA, hgetL, hgetLk, hsetA, hsetL, hsetLk, List.length_append, List.length_set, List.append_assoc, List.set_set, ht, hm, ht_l, hm_l]
                rw [if_pos e]
                exact ⟨by rw [e], TreeAt.upd h t m c T ht hm x _⟩
end
end Go.Fg.X
namespace Go.Fg.X
open Go.Proofs Go.Fg
set_option maxRecDepth 100000
set_option maxHeartbeats 4000000
set_option linter.unusedSimpArgs false
set_option linter.unusedVariables false
def delE (L : List Kls) (id : Int) : Int := if (findC L id).isNone then 6 else if childC L id ≠ [] then 23 else 0
section
variable (h : List Ob) (t m c : Nat) {es : List Ent} {L : List Kls} (T : TreeIs es L) (hlen : L.length < 1000000)
  (ht : h[t]? = some ⟨.one, 0, 1, 1, fun _ => [.mref m 0]⟩) (hm : h[m]? = some (mapOb .i64 c es))
include T ht hm hlen
omit hlen T in
theorem TreeAt.put {c' : Nat} {es' : List Ent} {L' : List Kls} (T' : TreeIs es' L') (g : List Ob) : TreeAt h t m L' (h.set m (mapOb .i64 c' es') ++ g) := by
  have hm_l := hlt hm
  have ht_l := hlt ht
  have hne : m ≠ t := by rintro rfl; rw [ht] at hm; cases hm
  refine ⟨⟨c', es', ?_, ?_, T'⟩, by simp, fun l hl hl2 => ?_⟩
  · rw [hgetA (by simpa using ht_l), hgetN hne]; exact ht
  · rw [hgetA (by simpa using hm_l), hgetS hm_l]
  · rw [hgetA (by simpa using hl), hgetN (Ne.symm hl2)]
theorem hdel_ok (id : Int) : MFn Tryz.prog 7 h [.ptr t 0 0 0, dint id] (fun d h' => d = dint (delE L id) ∧ TreeAt h t m (if delE L id = 0 then delC L id else L) h') := by
  have hk := T.look id
  have ht_l := hlt ht
  have hm_l := hlt hm
  obtain ⟨E, hE0⟩ : ∃ E, E = delE L id := ⟨_, rfl⟩
  rw [← hE0]
  have bad : ∀ g : List Ob, E ≠ 0 → TreeAt h t m (if E = 0 then delC L id else L) (h ++ g) := fun g hne => by rw [if_neg hne]; exact TreeAt.same h t m c ht hm T g
  cases hf : findC L id with
  | none =>
    have e : E = 6 := by rw [hE0, delE, if_pos (by simp [hf])]
    rw [hf, Option.map_none] at hk
    refine MFn_hx cx_ok 200 Tryz.func7 rfl Tryz.ntmps7 Tryz.results7 rfl fun base w pl hb => ?_
    have ht_l := hlt ht
    have hm_l := hlt hm
    simp only [go_sem, simprocAttr, hgetA, hgetL, hgetLk, hsetA, hsetL, hsetLk, List.length_append, List.length_set, List.append_assoc, List.set_set, ht, ht_l, hm, hm_l, hk]
    exact ⟨by rw [e], bad _ (by rw [e]; decide)⟩
  | some x =>
    rw [hf, Option.map_some] at hk
    have a1 : E = if childC L id ≠ [] then 23 else 0 := by rw [hE0, delE, if_neg (by simp [hf])]
    refine MFn_hx cx_ok 200 Tryz.func7 rfl Tryz.ntmps7 Tryz.results7 rfl fun base w pl hb => ?_
    have ht_l := hlt ht
    have hm_l := hlt hm
    simp only [go_sem, simprocAttr, hgetA, hgetL, hgetLk, hsetA, hsetL, hsetLk, List.length_append, List.length_set, List.append_assoc, List.set_set, ht, ht_l, hm, hm_l, hk]
    refine kont_callR hb fn20 rfl ?_ (hchildren_ok _ t m c T hlen (ro_app ht) (ro_app hm) id) rfl fun d g hs => ?_
    · simp only [go_sem, simprocAttr]
    rcases hs with ⟨rfl, h0⟩ | ⟨lo, gn, off, row, rfl, hlo, ho, hr⟩
    · have e : E = 0 := by rw [a1, if_neg (by simp [h0])]
      refine kont_of_hx cx_ok hb 200 ?_
      simp only [go_sem, simprocAttr, hgetA, hgetL, hgetLk, hsetA, hsetL, hsetLk, List.length_append, List.length_set, List.append_assoc, List.set_set, ht, hm, ht_l, hm_l]
      rw [if_pos e]
      exact ⟨by rw [e], TreeAt.put h t m c ht hm (adel_tree T id) _⟩
    · have ho_l := hlt ho
      refine kont_of_hx cx_ok hb 200 ?_
      by_cases h0 : childC L id = []
      · have e : E = 0 := by rw [a1, if_neg (by simp [h0])]
        simp only [go_sem, simprocAttr, hgetA, hgetL, hgetLk, hsetA, hsetL, hsetLk, List.length_append, List.length_set, List.append_assoc, List.set_set, ht, hm, ht_l, hm_l, ho, ho_l, h0]
        rw [if_pos e]
        exact ⟨by rw [e], TreeAt.put h t m c ht hm (adel_tree T id) _⟩
      · have e : E = 23 := by rw [a1, if_pos h0]
        have hpos : 0 < (childC L id).length := List.length_pos_iff.2 h0
        have hpi : (0 : Int) < ((childC L id).length : Int) := by omega
        simp only [go_sem, simprocAttr, hgetA, hgetL, hgetLk, hsetA, hsetL, hsetLk, List.length_append, List.length_set, List.append_assoc, List.set_set, ht, hm, ht_l, hm_l, ho, ho_l, hpi, decide_eq_true hpi]
        exact ⟨by rw [e], bad _ (by rw [e]; decide)⟩
end
end Go.Fg.X
namespace Go.Fg.X
open Go.Proofs Go.Fg
set_option maxRecDepth 100000
set_option maxHeartbeats 4000000
set_option linter.unusedSimpArgs false
set_option linter.unusedVariables false
theorem roro_map (h : List Ob) : (h.map Ob.ro).map Ob.ro = h.map Ob.ro := by rw [List.map_map]; exact List.map_congr_left fun o _ => ro_ro o
/-- What a function value tells of a number, whatever is lent to it. -/
def TellsI (F : List Ob) (f nf : Nat) (caps : List D) (g : Int → Bool) : Prop := ∀ (h : List Ob) (n : Int), ExtF F h → RFn0 Tryz.prog f h (argsD nf caps [dint n]) (fun d => d = dbool (g n))
def firstI (g : Int → Bool) (l : List Int) : Int := match l.findIdx? g with
  | some i => i
  | none => -1
theorem firstI_at {g : Int → Bool} {l : List Int} {k : Nat} (hk : k < l.length) (h : ∀ i, i < k → g (l.getD i 0) = false) (hg : g (l.getD k 0) = true) : firstI g l = k := by
  have e : l.findIdx? g = some k := by
    rw [List.findIdx?_eq_some_iff_getElem]
    refine ⟨hk, by simpa [List.getD_eq_getElem?_getD, hk] using hg, fun i hi => ?_⟩
    have := h i hi
    simpa [List.getD_eq_getElem?_getD, show i < l.length by omega] using this
  rw [firstI, e]
theorem firstI_none {g : Int → Bool} {l : List Int} (h : ∀ i, i < l.length → g (l.getD i 0) = false) : firstI g l = -1 := by
  have e : l.findIdx? g = none := by
    rw [List.findIdx?_eq_none_iff]
    intro x hx
    obtain ⟨i, hi, rfl⟩ := List.getElem_of_mem hx
    have := h i hi
    simpa [List.getD_eq_getElem?_getD, hi] using this
  rw [firstI, e]
section
variable (h : List Ob) (l : List Int) (lo gn off : Nat) (row : Nat → List D) (hlen : l.length < 1000000) (ho : (h.map Ob.ro)[lo]? = some ⟨.rarr, gn, 1, off + l.length, row⟩) (hr : ∀ i, i < l.length → row (off + i) = [dint (l.getD i 0)])
include hlen ho hr
theorem indexFunc_ok (so : D) (f nf : Nat) (caps : List D) (hf : FnOk Tryz.prog f) (hso : calleeD so = some (f, nf, caps)) (gk : Int → Bool) (hg : TellsI (h.map Ob.ro) f nf caps gk) :
    RFn0 Tryz.prog 48 h [.ref lo gn off l.length, so] (fun d => d = dint (firstI gk l)) := by
  refine RFn0_hx cx_ok 200 Tryz.func48 rfl Tryz.ntmps48 Tryz.results48 rfl fun base w pl F hF hFl hb => ?_
  rw [← hF] at ho
  have ho_l := hlt ho
  simp only [go_sem, simprocAttr, hgetA, hgetL, hgetLk, hsetA, hsetL, hsetLk, List.length_append, List.length_set, List.append_assoc, List.set_set, ho, ho_l]
  refine kont_for (fun k s => (∀ i, i < k → gk (l.getD i 0) = false) ∧ s = ⟨[(0, .ref lo gn off l.length), (1, so), (7, dint l.length), (8, dint k)], F⟩) l.length (Weak.frame (by simp only [go_sem, simprocAttr])) ⟨fun i hi => absurd hi (by omega), rfl⟩ ?_
  rintro k s hk ⟨hn, rfl⟩
  refine kont_of_hx cx_ok hb 200 ?_
  simp only [go_sem, simprocAttr, hgetA, hgetL, hgetLk, hsetA, hsetL, hsetLk, List.length_append, List.length_set, List.append_assoc, List.set_set]
  have ho_l := hlt ho
  have hwr := wrap_succ (show k < 4611686018427387904 by omega)
  first | refine hite_lt hk (fun hk1 => ?_) (fun hk1 => ?_) | refine hite_ltI hk (fun hk1 => ?_) (fun hk1 => ?_)
  · have hrk := hr k hk1
    have hk3 : off + k < off + l.length := by omega
    simp only [go_sem, simprocAttr, hgetA, hgetL, hgetLk, hsetA, hsetL, hsetLk, List.length_append, List.length_set, List.append_assoc, List.set_set, ho, ho_l, hk1, hrk, hk3]
    refine kont_callR0 hb hf hso ?_ (hg F (l.getD k 0) (by rw [← hF]; exact ExtF.refl F)) rfl fun d2 hR => ?_
    · simp only [go_sem, simprocAttr]
      exact argsEq_refl _
    subst hR
    refine kont_of_hx cx_ok hb 200 ?_
    cases hgk : gk (l.getD k 0)
    · simp only [go_sem, simprocAttr, hgetA, hgetL, hgetLk, hsetA, hsetL, hsetLk, List.length_append, List.length_set, List.append_assoc, List.set_set]
      refine ⟨hk1, _, Weak.frame (by simp only [go_sem, simprocAttr, hwr]), fun i hi => ?_, rfl⟩
      by_cases h1 : i < k
      · exact hn i h1
      · have : i = k := by omega
        subst this; exact hgk
    · rw [firstI_at hk1 hn hgk]
      simp only [go_sem, simprocAttr, hgetA, hgetL, hgetLk, hsetA, hsetL, hsetLk, List.length_append, List.length_set, List.append_assoc, List.set_set]
      exact ⟨[], (List.append_nil F).symm⟩
  · have hk1 : k = l.length := by omega
    subst hk1
    simp only [go_sem, simprocAttr, Nat.lt_irrefl]
    rw [firstI_none hn]
    refine kont_of_hx cx_ok hb 200 ?_
    simp only [go_sem, simprocAttr, hgetA, hgetL, hgetLk, hsetA, hsetL, hsetLk, List.length_append, List.length_set, List.append_assoc, List.set_set]
    exact ⟨[], (List.append_nil F).symm⟩
theorem containsFunc_ok (so : D) (f nf : Nat) (caps : List D) (hf : FnOk Tryz.prog f) (hso : calleeD so = some (f, nf, caps)) (gk : Int → Bool) (hg : TellsI (h.map Ob.ro) f nf caps gk) :
    RFn0 Tryz.prog 22 h [.ref lo gn off l.length, so] (fun d => d = dbool (decide (0 ≤ firstI gk l))) := by
  refine RFn0_hx cx_ok 200 Tryz.func22 rfl Tryz.ntmps22 Tryz.results22 rfl fun base w pl F hF hFl hb => ?_
  rw [← hF] at ho
  have ho_l := hlt ho
  simp only [go_sem, simprocAttr, hgetA, hgetL, hgetLk, hsetA, hsetL, hsetLk, List.length_append, List.length_set, List.append_assoc, List.set_set, ho, ho_l]
  refine kont_callR0 hb fn48 rfl ?_ (indexFunc_ok F l lo gn off row hlen (ro_get ho) hr so f nf caps hf hso gk (fun h' n hx => ?_)) rfl fun d2 hR => ?_
  · simp only [go_sem, simprocAttr]
    exact argEq_refl so
  · rw [hF, roro_map] at hx
    exact hg h' n hx
  subst hR
  refine kont_of_hx cx_ok hb 200 ?_
  simp only [go_sem, simprocAttr, hgetA, hgetL, hgetLk, hsetA, hsetL, hsetLk, List.length_append, List.length_set, List.append_assoc, List.set_set]
  exact ⟨[], (List.append_nil F).symm⟩
end
theorem indexFuncN_ok (h : List Ob) (so : D) : RFn0 Tryz.prog 48 h [.nil, so] (fun d => d = dint (-1)) := by
  refine RFn0_hx cx_ok 200 Tryz.func48 rfl Tryz.ntmps48 Tryz.results48 rfl fun base w pl F hF hFl hb => ?_
  simp only [go_sem, simprocAttr, hgetA, hgetL, hgetLk, hsetA, hsetL, hsetLk, List.length_append, List.length_set, List.append_assoc, List.set_set]
  refine kont_for (fun k s => s = ⟨[(7, dint 0), (8, dint 0)], F⟩) 0 (Weak.frame (by simp only [go_sem, simprocAttr])) rfl ?_
  rintro k s hk rfl
  refine kont_of_hx cx_ok hb 200 ?_
  simp only [go_sem, simprocAttr, hgetA, hgetL, hgetLk, hsetA, hsetL, hsetLk, List.length_append, List.length_set, List.append_assoc, List.set_set]
  refine kont_of_hx cx_ok hb 200 ?_
  simp only [go_sem, simprocAttr, hgetA, hgetL, hgetLk, hsetA, hsetL, hsetLk, List.length_append, List.length_set, List.append_assoc, List.set_set]
  exact ⟨[], (List.append_nil F).symm⟩
theorem containsFuncN_ok (h : List Ob) (so : D) : RFn0 Tryz.prog 22 h [.nil, so] (fun d => d = dbool false) := by
  refine RFn0_hx cx_ok 200 Tryz.func22 rfl Tryz.ntmps22 Tryz.results22 rfl fun base w pl F hF hFl hb => ?_
  simp only [go_sem, simprocAttr, hgetA, hgetL, hgetLk, hsetA, hsetL, hsetLk, List.length_append, List.length_set, List.append_assoc, List.set_set]
  refine kont_callR0 hb fn48 rfl ?_ (indexFuncN_ok F so) rfl fun d2 hR => ?_
  · simp only [go_sem, simprocAttr]
    exact argEq_refl so
  subst hR
  refine kont_of_hx cx_ok hb 200 ?_
  simp only [go_sem, simprocAttr, hgetA, hgetL, hgetLk, hsetA, hsetL, hsetLk, List.length_append, List.length_set, List.append_assoc, List.set_set]
  exact ⟨[], (List.append_nil F).symm⟩
theorem firstI_any (g : Int → Bool) (l : List Int) : decide (0 ≤ firstI g l) = l.any g := by
  unfold firstI
  cases h : l.findIdx? g with
  | some i =>
    have := List.findIdx?_eq_some_iff_getElem.1 h
    obtain ⟨h1, h2, _⟩ := this
    have e : l.any g = true := List.any_eq_true.2 ⟨_, List.getElem_mem h1, h2⟩
    rw [e]; simp
  | none =>
    have := List.findIdx?_eq_none_iff.1 h
    have e : l.any g = false := by rw [List.any_eq_false]; intro x hx; simp [this x hx]
    rw [e]; decide
end Go.Fg.X
namespace Go.Fg.X
open Go.Proofs Go.Fg
set_option maxRecDepth 100000
set_option maxHeartbeats 4000000
set_option linter.unusedSimpArgs false
set_option linter.unusedVariables false
def sharing (L : List Kls) (id : Int) : Bool := decide (1 < ofI ((findC L id).getD default).ls)
def setE (L : List Kls) (x : Kls) : Int :=
  if rightV x ≠ 0 then rightV x
  else if (findC L x.iD).isNone then 6
  else if x.parent ≠ ((findC L x.iD).getD default).parent ∨ x.leaf ≠ ((findC L x.iD).getD default).leaf then 1
  else if (1 < ofI x.ls ∧ sharesC L x.parent = false) ∨ (¬ 1 < ofI x.ls ∧ (childC L x.iD).any (sharing L) = true) then 29
  else 0
section
variable (h : List Ob) (t m c tb : Nat) {es : List Ent} {L : List Kls} (T : TreeIs es L)
  (ht : (h.map Ob.ro)[t]? = some ⟨.rone, 0, 1, 1, fun _ => [.mref m 0]⟩) (hm : (h.map Ob.ro)[m]? = some (mapOb .i64 c es).ro)
  (hb0 : (h.map Ob.ro)[tb]? = some ⟨.rone, 0, 1, 1, fun _ => [.ptr t 0 0 0]⟩)
include T ht hm hb0
theorem hset1_ok (id : Int) : RFn0 Tryz.prog 21 h [dint id, .ptr tb 0 0 0] (fun d => d = dbool (sharing L id)) := by
  have hk := T.look id
  unfold sharing
  cases hf : findC L id with
  | none =>
    rw [hf, Option.map_none] at hk
    refine RFn0_hx cx_ok 200 Tryz.func21 rfl Tryz.ntmps21 Tryz.results21 rfl fun base w pl F hF hFl hb => ?_
    rw [← hF] at ht hm hb0
    have ht_l := hlt ht
    have hm_l := hlt hm
    have hb0_l := hlt hb0
    simp only [go_sem, simprocAttr, hgetA, hgetL, hgetLk, hsetA, hsetL, hsetLk, List.length_append, List.length_set, List.append_assoc, List.set_set, ht, ht_l, hm, hm_l, hb0, hb0_l, hk]
    refine kont_call hb fn17 rfl ?_ (sshares_ok ⟨0, 0, false, ⟨0, 0, 0⟩, ⟨0, 0, 0⟩, ⟨0, 0, 0⟩, 0, 0⟩) (Ret.flat rfl) rfl fun d h hR => ?_
    · simp only [go_sem, simprocAttr, hgetA, hgetL, hgetLk, hsetA, hsetL, hsetLk, List.length_append, List.length_set, List.append_assoc, List.set_set]
    obtain ⟨rfl, rfl⟩ := hR
    refine kont_of_hx cx_ok hb 200 ?_
    simp only [go_sem, simprocAttr, hgetA, hgetL, hgetLk, hsetA, hsetL, hsetLk, List.length_append, List.length_set, List.append_assoc, List.set_set]
    exact ⟨[], (List.append_nil F).symm, rfl⟩
  | some x =>
    rw [hf, Option.map_some] at hk
    refine RFn0_hx cx_ok 200 Tryz.func21 rfl Tryz.ntmps21 Tryz.results21 rfl fun base w pl F hF hFl hb => ?_
    rw [← hF] at ht hm hb0
    have ht_l := hlt ht
    have hm_l := hlt hm
    have hb0_l := hlt hb0
    simp only [go_sem, simprocAttr, hgetA, hgetL, hgetLk, hsetA, hsetL, hsetLk, List.length_append, List.length_set, List.append_assoc, List.set_set, ht, ht_l, hm, hm_l, hb0, hb0_l, hk]
    refine kont_call hb fn17 rfl ?_ (sshares_ok x) (Ret.flat rfl) rfl fun d h hR => ?_
    · simp only [go_sem, simprocAttr, hgetA, hgetL, hgetLk, hsetA, hsetL, hsetLk, List.length_append, List.length_set, List.append_assoc, List.set_set]
    obtain ⟨rfl, rfl⟩ := hR
    refine kont_of_hx cx_ok hb 200 ?_
    simp only [go_sem, simprocAttr, hgetA, hgetL, hgetLk, hsetA, hsetL, hsetLk, List.length_append, List.length_set, List.append_assoc, List.set_set]
    exact ⟨[], by simp⟩
end
section
variable (h : List Ob) (t m c : Nat) {es : List Ent} {L : List Kls} (T : TreeIs es L) (hlen : L.length < 1000000)
  (ht : h[t]? = some ⟨.one, 0, 1, 1, fun _ => [.mref m 0]⟩) (hm : h[m]? = some (mapOb .i64 c es))
include T ht hm hlen
theorem hset_ok (x : Kls) : MFn Tryz.prog 8 h [.ptr t 0 0 0, dkl x] (fun d h' => d = dint (setE L x) ∧ TreeAt h t m (if setE L x = 0 then putC L x else L) h') := by
  have hk := T.look x.iD
  have ht_l := hlt ht
  have hm_l := hlt hm
  obtain ⟨E, hE0⟩ : ∃ E, E = setE L x := ⟨_, rfl⟩
  rw [← hE0]
  have bad : ∀ g : List Ob, E ≠ 0 → TreeAt h t m (if E = 0 then putC L x else L) (h ++ g) := fun g hne => by rw [if_neg hne]; exact TreeAt.same h t m c ht hm T g
  refine MFn_hx cx_ok 200 Tryz.func8 rfl Tryz.ntmps8 Tryz.results8 rfl fun base w pl hb => ?_
  have ht_l := hlt ht
  have hm_l := hlt hm
  simp only [go_sem, simprocAttr, hgetA, hgetL, hgetLk, hsetA, hsetL, hsetLk, List.length_append, List.length_set, List.append_assoc, List.set_set, ht, ht_l, hm, hm_l]
  refine kont_call hb fn16 rfl ?_ (sright_ok x) (Ret.flat rfl) rfl fun d h hR => ?_
  · simp only [go_sem, simprocAttr, hgetA, hgetL, hgetLk, hsetA, hsetL, hsetLk, List.length_append, List.length_set, List.append_assoc, List.set_set]
  obtain ⟨rfl, rfl⟩ := hR
  refine kont_of_hx cx_ok hb 200 ?_
  simp only [go_sem, simprocAttr, hgetA, hgetL, hgetLk, hsetA, hsetL, hsetLk, List.length_append, List.length_set, List.append_assoc, List.set_set]
  by_cases h0 : rightV x = 0
  case neg =>
    have e : E = rightV x := by rw [hE0, setE, if_pos h0]
    simp only [go_sem, simprocAttr, hgetA, hgetL, hgetLk, hsetA, hsetL, hsetLk, List.length_append, List.length_set, List.append_assoc, List.set_set, beqF h0, bne]
    exact ⟨by rw [e], bad _ (by rw [e]; exact h0)⟩
  simp only [go_sem, simprocAttr, hgetA, hgetL, hgetLk, hsetA, hsetL, hsetLk, List.length_append, List.length_set, List.append_assoc, List.set_set, beqT h0, bne]
  cases hf1 : findC L x.iD with
  | none =>
    have e : E = 6 := by rw [hE0, setE, if_neg (by simpa using h0), if_pos (by simp [hf1])]
    rw [hf1, Option.map_none] at hk
    refine kont_hax cx_ok hb 200 mixed [(0, true), (1, true), (2, true), (3, true), (4, true), (5, true), (6, true), (7, true), (8, true), (9, true), (10, false), (11, false), (12, true)] (by kernel_rfl) (by kernel_rfl) ?_
    simp only [go_sem, simprocAttr, hgetA, hgetL, hgetLk, hsetA, hsetL, hsetLk, List.length_append, List.length_set, List.append_assoc, List.set_set, ht, hm, ht_l, hm_l, hk]
    exact ⟨by rw [e], bad _ (by rw [e]; decide)⟩
  | some y =>
    rw [hf1, Option.map_some] at hk
    have a1 : E = (if x.parent ≠ y.parent ∨ x.leaf ≠ y.leaf then 1 else if (1 < ofI x.ls ∧ sharesC L x.parent = false) ∨ (¬ 1 < ofI x.ls ∧ (childC L x.iD).any (sharing L) = true) then 29 else 0) := by
      rw [hE0, setE, if_neg (by simpa using h0), if_neg (by simp [hf1]), hf1]; rfl
    by_cases hp : x.parent = y.parent
    case neg =>
      have e : E = 1 := by rw [a1, if_pos (.inl hp)]
      refine kont_hax cx_ok hb 200 mixed [(0, true), (1, true), (2, true), (3, true), (4, true), (5, true), (6, true), (7, true), (8, true), (9, true), (10, false), (11, false), (12, true)] (by kernel_rfl) (by kernel_rfl) ?_
      simp only [go_sem, simprocAttr, hgetA, hgetL, hgetLk, hsetA, hsetL, hsetLk, List.length_append, List.length_set, List.append_assoc, List.set_set, ht, hm, ht_l, hm_l, hk, beqF hp, bne]
      exact ⟨by rw [e], bad _ (by rw [e]; decide)⟩
    by_cases hl : x.leaf = y.leaf
    case neg =>
      have e : E = 1 := by rw [a1, if_pos (.inr hl)]
      have hl2 : (x.leaf == y.leaf) = false := by simpa using hl
      refine kont_hax cx_ok hb 200 mixed [(0, true), (1, true), (2, true), (3, true), (4, true), (5, true), (6, true), (7, true), (8, true), (9, true), (10, false), (11, false), (12, true)] (by kernel_rfl) (by kernel_rfl) ?_
      simp only [go_sem, simprocAttr, hgetA, hgetL, hgetLk, hsetA, hsetL, hsetLk, List.length_append, List.length_set, List.append_assoc, List.set_set, ht, hm, ht_l, hm_l, hk, beqT hp, bne, hl2]
      exact ⟨by rw [e], bad _ (by rw [e]; decide)⟩
    have hl2 : (x.leaf == y.leaf) = true := by simpa using hl
    rw [if_neg (by simp [hp, hl])] at a1
    refine kont_hax cx_ok hb 200 mixed [(0, true), (1, true), (2, true), (3, true), (4, true), (5, true), (6, true), (7, true), (8, true), (9, true), (10, false), (11, false), (12, true)] (by kernel_rfl) (by kernel_rfl) ?_
    simp only [go_sem, simprocAttr, hgetA, hgetL, hgetLk, hsetA, hsetL, hsetLk, List.length_append, List.length_set, List.append_assoc, List.set_set, ht, hm, ht_l, hm_l, hk, beqT hp, bne, hl2]
    refine kont_call hb fn17 rfl ?_ (sshares_ok x) (Ret.flat rfl) rfl fun d h hR => ?_
    · simp only [go_sem, simprocAttr, hgetA, hgetL, hgetLk, hsetA, hsetL, hsetLk, List.length_append, List.length_set, List.append_assoc, List.set_set]
    obtain ⟨rfl, rfl⟩ := hR
    refine kont_of_hx cx_ok hb 200 ?_
    simp only [go_sem, simprocAttr, hgetA, hgetL, hgetLk, hsetA, hsetL, hsetLk, List.length_append, List.length_set, List.append_assoc, List.set_set]
    cases hs1 : decide (1 < ofI x.ls)
    · have hs1' : ¬ 1 < ofI x.ls := by simpa using hs1
      simp only [go_sem, simprocAttr, hgetA, hgetL, hgetLk, hsetA, hsetL, hsetLk, List.length_append, List.length_set, List.append_assoc, List.set_set, Go.undef]
      refine kont_call hb fn17 rfl ?_ (sshares_ok x) (Ret.flat rfl) rfl fun d h hR => ?_
      · simp only [go_sem, simprocAttr, hgetA, hgetL, hgetLk, hsetA, hsetL, hsetLk, List.length_append, List.length_set, List.append_assoc, List.set_set, hs1, Go.undef]
      obtain ⟨rfl, rfl⟩ := hR
      refine kont_of_hx cx_ok hb 200 ?_
      simp only [go_sem, simprocAttr, hgetA, hgetL, hgetLk, hsetA, hsetL, hsetLk, List.length_append, List.length_set, List.append_assoc, List.set_set, hs1, Go.undef]
      refine kont_callR hb fn20 rfl ?_ (hchildren_ok _ t m c T hlen (ro_app ht) (ro_app hm) x.iD) rfl fun d g hs => ?_
      · simp only [go_sem, simprocAttr]
      rcases hs with ⟨rfl, hc0⟩ | ⟨lo, gn, off, row, rfl, hlo, ho, hr⟩
      · have e : E = 0 := by rw [a1, if_neg (by rintro (⟨h1, _⟩ | ⟨_, h1⟩); exact hs1' h1; rw [hc0] at h1; simp at h1)]
        refine kont_of_hx cx_ok hb 200 ?_
        simp only [go_sem, simprocAttr, hgetA, hgetL, hgetLk, hsetA, hsetL, hsetLk, List.length_append, List.length_set, List.append_assoc, List.set_set, ht, hm, ht_l, hm_l]
        refine kont_callR0 hb fn22 rfl ?_ (containsFuncN_ok _ (.clo 21 0 [.ptr h.length 0 0 0])) rfl fun d hR => ?_
        · simp only [go_sem, simprocAttr, hgetA, hgetL, hgetLk, hsetA, hsetL, hsetLk, List.length_append, List.length_set, List.append_assoc, List.set_set, Go.undef]
        subst hR
        refine kont_of_hx cx_ok hb 200 ?_
        simp only [go_sem, simprocAttr, hgetA, hgetL, hgetLk, hsetA, hsetL, hsetLk, List.length_append, List.length_set, List.append_assoc, List.set_set, Go.undef]
        refine kont_hax cx_ok hb 200 mixed [(0, true), (1, true), (2, true), (3, true), (4, true), (5, true), (6, true), (7, false)] (by kernel_rfl) (by kernel_rfl) ?_
        simp only [go_sem, simprocAttr, hgetA, hgetL, hgetLk, hsetA, hsetL, hsetLk, List.length_append, List.length_set, List.append_assoc, List.set_set, ht, hm, ht_l, hm_l]
        rw [if_pos e]
        exact ⟨by rw [e], TreeAt.upd h t m c T ht hm x _⟩
      · refine kont_of_hx cx_ok hb 200 ?_
        have hcl : (childC L x.iD).length < 1000000 := by
          have := List.length_filter_le (fun y : Kls => y.parent == x.iD) L
          unfold childC; rw [List.length_map]; omega
        rw [List.append_assoc] at ho
        simp only [go_sem, simprocAttr, hgetA, hgetL, hgetLk, hsetA, hsetL, hsetLk, List.length_append, List.length_set, List.append_assoc, List.set_set, ht, hm, ht_l, hm_l]
        refine kont_callR0 hb fn22 rfl ?_ (containsFunc_ok _ (childC L x.iD) lo gn off row hcl (ro_get ho) hr (.clo 21 0 [.ptr h.length 0 0 0]) 21 0 [.ptr h.length 0 0 0] fn21 rfl (sharing L) (fun h' n hx => hset1_ok h' t m c h.length T (ro_get (hx.get (ro_app ht))) (roro_get (hx.get (ro_app hm))) (ro_get (hx.get (ro_get (o := ⟨.one, 0, 1, 1, fun _ => [.ptr t 0 0 0]⟩) (by rw [hgetL rfl]; rfl)))) n)) rfl fun d hR => ?_
        · simp only [go_sem, simprocAttr, hgetA, hgetL, hgetLk, hsetA, hsetL, hsetLk, List.length_append, List.length_set, List.append_assoc, List.set_set, Go.undef, firstI_any]
        subst hR
        refine kont_of_hx cx_ok hb 200 ?_
        simp only [go_sem, simprocAttr, hgetA, hgetL, hgetLk, hsetA, hsetL, hsetLk, List.length_append, List.length_set, List.append_assoc, List.set_set, Go.undef, firstI_any]
        cases hany : (childC L x.iD).any (sharing L)
        · have e : E = 0 := by rw [a1, if_neg (by rw [hany]; simp [hs1'])]
          simp only [go_sem, simprocAttr, hgetA, hgetL, hgetLk, hsetA, hsetL, hsetLk, List.length_append, List.length_set, List.append_assoc, List.set_set, Go.undef]
          refine kont_hax cx_ok hb 200 mixed [(0, true), (1, true), (2, true), (3, true), (4, true), (5, true), (6, true), (7, false)] (by kernel_rfl) (by kernel_rfl) ?_
          simp only [go_sem, simprocAttr, hgetA, hgetL, hgetLk, hsetA, hsetL, hsetLk, List.length_append, List.length_set, List.append_assoc, List.set_set, ht, hm, ht_l, hm_l]
          rw [if_pos e]
          exact ⟨by rw [e], TreeAt.upd h t m c T ht hm x _⟩
        · have e : E = 29 := by rw [a1, if_pos (.inr ⟨hs1', hany⟩)]
          simp only [go_sem, simprocAttr, hgetA, hgetL, hgetLk, hsetA, hsetL, hsetLk, List.length_append, List.length_set, List.append_assoc, List.set_set, Go.undef]
          exact ⟨by rw [e], bad _ (by rw [e]; decide)⟩
    · have hs1' : 1 < ofI x.ls := by simpa using hs1
      simp only [go_sem, simprocAttr, hgetA, hgetL, hgetLk, hsetA, hsetL, hsetLk, List.length_append, List.length_set, List.append_assoc, List.set_set, Go.undef]
      refine kont_callR0 hb fn18 rfl ?_ (hshares_ok _ t m c T (ro_app ht) (ro_app hm) x.parent) rfl fun d hR => ?_
      · simp only [go_sem, simprocAttr, hgetA, hgetL, hgetLk, hsetA, hsetL, hsetLk, List.length_append, List.length_set, List.append_assoc, List.set_set]
      subst hR
      refine kont_of_hx cx_ok hb 200 ?_
      simp only [go_sem, simprocAttr, hgetA, hgetL, hgetLk, hsetA, hsetL, hsetLk, List.length_append, List.length_set, List.append_assoc, List.set_set]
      cases hs2 : sharesC L x.parent
      · have e : E = 29 := by rw [a1, if_pos (.inl ⟨hs1', hs2⟩)]
        simp only [go_sem, simprocAttr, hgetA, hgetL, hgetLk, hsetA, hsetL, hsetLk, List.length_append, List.length_set, List.append_assoc, List.set_set, Go.undef]
        exact ⟨by rw [e], bad _ (by rw [e]; decide)⟩
      · have e : E = 0 := by rw [a1, if_neg (by rw [hs2]; simp [hs1'])]
        simp only [go_sem, simprocAttr, hgetA, hgetL, hgetLk, hsetA, hsetL, hsetLk, List.length_append, List.length_set, List.append_assoc, List.set_set, Go.undef]
        refine kont_call hb fn17 rfl ?_ (sshares_ok x) (Ret.flat rfl) rfl fun d h hR => ?_
        · simp only [go_sem, simprocAttr, hgetA, hgetL, hgetLk, hsetA, hsetL, hsetLk, List.length_append, List.length_set, List.append_assoc, List.set_set, hs1, Go.undef]
        obtain ⟨rfl, rfl⟩ := hR
        refine kont_of_hx cx_ok hb 200 ?_
        simp only [go_sem, simprocAttr, hgetA, hgetL, hgetLk, hsetA, hsetL, hsetLk, List.length_append, List.length_set, List.append_assoc, List.set_set, hs1, Go.undef]
        refine kont_hax cx_ok hb 200 mixed [(0, true), (1, true), (2, true), (3, true), (4, true), (5, true), (6, true), (7, false)] (by kernel_rfl) (by kernel_rfl) ?_
        simp only [go_sem, simprocAttr, hgetA, hgetL, hgetLk, hsetA, hsetL, hsetLk, List.length_append, List.length_set, List.append_assoc, List.set_set, ht, hm, ht_l, hm_l]
        rw [if_pos e]
        exact ⟨by rw [e], TreeAt.upd h t m c T ht hm x _⟩
end
end Go.Fg.X
