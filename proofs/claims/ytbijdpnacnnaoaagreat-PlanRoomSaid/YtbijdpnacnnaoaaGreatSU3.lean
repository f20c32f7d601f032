/- Walks of the functions that the statement reaches. No conditions: contracts and laws. -/
import Derived.Test.YtbijdpnacnnaoaaGreatXW0
import Derived.Test.YtbijdpnacnnaoaaGreatFgHeap
import Derived.Laws.BytesString
import Derived.LoopN
import Derived.Test.YtbijdpnacnnaoaaGreatFgFreeze
import Derived.Sort.AssemblyPlain
/- Balanced trees by their shape: items in order, what a node knows, and where its nodes lie. Plain laws. No conditions. -/
namespace Go.Fg.X
set_option linter.unusedVariables false
open Go.Proofs Go.Fg
set_option maxRecDepth 100000
set_option linter.unusedSimpArgs false
@[go_sem] theorem wl0 : IntKind.i64.wrap 0 = 0 := by decide
@[go_sem] theorem wl1 : IntKind.i64.wrap 1 = 1 := by decide
@[go_sem] theorem wl2 : IntKind.i64.wrap 2 = 2 := by decide
@[go_sem] theorem wl3 : IntKind.i64.wrap 3 = 3 := by decide
@[go_sem] theorem wl4 : IntKind.i64.wrap 4 = 4 := by decide
/-- A key with a value: ticks and numbers of both. -/
structure It where
  ka : Nat
  ki : Int
  va : Nat
  vi : Int
deriving DecidableEq
instance : Inhabited It := ⟨⟨0, 0, 0, 0⟩⟩
@[go_sem] def It.cells (x : It) : List D := [u64 x.ka, dint x.ki, u64 x.va, dint x.vi]
def kLt (a : Nat) (i : Int) (b : Nat) (j : Int) : Prop := a < b ∨ (a = b ∧ i < j)
instance (a : Nat) (i : Int) (b : Nat) (j : Int) : Decidable (kLt a i b j) := inferInstanceAs (Decidable (_ ∨ _))
def It.lt (x y : It) : Prop := kLt x.ka x.ki y.ka y.ki
instance (x y : It) : Decidable (x.lt y) := inferInstanceAs (Decidable (kLt _ _ _ _))
def cmpI (a : Nat) (i : Int) (b : Nat) (j : Int) : Int := if a = b ∧ i = j then 0 else if kLt a i b j then -1 else 1
/-- The item with the lesser value, or key. -/
def better (a b : It) : It := if cmpI b.va b.vi a.va a.vi < 0 ∨ (cmpI b.va b.vi a.va a.vi = 0 ∧ cmpI b.ka b.ki a.ka a.ki < 0) then b else a
inductive Tr where
  | nil
  | node (loc : Nat) (it : It) (l r : Tr)
deriving Inhabited
namespace Tr
def list : Tr → List It
  | .nil => []
  | .node _ it l r => l.list ++ it :: r.list
def locs : Tr → List Nat
  | .nil => []
  | .node loc _ l r => loc :: (l.locs ++ r.locs)
def high : Tr → Nat
  | .nil => 0
  | .node _ _ l r => 1 + max l.high r.high
def size : Tr → Nat
  | .nil => 0
  | .node _ _ l r => 1 + l.size + r.size
def ptr : Tr → D
  | .nil => .raw (.pointer none)
  | .node loc _ _ _ => .ptr loc 0 0 0
@[go_sem] theorem ptr_nil : Tr.nil.ptr = .raw (.pointer none) := rfl
@[go_sem] theorem ptr_node (loc : Nat) (it : It) (l r : Tr) : (Tr.node loc it l r).ptr = .ptr loc 0 0 0 := rfl
@[go_sem] theorem cellsD_tr (t : Tr) : cellsD t.ptr = some [t.ptr] := by cases t <;> rfl
@[go_sem] theorem oneCell_tr (t : Tr) : t.ptr.oneCell = true := by cases t <;> rfl
@[go_sem] theorem argEq_tr (t : Tr) : argEq t.ptr t.ptr = True := by cases t <;> simp [argEq, ptr]
def least : Tr → It
  | .nil => default
  | .node _ it l r => match l, r with
    | .nil, .nil => it
    | .nil, .node a b c d => better it (least (.node a b c d))
    | .node a b c d, .nil => better it (least (.node a b c d))
    | .node a b c d, .node a' b' c' d' => better (better it (least (.node a b c d))) (least (.node a' b' c' d'))
end Tr
/-- A node's cells: the item, the trees below, the least item, height, number. -/
@[go_sem] def nodeC (it : It) (p q : D) (le : It) (hi n : Int) : List D := [u64 it.ka, dint it.ki, u64 it.va, dint it.vi, p, q, u64 le.ka, dint le.ki, u64 le.va, dint le.vi, dint hi, dint n]
@[go_sem] def nodeO (it : It) (p q : D) (le : It) (hi n : Int) : Ob := ⟨.one, 0, 12, 1, fun _ => nodeC it p q le hi n⟩
/-- The tree lies in a heap. -/
def TrIs (h : List Ob) : Tr → Prop
  | .nil => True
  | .node loc it l r => h[loc]? = some (nodeO it l.ptr r.ptr (Tr.node loc it l r).least ((Tr.node loc it l r).high : Nat) ((Tr.node loc it l r).size : Nat)) ∧ TrIs h l ∧ TrIs h r
theorem TrIs.frame {h h' : List Ob} : ∀ {t : Tr}, TrIs h t → (∀ l ∈ t.locs, h'[l]? = h[l]?) → TrIs h' t
  | .nil, _, _ => trivial
  | .node loc it l r, ⟨h1, h2, h3⟩, e => ⟨by rw [e loc (by simp [Tr.locs])]; exact h1, h2.frame fun x hx => e x (by simp [Tr.locs, hx]), h3.frame fun x hx => e x (by simp [Tr.locs, hx])⟩
theorem TrIs.lt {h : List Ob} : ∀ {t : Tr}, TrIs h t → ∀ l ∈ t.locs, l < h.length
  | .nil, _, l, hl => by cases hl
  | .node loc it l r, ⟨h1, h2, h3⟩, x, hx => by
    simp only [Tr.locs, List.mem_cons, List.mem_append] at hx
    rcases hx with rfl | hx | hx
    · exact lt_of_some h1
    · exact h2.lt x hx
    · exact h3.lt x hx
/-- The tree lies in a heap, to be read. -/
def TrR (h : List Ob) : Tr → Prop
  | .nil => True
  | .node loc it l r => (h.map Ob.ro)[loc]? = some (nodeO it l.ptr r.ptr (Tr.node loc it l r).least ((Tr.node loc it l r).high : Nat) ((Tr.node loc it l r).size : Nat)).ro ∧ TrR h l ∧ TrR h r
theorem TrR.more {h h' : List Ob} (e : ∀ (l : Nat) (o : Ob), (h.map Ob.ro)[l]? = some o → (h'.map Ob.ro)[l]? = some o) : ∀ {t : Tr}, TrR h t → TrR h' t
  | .nil, _ => trivial
  | .node _ _ _ _, ⟨h1, h2, h3⟩ => ⟨e _ _ h1, h2.more e, h3.more e⟩
/-- What became of a tree, in another heap: the items, its nodes; all else as it was. -/
structure Upd (h : List Ob) (t : Tr) (L : List It) (h' : List Ob) (t' : Tr) : Prop where
  is : TrIs h' t'
  list : t'.list = L
  nd : t'.locs.Nodup
  mem : ∀ l ∈ t'.locs, l ∈ t.locs ∨ h.length ≤ l
  keep : ∀ l, l < h.length → l ∉ t.locs → h'[l]? = h[l]?
  len : h.length ≤ h'.length
theorem Upd.refl {h : List Ob} {t : Tr} (i : TrIs h t) (n : t.locs.Nodup) : Upd h t t.list h t := ⟨i, rfl, n, fun _ h => .inl h, fun _ _ _ => rfl, Nat.le_refl _⟩
theorem Upd.trans {h h' h'' : List Ob} {t t' t'' : Tr} {L L' : List It} (a : Upd h t L h' t') (b : Upd h' t' L' h'' t'') : Upd h t L' h'' t'' :=
  ⟨b.is, b.list, b.nd, fun l hl => by
    rcases b.mem l hl with h1 | h1
    · exact a.mem l h1
    · exact .inr (Nat.le_trans a.len h1), fun l hl hn => by
    rw [b.keep l (Nat.lt_of_lt_of_le hl a.len) fun h1 => by
      rcases a.mem l h1 with h2 | h2
      · exact hn h2
      · omega]
    exact a.keep l hl hn, Nat.le_trans a.len b.len⟩
/-! The order by values, then by keys. -/
def It.bLt (x y : It) : Prop := kLt x.va x.vi y.va y.vi ∨ (x.va = y.va ∧ x.vi = y.vi ∧ kLt x.ka x.ki y.ka y.ki)
instance (x y : It) : Decidable (x.bLt y) := inferInstanceAs (Decidable (_ ∨ _))
theorem kLt_irrefl (a : Nat) (i : Int) : ¬ kLt a i a i := by unfold kLt; omega
theorem kLt_trans {a : Nat} {i : Int} {b : Nat} {j : Int} {c : Nat} {k : Int} (h : kLt a i b j) (h2 : kLt b j c k) : kLt a i c k := by unfold kLt at *; omega
theorem kLt_total (a : Nat) (i : Int) (b : Nat) (j : Int) : kLt a i b j ∨ (a = b ∧ i = j) ∨ kLt b j a i := by unfold kLt; omega
theorem cmpI_neg {a : Nat} {i : Int} {b : Nat} {j : Int} : cmpI a i b j < 0 ↔ kLt a i b j := by
  unfold cmpI
  by_cases h : a = b ∧ i = j
  · rw [if_pos h]; obtain ⟨rfl, rfl⟩ := h; exact ⟨fun h => by omega, fun h => absurd h (kLt_irrefl _ _)⟩
  · rw [if_neg h]
    by_cases h2 : kLt a i b j
    · rw [if_pos h2]; exact ⟨fun _ => h2, fun _ => by omega⟩
    · rw [if_neg h2]; exact ⟨fun h => by omega, fun h => absurd h h2⟩
theorem cmpI_zero {a : Nat} {i : Int} {b : Nat} {j : Int} : cmpI a i b j = 0 ↔ a = b ∧ i = j := by
  unfold cmpI
  by_cases h : a = b ∧ i = j
  · rw [if_pos h]; exact ⟨fun _ => h, fun _ => rfl⟩
  · rw [if_neg h]
    by_cases h2 : kLt a i b j
    · rw [if_pos h2]; exact ⟨fun h => by omega, fun h1 => absurd h1 h⟩
    · rw [if_neg h2]; exact ⟨fun h => by omega, fun h1 => absurd h1 h⟩
theorem better_eq (a b : It) : better a b = if b.bLt a then b else a := by
  have h : (cmpI b.va b.vi a.va a.vi < 0 ∨ (cmpI b.va b.vi a.va a.vi = 0 ∧ cmpI b.ka b.ki a.ka a.ki < 0)) ↔ b.bLt a := by
    rw [cmpI_neg, cmpI_zero, cmpI_neg, It.bLt, and_assoc]
  unfold better
  by_cases hb : b.bLt a
  · rw [if_pos (h.2 hb), if_pos hb]
  · rw [if_neg (fun h1 => hb (h.1 h1)), if_neg hb]
theorem bLt_irrefl (a : It) : ¬ a.bLt a := fun h => by
  rcases h with h | ⟨_, _, h⟩ <;> exact kLt_irrefl _ _ h
theorem bLt_trans {a b c : It} (h : a.bLt b) (h2 : b.bLt c) : a.bLt c := by
  rcases h with h | ⟨e1, e2, h⟩ <;> rcases h2 with h2 | ⟨e3, e4, h2⟩
  · exact .inl (kLt_trans h h2)
  · exact .inl (by rw [← e3, ← e4]; exact h)
  · exact .inl (by rw [e1, e2]; exact h2)
  · exact .inr ⟨e1.trans e3, e2.trans e4, kLt_trans h h2⟩
theorem bLt_total (a b : It) : a.bLt b ∨ a = b ∨ b.bLt a := by
  rcases kLt_total a.va a.vi b.va b.vi with h | ⟨h1, h2⟩ | h
  · exact .inl (.inl h)
  · rcases kLt_total a.ka a.ki b.ka b.ki with h | ⟨h3, h4⟩ | h
    · exact .inl (.inr ⟨h1, h2, h⟩)
    · refine .inr (.inl ?_); cases a; cases b; simp_all
    · exact .inr (.inr (.inr ⟨h1.symm, h2.symm, h⟩))
  · exact .inr (.inr (.inl h))
/-- The better one of a and b: it is one of them, and none is better. -/
theorem better_or (a b : It) : (better a b = a ∧ ¬ b.bLt a) ∨ (better a b = b ∧ b.bLt a) := by
  rw [better_eq]
  by_cases h : b.bLt a
  · rw [if_pos h]; exact .inr ⟨rfl, h⟩
  · rw [if_neg h]; exact .inl ⟨rfl, h⟩
theorem better_le (a b : It) : ¬ a.bLt (better a b) ∧ ¬ b.bLt (better a b) := by
  rcases better_or a b with ⟨e, h⟩ | ⟨e, h⟩ <;> rw [e]
  · exact ⟨bLt_irrefl _, h⟩
  · exact ⟨fun h2 => bLt_irrefl _ (bLt_trans h h2), bLt_irrefl _⟩
/-- The least item of a list. -/
structure IsLeast (x : It) (L : List It) : Prop where
  mem : x ∈ L
  le : ∀ y ∈ L, ¬ y.bLt x
theorem IsLeast.one (x : It) : IsLeast x [x] := ⟨by simp, fun y hy => by simp only [List.mem_singleton] at hy; subst hy; exact bLt_irrefl _⟩
theorem IsLeast.join {x y : It} {L M : List It} (a : IsLeast x L) (b : IsLeast y M) : IsLeast (better x y) (L ++ M) := by
  obtain ⟨h1, h2⟩ := better_le x y
  have nle : ∀ {p q r : It}, ¬ p.bLt q → ¬ q.bLt r → ¬ p.bLt r := fun {p q r} h h2 h3 => by
    rcases bLt_total q p with h4 | h4 | h4
    · exact h2 (bLt_trans h4 h3)
    · subst h4; exact h2 h3
    · exact h h4
  refine ⟨?_, fun z hz => ?_⟩
  · rcases better_or x y with ⟨e, _⟩ | ⟨e, _⟩ <;> rw [e]
    · exact List.mem_append_left _ a.mem
    · exact List.mem_append_right _ b.mem
  · rcases List.mem_append.1 hz with hz | hz
    · exact nle (a.le z hz) h1
    · exact nle (b.le z hz) h2
theorem IsLeast.perm {x : It} {L M : List It} (a : IsLeast x L) (h : ∀ y, y ∈ M ↔ y ∈ L) : IsLeast x M := ⟨(h x).2 a.mem, fun y hy => a.le y ((h y).1 hy)⟩
end Go.Fg.X
namespace Go.Fg
set_option linter.unusedSimpArgs false
set_option linter.unusedVariables false
open Go.RowKit (Below)
/-- The numbers of birth rise. -/
def Births (es : List Ent) : Prop := (es.map (·.b)).Pairwise (· < ·)
theorem EntRel.births {Z : Nat → Prop} {h : List Ob} {pl : List Pl} {w : World} {q : IntKind} {c : Nat} {es : List Ent} {ens : List MapEntry} (E : EntRel Z h pl w q c es ens) : Births es := by
  unfold Births
  rw [List.pairwise_iff_getElem]
  intro i j hi hj hij
  simp only [List.length_map] at hi hj
  have hl := E.len
  obtain ⟨_, _, h1, _⟩ := E.at_ i es[i] ens[i] (List.getElem?_eq_getElem hi) (List.getElem?_eq_getElem (by omega))
  obtain ⟨_, _, h2, _⟩ := E.at_ j es[j] ens[j] (List.getElem?_eq_getElem hj) (List.getElem?_eq_getElem (by omega))
  have := E.inc i j ens[i] ens[j] hij (List.getElem?_eq_getElem (by omega)) (List.getElem?_eq_getElem (by omega))
  simp only [List.getElem_map]
  omega
theorem Births.inj {es : List Ent} (B : Births es) {e e' : Ent} (h : e ∈ es) (h' : e' ∈ es) (hb : e.b = e'.b) : e = e' := by
  unfold Births at B
  rw [List.pairwise_iff_getElem] at B
  obtain ⟨i, hi, rfl⟩ := List.getElem_of_mem h
  obtain ⟨j, hj, rfl⟩ := List.getElem_of_mem h'
  rcases Nat.lt_trichotomy i j with h1 | h1 | h1
  · have := B i j (by simpa using hi) (by simpa using hj) h1; simp only [List.getElem_map] at this; omega
  · subst h1; rfl
  · have := B j i (by simpa using hj) (by simpa using hi) h1; simp only [List.getElem_map] at this; omega
theorem Births.nodup {es : List Ent} (B : Births es) : (es.map (·.b)).Nodup := by
  unfold List.Nodup
  exact List.Pairwise.imp (fun h => Nat.ne_of_lt h) B
/-- How many are left. -/
def leftE (es : List Ent) (seen : List Nat) : Nat := (es.filter fun e => !seen.contains e.b).length
theorem leftE_lt : ∀ {es : List Ent} {seen : List Nat} {e : Ent}, e ∈ es → e.b ∉ seen → leftE es (seen ++ [e.b]) < leftE es seen
  | [], _, _, h, _ => by simp at h
  | x :: es, seen, e, h, hs => by
    have le : ∀ es : List Ent, leftE es (seen ++ [e.b]) ≤ leftE es seen := fun es => by
      induction es with
      | nil => exact Nat.le_refl _
      | cons y r ih =>
        simp only [leftE, List.filter_cons] at ih ⊢
        by_cases h1 : y.b ∈ seen <;> by_cases h2 : y.b = e.b <;> simp_all <;> omega
    rcases List.mem_cons.1 h with rfl | h
    · have := le es
      simp only [leftE, List.filter_cons] at this ⊢
      simp_all
      omega
    · have := leftE_lt h hs
      simp only [leftE, List.filter_cons] at this ⊢
      by_cases h1 : x.b ∈ seen <;> by_cases h2 : x.b = e.b <;> simp_all <;> omega
section
variable {P : Program} {L : Lay} {base nt : Nat} {w0 : Start} {Q : Exit → St → Prop}
theorem map_births {Z : Nat → Prop} {s : St} {pl : List Pl} {a : Act} {w : World} (r : Rel Z base nt s pl a w) {l c : Nat} {es : List Ent} {kd : Kd} {q : IntKind} (hkd : kd.ty = 1) (hob : s.h[l]? = some (mapObK kd q c es)) : Births es := by
  have hl : l < pl.length := by rw [r.o.len]; exact lt_of_some hob
  cases hp : pl[l] with
  | none =>
    have := r.o.noRow l _ hob (by rw [List.getElem?_eq_getElem hl, hp])
    simp [mapObK] at this
  | some bq =>
    obtain ⟨b, p⟩ := bq
    obtain ⟨_, x⟩ := r.o.at_ l _ b p hob (by rw [List.getElem?_eq_getElem hl, hp])
    obtain ⟨_, ens, _, E⟩ := mapAt_to hkd x
    exact E.births
/-- The births of a map that is there rise. -/
theorem kont_births {c0 : Code} {k : List Item} {s : St} {l c : Nat} {es : List Ent} {kd : Kd} {q : IntKind} (hkd : kd.ty = 1) (hob : s.h[l]? = some (mapObK kd q c es)) (hk : Births es → kont P base nt w0 Q (.code c0 :: k) .normal s) : kont P base nt w0 Q (.code c0 :: k) .normal s := by
  simp only [kont] at hk ⊢
  intro Z z pl a w r b
  exact hk (map_births r hkd hob) Z z pl a w r b
/-- The entry that an iterator met last. -/
theorem entry_ok {o : Oper} {s : St} {x : Operand} (ho : o.op = .entry x) {li l c : Nat} {es : List Ent} {seen : List Nat} {q : IntKind} {kd : Kd} {e : Ent}
    (hx : evalO s.fr x = .mref li 0) (hit : s.h[li]? = some (iterOb l c c (seen ++ [e.b]))) (hkd : kd.ty = 1) (hob : s.h[l]? = some (mapObK kd q c es)) (he : e ∈ es) : PureOk P base nt o s (.tup [.raw (.int q e.k), e.v]) := by
  intro Z pl a w r
  have e1 := r.eval x
  rw [hx] at e1
  obtain ⟨o', p, b, h1, h2, h3, h4, h5⟩ := inv_mref e1
  rw [hit] at h1; cases h1
  have h5 := h5 rfl
  rw [h5] at h2
  obtain ⟨hb0, xat⟩ := r.o.at_ li _ b 0 hit h2
  obtain ⟨_, m, sn, hb, hsn, hmr⟩ := iterAt_to xat
  have hv : a.eval x = .pointer (some ⟨b, 0, none⟩) := h3.2
  obtain ⟨o2, p2, bm, k1, k2, k3, k4, k5⟩ := inv_mref hmr
  rw [hob] at k1; cases k1
  have k5 := k5 rfl
  rw [k5] at k2
  have k3 := k3.2
  rw [show (mapObK kd q c es).kd.ty = 1 from hkd] at k3
  have k3 : m = bm := by simpa [mval] using k3
  subst k3
  obtain ⟨hm0, mat⟩ := r.o.at_ l _ m 0 hob k2
  obtain ⟨_, ens, hbm, E⟩ := mapAt_to hkd mat
  have hl : es.length = ens.toList.length := E.len
  obtain ⟨j, hj⟩ := List.getElem?_of_mem he
  have hlt := (List.getElem?_eq_some_iff.1 hj).1
  obtain ⟨d1, d2, d3, d4⟩ := E.at_ j e (ens.toList[j]'(by omega)) hj (List.getElem?_eq_getElem (by omega))
  have hnd : (ens.toList.map (·.born)).Nodup := by
    have : ens.toList.map (·.born) = es.map (·.b) := by
      apply List.ext_getElem (by simp [hl])
      intro i h1 h2
      simp only [List.length_map] at h1 h2
      obtain ⟨_, _, g, _⟩ := E.at_ i (es[i]'(by omega)) (ens.toList[i]'(by omega)) (List.getElem?_eq_getElem (by omega)) (List.getElem?_eq_getElem (by omega))
      simp only [List.getElem_map, g]
    rw [this]; exact E.births.nodup
  have hsn' : sn = (seen.toArray).push (ens.toList[j]'(by omega)).born := by
    apply Array.toList_inj.1
    rw [hsn, d3]; simp
  have hb' := hb
  rw [hsn'] at hb'
  refine ⟨.tuple #[(ens.toList[j]'(by omega)).key, (ens.toList[j]'(by omega)).val], ?_, fun w' ew => ?_⟩
  · rw [d1]
    exact .tup _ [.int q e.k, (ens.toList[j]'(by omega)).val] rfl fun i hi => match i, hi with
      | 0, _ => .cl _ _ (.raw _)
      | 1, _ => d2
  · have hrun := run_entry_at (P := P) w' b m c seen.toArray ens c (ens.toList[j]'(by omega)) (by rw [ew b (lt_of_heap hb')]; exact hb') (by rw [ew m (lt_of_heap hbm)]; exact hbm) (List.getElem_mem _) hnd
    simp [execOp, ho, hv, hrun]
theorem kont_entry {k : List Item} {dst : Option Nat} {ty : TypeId} {pos : String} {after : Array Edge} {gd : Option (Nat × Bool)} {r : List (Oper × G)} {s : St} {x : Operand} {li l c : Nat} {es : List Ent} {seen : List Nat} {q : IntKind} {kd : Kd} {e : Ent}
    (hx : evalO s.fr x = .mref li 0) (hit : s.h[li]? = some (iterOb l c c (seen ++ [e.b]))) (hkd : kd.ty = 1) (hob : s.h[l]? = some (mapObK kd q c es)) (he : e ∈ es) (ht : okO nt dst = true)
    (h1 : kont P base nt w0 Q (.ops r :: k) .normal ⟨putO s.fr dst (.tup [.raw (.int q e.k), e.v]), s.h⟩) :
    kont P base nt w0 Q (.ops ((⟨dst, .entry x, ty, pos, after, gd⟩, none) :: r) :: k) .normal s := by
  simp only [kont] at h1 ⊢
  exact AG_pure (entry_ok rfl hx hit hkd hob he) ht h1
end
end Go.Fg
namespace Go.Fg
set_option linter.unusedSimpArgs false
set_option linter.unusedVariables false
open Go.RowKit (Below)
def clearRow (off len : Nat) (zs : List D) (row : Nat → List D) : Nat → List D := fun k => bif Nat.ble off k && Nat.blt k (off + len) then zs else row k
theorem clearRow_lt {off len k : Nat} {zs : List D} {row : Nat → List D} (h : k < off) : clearRow off len zs row k = row k := by
  have : Nat.ble off k = false := by rw [← Bool.not_eq_true, Nat.ble_eq]; omega
  simp [clearRow, this]
section
variable {P : Program} {L : Lay} {base nt : Nat} {s : St} {o : Oper}
theorem clear_ok (hL : LayOk P L) {t e : TypeId} {x : Operand} {l g off len a b c : Nat} {z : Value} {zt : List Value} {ob : Ob} (ho : o.op = .call ⟨.builtin .clear, #[x], #[t]⟩) (hx : evalO s.fr x = .ref l g off len) (hob : s.h[l]? = some ob)
    (hk : ob.kd.isOne = false) (hg : ob.gen = g) (hs : ob.sz = 1) (hro : ob.kd.ro = false) (hn : off + len ≤ ob.n) (ht : ty L t = some ⟨.slice e, a, b, zt⟩) {k : TK} (he : ty L e = some ⟨k, 1, c, [z]⟩) (hz : oneV z = true) :
    EffOk P base nt o s (s.h.set l ⟨ob.kd, ob.gen, ob.sz, ob.n, clearRow off len [ofCell z] ob.row⟩) (.tup []) := by
  refine EffOk0.up ?_ (by simp [calm, ho])
  intro Z pl ac w r hbs
  have hv := r.eval x
  rw [hx] at hv
  obtain ⟨o', p', ad, cap, hvv, ho', hp', hk', hg', hat⟩ := inv_ref hv
  rw [hob] at ho'; cases ho'
  have hy := hL _ _ ht
  have hye := hL _ _ he
  have hu : P.underlying t = some (.slice e) := under_slice hy rfl
  obtain ⟨zv, hzz, hzr⟩ := hye.zeroValue
  have hzc : zv.cells = #[z] := by apply Array.toList_inj.1; rw [hzz]
  have hzl : (Builtin.zeroCells zv.cells len).toList = List.replicate len z := by
    rw [hzc]
    simp [Builtin.zeroCells]
    apply List.ext_getElem
    · simp
    · intro i h1 h2
      simp [Nat.mod_one]
  have hrz : ∀ Z' h' pl' w', RelV Z' h' pl' w' (ofCell z) z := fun Z' h' pl' w' =>
    .cl _ _ (cl_ofCell _ _ _)
  rcases hat hg.symm with ⟨hl0, hc0⟩ | ⟨bb, q, c0, el, hpp, haa, hb0, hsz0, hlc⟩
  · subst hl0
    have hrow : ∀ i, clearRow off 0 [ofCell z] ob.row i = ob.row i := fun i => by
      unfold clearRow
      cases h1 : Nat.ble off i && Nat.blt i (off + 0)
      · rfl
      · simp at h1; omega
    have hset : s.h.set l ⟨ob.kd, ob.gen, ob.sz, ob.n, clearRow off 0 [ofCell z] ob.row⟩ = s.h := by
      have e1 : (⟨ob.kd, ob.gen, ob.sz, ob.n, clearRow off 0 [ofCell z] ob.row⟩ : Ob) = ob := by rw [funext hrow]
      rw [e1]
      exact List.ext_getElem? fun i => by
        by_cases h : l = i
        · subst h; rw [List.getElem?_set_self (lt_of_some hob), hob]
        · rw [List.getElem?_set_ne h]
    rw [hset]
    refine ⟨.tuple #[], w, pl, .inl ?_, Tr.refl _ _ _, r.o, .tup [] [] rfl (fun i hi => absurd hi (Nat.not_lt_zero i)), Below.refl _ _⟩
    subst hc0
    cases ad <;> simp [execOp, ho, hvv, resolve, invoke, Go.builtin, Builtin.clear_, run_underlying hu]
  · subst hpp
    obtain ⟨hbase, xx⟩ := r.o.at_ l ob bb q hob hp'
    obtain ⟨c1, el1, hb, hcsz, hrl, hrow⟩ := xx.cells hk'
    rw [hb] at hb0; cases hb0
    have hkd : ∀ c2 : Nat → List D, (⟨ob.kd, ob.gen, ob.sz, ob.n, c2⟩ : Ob).kd = ob.kd := fun _ => rfl
    obtain ⟨w', c', g1, g2, g3, g4, g5, g6, g7, g8, g9⟩ := run_storeCells (P := P) bb el (List.replicate len z) 0 (q + off * ob.sz) w c0 hb (by simp; rw [hs] at hcsz ⊢; omega) (fun k hk => by
      have hk2 : k < len := by simpa using hk
      have : nthV (List.replicate len z) k = z := by simp [nthV, List.getD_eq_getElem?_getD, hk2]
      rw [this]; exact hz)
    have T : Tr s.h pl w (s.h.set l ⟨ob.kd, ob.gen, ob.sz, ob.n, clearRow off len [ofCell z] ob.row⟩) pl w' := Tr.upd r.o hob hp' rfl rfl rfl (fun k hk _ => g5 k hk) (fun c2 el2 e2 => by rw [hb] at e2; cases e2; exact ⟨c', g2, g3⟩)
    refine ⟨.tuple #[], w', pl, .inl ?_, T, ?_, .tup [] [] rfl (fun i hi => absurd hi (Nat.not_lt_zero i)), below_of (hbase hro) g5 g6 g7 g8 g9⟩
    · subst haa
      by_cases hl0 : len = 0
      · subst hl0
        have e1 : w' = w := by
          have : (storeCells ⟨bb, q + off * ob.sz, none⟩ (List.replicate 0 z) 0).run P w = .ok () w := by simp [storeCells]
          rw [g1] at this; cases this; rfl
        rw [e1]
        simp [execOp, ho, hvv, resolve, invoke, Go.builtin, Builtin.clear_, run_underlying hu]
      · obtain ⟨m, rfl⟩ : ∃ m, len = m + 1 := ⟨len - 1, by omega⟩
        simp [execOp, ho, hvv, resolve, invoke, Go.builtin, Builtin.clear_, run_underlying hu, hzr, hzl, g1]
    · refine RelO.upd (hro := rfl) r.o hob hp' hk' hk' rfl rfl (fun k hk _ => g5 k hk) hb g2 g3 (by rw [g3]; exact hcsz) (fun k hk => ?_) (fun k m hk hm => ?_)
      · show (clearRow off len [ofCell z] ob.row k).length = ob.sz
        unfold clearRow
        cases Nat.ble off k && Nat.blt k (off + len)
        · exact hrl k hk
        · simp [hs]
      · have hk2 : k < ob.n := hk
        have hm2 : m < ob.sz := hm
        show ∃ v, c'[q + (k * ob.sz + m)]? = some v ∧ RelV Z _ pl w' (nth (clearRow off len [ofCell z] ob.row k) m) v
        rw [hs] at hm2
        have hm0 : m = 0 := by omega
        subst hm0
        have hidx : k * ob.sz + 0 = k := by rw [hs]; omega
        have hidx2 : q + off * ob.sz + 0 = q + off := by rw [hs]; omega
        rw [g4, hidx, hidx2]
        simp only [List.length_replicate]
        by_cases hin : off ≤ k ∧ k < off + len
        · rw [if_pos (by omega)]
          have e1 : clearRow off len [ofCell z] ob.row k = [ofCell z] := by simp [clearRow, nat_ble, nat_blt, hin.1, hin.2]
          rw [e1]
          exact ⟨z, by rw [List.getElem?_replicate, if_pos (by omega)], hrz _ _ _ _⟩
        · rw [if_neg (by omega)]
          have e1 : clearRow off len [ofCell z] ob.row k = ob.row k := by
            unfold clearRow
            cases h : (Nat.ble off k && Nat.blt k (off + len))
            · rfl
            · simp at h; omega
          rw [e1]
          obtain ⟨v, hv1, hr1⟩ := hrow k 0 hk2 (by omega)
          rw [hidx] at hv1
          exact ⟨v, hv1, hr1.tr T⟩
end
section
variable {P : Program} {L : Lay} {base nt : Nat} {w0 : Start} {Q : Exit → St → Prop}
/-- The rule. -/
theorem kont_clear (hL : LayOk P L) (hb : base ≤ w0.w.heap.size) {k : List Item} {dst : Option Nat} {tyd : TypeId} {pos : String} {after : Array Edge} {gd : Option (Nat × Bool)} {r : List (Oper × G)} {s : St} {t e : TypeId} {x : Operand} {l g off len a b c : Nat} {z : Value} {zt : List Value} {ob : Ob}
    (hx : evalO s.fr x = .ref l g off len) (hob : s.h[l]? = some ob)
    (hk : ob.kd.isOne = false) (hg : ob.gen = g) (hs : ob.sz = 1) (hro : ob.kd.ro = false) (hn : off + len ≤ ob.n) (ht : ty L t = some ⟨.slice e, a, b, zt⟩) {tk : TK} (he : ty L e = some ⟨tk, 1, c, [z]⟩) (hz : oneV z = true) (hd : okO nt dst = true)
    (h1 : kont P base nt w0 Q (.ops r :: k) .normal ⟨putO s.fr dst (.tup []), s.h.set l ⟨ob.kd, ob.gen, ob.sz, ob.n, clearRow off len [ofCell z] ob.row⟩⟩) :
    kont P base nt w0 Q (.ops ((⟨dst, .call ⟨.builtin .clear, #[x], #[t]⟩, tyd, pos, after, gd⟩, none) :: r) :: k) .normal s := by
  simp only [kont] at h1 ⊢
  exact AG_eff hb (clear_ok hL rfl hx hob hk hg hs hro hn ht he hz) hd h1
end
end Go.Fg
namespace Go.Fg
set_option linter.unusedSimpArgs false
set_option linter.unusedVariables false
open Go.RowKit (Below)
theorem MFn.cut {P : Program} {f : FuncId} {F : List Ob} {args : List D} {R R' : D → List Ob → Prop} (hf : MFn P f F args R)
    (hr : ∀ d h, R d h → ∃ l o n', h[l]? = some o ∧ o.kd.ty = 0 ∧ n' ≤ o.n ∧ R' d (h.set l ⟨o.kd, o.gen, o.sz, n', o.row⟩)) : MFn P f F args R' := by
  intro Z base w pl vs h1 h2 h3 hl hc
  refine (hf Z base w pl vs h1 h2 h3 hl hc).mono fun e w' he => ?_
  obtain ⟨v, d, h, pl', rfl, hR, hO, hV, hT, hB⟩ := he
  obtain ⟨l, o, n', ho, hk, hn, hR'⟩ := hr _ _ hR
  have hl := lt_of_some ho
  have key : ∀ (x : Nat) (u : Ob), h[x]? = some u → ∃ u', (h.set l ⟨o.kd, o.gen, o.sz, n', o.row⟩)[x]? = some u' ∧ u'.gen = u.gen ∧ u'.sz = u.sz ∧ u'.kd.ty = u.kd.ty := fun x u e => by
    by_cases hx : l = x
    · subst hx
      rw [ho] at e; cases e
      exact ⟨_, List.getElem?_set_self hl, rfl, rfl, rfl⟩
    · exact ⟨u, by rw [List.getElem?_set_ne hx]; exact e, rfl, rfl, rfl⟩
  refine ⟨v, d, _, pl', rfl, hR', ⟨by simp [hO.len], hO.inj, fun x u e ep => ?_, fun x u b q e ep => ?_⟩, hV.kds key, ⟨hT.old, fun x u p e ep => ?_, fun x u u' b q e e' hg ep c el hc => ?_⟩, hB⟩
  · by_cases hx : l = x
    · subst hx
      rw [List.getElem?_set_self hl] at e; cases e
      have := hO.noRow l o ho ep
      show n' = 0
      omega
    · rw [List.getElem?_set_ne hx] at e
      exact hO.noRow x u e ep
  · by_cases hx : l = x
    · subst hx
      rw [List.getElem?_set_self hl] at e; cases e
      obtain ⟨g1, xx⟩ := hO.at_ l o b q ho ep
      obtain ⟨c, el, c1, c2, c3, c4⟩ := xx.cells hk
      refine ⟨g1, .ofCells hk ⟨c, el, c1, ?_, fun i hi => c3 i (Nat.lt_of_lt_of_le hi hn), fun i j hi hj => ?_⟩⟩
      · have := Nat.mul_le_mul_right o.sz hn
        show q + n' * o.sz ≤ c.size
        omega
      · obtain ⟨u, hu, hr⟩ := c4 i j (Nat.lt_of_lt_of_le hi hn) hj
        exact ⟨u, hu, hr.kds key⟩
    · rw [List.getElem?_set_ne hx] at e
      obtain ⟨g1, xx⟩ := hO.at_ x u b q e ep
      exact ⟨g1, xx.to rfl rfl rfl rfl (fun _ _ => rfl) fun i j v _ _ hr => hr.kds key⟩
  · obtain ⟨u', p', a1, a2, a3, a4, a5⟩ := hT.obj x u p e ep
    obtain ⟨u2, b1, b2, b3, b4⟩ := key x u' a1
    exact ⟨u2, p', b1, a2, by omega, by rw [b4, a4], fun hh => by rw [b3]; exact a5 (by omega)⟩
  · obtain ⟨u1, p', a1, a2, a3, a4, a5⟩ := hT.obj x u _ e ep
    obtain ⟨u2, b1, b2, b3, b4⟩ := key x u1 a1
    rw [e'] at b1; cases b1
    exact hT.shape x u u1 b q e a1 (by omega) ep c el hc
end Go.Fg
namespace Go.Fg
set_option linter.unusedSimpArgs false
set_option linter.unusedVariables false
open Go.RowKit (Below)
section
variable {P : Program} {L : Lay} {base nt : Nat} {s : St} {o : Oper}
theorem cap_nil_ok (hL : LayOk P L) {t : TypeId} {x : Operand} (ho : o.op = .call ⟨.builtin .cap, #[x], #[t]⟩) (hx : evalO s.fr x = .nil) {e a b : Nat} {zt : List Value} (ht : ty L t = some ⟨.slice e, a, b, zt⟩) : PureOk P base nt o s (.raw (.int .i64 0)) := by
  intro Z pl ac w r
  have hr := r.eval x
  rw [hx] at hr
  obtain ⟨a0, hv⟩ := inv_nil hr
  refine ⟨_, .cl _ _ (.raw _), fun w' _ => ?_⟩
  rw [run_builtin ho]
  simp [builtin, hv, Builtin.cap_, run_underlying (under_slice (hL _ _ ht) rfl), goInt]
theorem run_append_zeros {t ti e : TypeId} {ty0 : TypeId} {y : Ty} {k kn : IntKind} (ht : P.underlying t = some (.slice e)) (hti : P.underlying ti = some (.int kn)) (hy : TyOk P e y) (hz : y.zero.length = y.size) (hs : 0 < y.size) (w : World) (b : Option Addr) (n : Nat)
    (h0 : 0 < n) (h63 : n ≤ 4294967296) (hby : y.bytes ≤ 1024) :
    ∃ cap' rest, (Builtin.append_ #[t, ti] ty0 #[.slice b 0 0, .int k n]).run P w = .ok (.slice (some ⟨w.heap.size, 0, none⟩) n cap') (w.drew.alloc (.cells ((flat n y.size fun _ j => nthV y.zero j).toArray ++ rest) e)) ∧ n ≤ cap' ∧ rest.size = (cap' - n) * y.size := by
  obtain ⟨z, hzz, hzr⟩ := hy.zeroValue
  obtain ⟨i, hi, hi1, hi2⟩ := hy.typeInfo w
  have hi' : ∀ w, (typeInfo e).run P w = .ok i w := fun w => by
    have h4 := hy.info
    cases hx : P.info? e with
    | none => rw [hx] at h4; cases h4
    | some k =>
      simp [typeInfo, hx] at hi ⊢
      exact hi
  refine ⟨grownCap w n 0 e, Builtin.zeroCells z.cells (grownCap w n 0 e - n), ?_, grownCap_ge _ _ _ _, by rw [zeroCells_size]; congr 1; rw [← hz, ← hzz]; simp⟩
  have hn : ¬ n = 0 := by omega
  have hw : IntKind.i64.wrap (n : Int) = n := by rw [IntKind.wrap_i64]; omega
  have h63' : ¬ (9223372036854775807 < (n : Int)) := by omega
  have hmul : n * y.bytes ≤ 4294967296 * 1024 := Nat.mul_le_mul h63 hby
  have h48' : ¬ (281474976710656 < Builtin.nextslicecap n 0 * i.bytes) := by rw [nextslicecap_zero h0, hi2]; omega
  have h48i : ¬ (281474976710656 < (n : Int) * (i.bytes : Int)) := by
    rw [← Int.natCast_mul, hi2]
    omega
  have hneg : ¬ ((n : Int) < 0) := by omega
  have hns : ¬ (n * y.size = 0) := Nat.mul_ne_zero hn (by omega)
  have hzs : z.cells.size = y.size := by rw [← hz, ← hzz]; simp
  have hfl : (flat n y.size fun _ j => nthV y.zero j).toArray = Builtin.zeroCells z.cells n := by
    apply Array.ext
    · rw [zeroCells_size, hzs]; simp [flat_length]
    · intro j h1 h2
      simp only [List.size_toArray, flat_length] at h1
      obtain ⟨d1, d2, d3⟩ := div_lt h1
      have hz2 : y.zero = z.cells.toList := hzz.symm
      have hj : j % y.size < z.cells.size := by rw [hzs]; exact d2
      simp [flat, Builtin.zeroCells, nthV, hz2, List.getD_eq_getElem?_getD, hzs, hj]
      rw [getElem!_pos z.cells _ hj, Array.getElem?_eq_getElem hj]; rfl
  rw [hfl]
  cases b <;> simp [Builtin.append_, run_underlying ht, run_underlying hti, hy.sizeOf, hi', hzr, asInt, asIntOf, hw, hn, hneg, hns, h63', h48', h48i, Question.forced, Builtin.firstCells, loadCells, loadCellsFrom, newRow, grownCap, askRoom, mark, Sem.run]
theorem append_zeros_ok (hL : LayOk P L) {t ti e : TypeId} {x0 x : Operand} {n : Nat} {kn : IntKind} {a b c d : Nat} {zt zi : List Value} {y : Ty} {k : IntKind} (ho : o.op = .call ⟨.builtin .append, #[x0, x], #[t, ti]⟩) (hx0 : evalO s.fr x0 = .nil) (hx : evalO s.fr x = .raw (.int k n))
    (ht : ty L t = some ⟨.slice e, a, b, zt⟩) (hti : ty L ti = some ⟨.int kn, c, d, zi⟩) (hye : ty L e = some y) (hz : y.zero.length = y.size) (hs : 0 < y.size) (h0 : 0 < n) (h63 : n ≤ 4294967296) (hby : y.bytes ≤ 1024) :
    EffOk P base nt o s (s.h ++ [⟨.arr, 0, y.size, n, fun _ => y.zero.map ofCell⟩]) (.ref s.h.length 0 0 n) := by
  refine EffOk0.up ?_ (by simp [calm, ho])
  intro Z pl ac w r hbs
  have hr0 := r.eval x0
  have hrx := r.eval x
  rw [hx0] at hr0
  rw [hx] at hrx
  obtain ⟨a0, hv0⟩ := inv_nil hr0
  have hv := inv_raw hrx
  have hy := hL _ _ hye
  have hpl : pl.length = s.h.length := r.o.len
  obtain ⟨cap', rest, hrun, hcap, hrest⟩ := run_append_zeros (ty0 := o.type) (k := k) (under_slice (hL _ _ ht) rfl) (under_int (hL _ _ hti) rfl) hy hz hs w a0 n h0 h63 hby
  have e1 : ∀ b, b < w.heap.size → (w.drew.alloc (.cells ((flat n y.size fun _ j => nthV y.zero j).toArray ++ rest) e)).heap[b]? = w.heap[b]? := fun b hb => heap_push_old w.drew _ b hb
  have hnew : (w.drew.alloc (.cells ((flat n y.size fun _ j => nthV y.zero j).toArray ++ rest) e)).heap[w.heap.size]? = some (.cells ((flat n y.size fun _ j => nthV y.zero j).toArray ++ rest) e (0, 0)) := heap_alloc_new w.drew _
  have T : Tr s.h pl w (s.h ++ [⟨.arr, 0, y.size, n, fun _ => y.zero.map ofCell⟩]) (pl ++ [some (w.heap.size, 0)]) (w.drew.alloc (.cells ((flat n y.size fun _ j => nthV y.zero j).toArray ++ rest) e)) := Tr.push r.o e1 _ _ (by intro b q h; simp at h; omega)
  refine ⟨.slice (some ⟨w.heap.size, 0, none⟩) n cap', _, _, .inl ?_, T, RelO.push r.o e1 _ rfl (Nat.le_refl _) hbs hnew (by simp [flat_length]) (fun i hi => by simp [hz]) (fun i j hi hj => ⟨nthV y.zero j, ?_, ?_⟩), .ref _ _ _ _ ⟨.arr, 0, y.size, n, fun _ => y.zero.map ofCell⟩ (some (w.heap.size, 0)) _ _ (by simp) (by rw [← hpl]; simp) rfl (Nat.le_refl _) (fun _ => .inr ⟨w.heap.size, 0, _, _, rfl, by simp, hnew, ?_, hcap⟩), ((Below.refl base w).drew).alloc hbs _⟩
  · rw [run_builtin ho]
    have : (Array.map ac.eval #[x0, x]) = #[.slice a0 0 0, .int k n] := by simp [hv0, hv]
    rw [this]
    simp only [builtin, Sem.run_bind, hrun, Result.andThen_ok, Sem.run_pure]
  · have hg := flat_get (vs := fun _ j => nthV y.zero j) hi hj
    have hlt := (List.getElem?_eq_some_iff.1 hg).1
    rw [Nat.zero_add, Array.getElem?_append_left (by simpa using hlt)]
    simpa using hg
  · have hj2 : j < y.zero.length := by rw [hz]; exact hj
    have : nth (y.zero.map ofCell) j = ofCell (nthV y.zero j) := by simp [nth, nthV, List.getD_eq_getElem?_getD, hj2]
    show RelV Z _ _ _ (nth (y.zero.map ofCell) j) _
    rw [this]
    exact .cl _ _ (cl_ofCell _ _ _)
  · simp only [Nat.zero_add, Array.size_append, List.size_toArray, flat_length, hrest]
    rw [← Nat.add_mul]; exact Nat.mul_le_mul_right _ (by omega)
end
section
variable {P : Program} {L : Lay} {base nt : Nat} {w0 : Start} {Q : Exit → St → Prop}
theorem kont_cap_nil (hL : LayOk P L) {k : List Item} {dst : Option Nat} {tyd : TypeId} {pos : String} {after : Array Edge} {gd : Option (Nat × Bool)} {r : List (Oper × G)} {s : St} {t e a b : Nat} {x : Operand} {zt : List Value}
    (hx : evalO s.fr x = .nil) (ht : ty L t = some ⟨.slice e, a, b, zt⟩) (hd : okO nt dst = true) (h1 : kont P base nt w0 Q (.ops r :: k) .normal ⟨putO s.fr dst (.raw (.int .i64 0)), s.h⟩) :
    kont P base nt w0 Q (.ops ((⟨dst, .call ⟨.builtin .cap, #[x], #[t]⟩, tyd, pos, after, gd⟩, none) :: r) :: k) .normal s := by
  simp only [kont] at h1 ⊢
  exact AG_pure (cap_nil_ok hL rfl hx ht) hd h1
theorem kont_append_zeros (hL : LayOk P L) (hb : base ≤ w0.w.heap.size) {k : List Item} {dst : Option Nat} {tyd : TypeId} {pos : String} {after : Array Edge} {gd : Option (Nat × Bool)} {r : List (Oper × G)} {s : St} {t ti e : TypeId} {x0 x : Operand} {n : Nat} {kn : IntKind} {a b c d : Nat} {zt zi : List Value} {y : Ty} {ki : IntKind}
    (hx0 : evalO s.fr x0 = .nil) (hx : evalO s.fr x = .raw (.int ki n)) (ht : ty L t = some ⟨.slice e, a, b, zt⟩) (hti : ty L ti = some ⟨.int kn, c, d, zi⟩) (hye : ty L e = some y) (hz : y.zero.length = y.size) (hs : 0 < y.size) (h0 : 0 < n) (h63 : n ≤ 4294967296) (hby : y.bytes ≤ 1024) (hd : okO nt dst = true)
    (h1 : kont P base nt w0 Q (.ops r :: k) .normal ⟨putO s.fr dst (.ref s.h.length 0 0 n), s.h ++ [⟨.arr, 0, y.size, n, fun _ => y.zero.map ofCell⟩]⟩) :
    kont P base nt w0 Q (.ops ((⟨dst, .call ⟨.builtin .append, #[x0, x], #[t, ti]⟩, tyd, pos, after, gd⟩, none) :: r) :: k) .normal s := by
  simp only [kont] at h1 ⊢
  exact AG_eff hb (append_zeros_ok hL rfl hx0 hx ht hti hye hz hs h0 h63 hby) hd h1
end
end Go.Fg
namespace Go.Fg
set_option linter.unusedSimpArgs false
set_option linter.unusedVariables false
open Go.RowKit (Below)
section
variable {P : Program} {L : Lay} {base nt : Nat} {s : St} {o : Oper}
end
section
variable {P : Program} {L : Lay} {base nt : Nat} {w0 : Start} {Q : Exit → St → Prop}
end

section
variable {Z : Nat → Prop}
end

mutual
/-- What names no object from k on is the same behind such a telling. -/
theorem upto_fz {k l g n sz : Nat} {row : Nat → List D} (hk : k ≤ l) : ∀ {d : D}, d.upto k = true → d.fz l g n sz row = d
  | .raw _, _ => rfl
  | .nil, _ => rfl
  | .undef, _ => rfl
  | .imm _ _ _, _ => rfl
  | .ip _, _ => rfl
  | .ref l' _ _ _, h => by
    simp only [D.upto, Nat.blt_eq] at h
    have : Nat.beq l' l = false := by rw [← Bool.not_eq_true, Nat.beq_eq]; omega
    simp only [D.fz, this, cond_false]
  | .ptr l' _ _ _, h => by
    simp only [D.upto, Nat.blt_eq] at h
    have : Nat.beq l' l = false := by rw [← Bool.not_eq_true, Nat.beq_eq]; omega
    simp only [D.fz, this, cond_false]
  | .mref l' _, h => by
    simp only [D.upto, Nat.blt_eq] at h
    have : Nat.beq l' l = false := by rw [← Bool.not_eq_true, Nat.beq_eq]; omega
    simp only [D.fz, this, cond_false]
  | .clo _ _ cs, h => by simp only [D.upto] at h; simp only [D.fz, uptoL_fz hk h]
  | .agg cs, h => by simp only [D.upto] at h; simp only [D.fz, uptoL_fz hk h]
  | .tup cs, h => by simp only [D.upto] at h; simp only [D.fz, uptoL_fz hk h]
theorem uptoL_fz {k l g n sz : Nat} {row : Nat → List D} (hk : k ≤ l) : ∀ {cs : List D}, uptoL k cs = true → fzL l g n sz row cs = cs
  | [], _ => rfl
  | d :: r, h => by
    simp only [uptoL, Bool.and_eq_true] at h
    simp only [fzL, upto_fz hk h.1, uptoL_fz hk h.2]
end
section
variable {P : Program} {base nt : Nat} {w0 : Start}
end
section
variable {P : Program} {base nt : Nat} {w0 : Start} {Q : Exit → St → Prop}
end
section
variable {P : Program} {base nt : Nat} {w0 : Start} {Q : Exit → St → Prop}
end
end Go.Fg
namespace Go.Fg
set_option linter.unusedSimpArgs false
set_option linter.unusedVariables false
section
variable {P : Program} {base nt : Nat} {w0 : Start} {Q : Exit → St → Prop} {k : List Item} {s : St}
def TurnQ (P : Program) (base nt : Nat) (w0 : Start) (Q : Exit → St → Prop) (k : List Item) (c : Code) : Nat → Exit → St → Prop
  | 0, .normal, _ => False
  | n + 1, .normal, s => kont P base nt w0 (TurnQ P base nt w0 Q k c n) [.code c] .normal s
  | _, e, s => kont P base nt w0 Q k e s
@[go_sem] theorem TurnQ_normal {c : Code} {n : Nat} : TurnQ P base nt w0 Q k c (n + 1) .normal s = kont P base nt w0 (TurnQ P base nt w0 Q k c n) [.code c] .normal s := eqOf rfl
@[go_sem] theorem TurnQ_exit {c : Code} {n j : Nat} : TurnQ P base nt w0 Q k c n (.exit j) s = kont P base nt w0 Q k (.exit j) s := eqOf (by cases n <;> rfl)
@[go_sem] theorem TurnQ_ret {c : Code} {n : Nat} : TurnQ P base nt w0 Q k c n .ret s = kont P base nt w0 Q k .ret s := eqOf (by cases n <;> rfl)
end
end Go.Fg
/- A call that is lent the whole heap, within a region that draws its order. No conditions. -/
namespace Go.Fg
set_option linter.unusedSimpArgs false
set_option linter.unusedVariables false
section
variable {P : Program} {base nt : Nat} {w0 : Start}
end
end Go.Fg
namespace Go.Fg
set_option linter.unusedSimpArgs false
set_option linter.unusedVariables false
open Go.RowKit (Below)
section
variable {P : Program} {L : Lay} {base nt : Nat} {s : St} {o : Oper} {t : TypeId} {x i : Operand}
end
section
variable {P : Program} {base nt : Nat} {w0 : Start} {Q : Exit → St → Prop} {k : List Item} {s : St} {X : Cx}
theorem kont_haxFJ (s1 : St) {id : Nat} {ops : Array Oper} (hX : CxOk P X) (hb : base ≤ w0.w.heap.size) (hm : P.follows .mixedOrders = true) (l : List (Nat × Bool)) (R : List Nat) (hB : orderF [] X.L ops l R = true) (hU : undB ops s.fr = true)
    (hfin : ∀ s, Weak w0 s s1 → kont P base nt w0 Q k .normal s) (h : hax P base w0 X nt (hxF P base w0 X nt (fun s => Weak w0 s s1) R.length (pickR [] ops R) (l.map (·.1))) (pickO [] ops l) s) : kont P base nt w0 Q (.code (.region id ops true) :: k) .normal s := by
  have hR : R.Nodup := by
    simp only [orderF, Bool.and_eq_true] at hB
    exact (leftB_ok hB.1.2).1
  exact kont_anyF hX.L hb hm l R hB hU (AX.mono (fun s hs => hxF_ok hX hb (fun s hs => hfin s hs) _ _ _ s hR hs) _ _ (haxK_ok hX hb _ _ h))
end
section
variable {P : Program} {L : Lay} {base nt : Nat} {w0 : Start} {Q : Exit → St → Prop}
end
end Go.Fg
namespace Go.Fg
set_option linter.unusedSimpArgs false
set_option linter.unusedVariables false
theorem oper_mono {P : Program} {o : Oper} {a : Act} {w : World} {K K' : Act → World → Prop} {Q Q' : Exit → Act → World → Prop} (hk : ∀ a w, K a w → K' a w) (hq : ∀ e a w, Q e a w → Q' e a w) (h : o.wp P a w K Q) : o.wp P a w K' Q' := by
  unfold Oper.wp at *
  generalize (execOp a.eval o).run P w = r at *
  cases r with
  | ok x w' =>
    cases x <;> simp only [Oper.upon] at h ⊢ <;> first | exact hk _ _ h | exact h | skip
    · exact h.mono fun e w'' he => by
        cases e with
        | returned v => exact hk _ _ he
        | panicked c => exact hq _ _ _ he
        | outgrown => obtain ⟨a, w, h⟩ := he; exact ⟨a, w, hq _ _ _ h⟩
    · exact h.mono fun v w'' he => hk _ _ he
  | halt x w' => cases x <;> first | exact h | exact hq _ _ _ h
theorem wpG_mono {P : Program} {Q Q' : Exit → Act → World → Prop} (hq : ∀ e a w, Q e a w → Q' e a w) : ∀ (l : List (Oper × G)) (a : Act) (w : World), wpG P Q l a w → wpG P Q' l a w
  | [], a, w, h => hq _ _ _ h
  | (o, g) :: r, a, w, h => by
    simp only [wpG] at h ⊢
    split at h
    · rename_i hw
      rw [if_pos hw]
      exact oper_mono (fun a w => wpG_mono hq r a w) hq h
    · rename_i hw
      rw [if_neg hw]
      exact wpG_mono hq r _ _ h
section
variable {P : Program} {base nt : Nat} {w0 : Start} {Q : Exit → St → Prop} {k : List Item} {s s1 : St}
def JoinQ (P : Program) (base nt : Nat) (w0 : Start) (Q : Exit → St → Prop) (k : List Item) (s1 : St) : Exit → St → Prop
  | .normal, s => Weak w0 s s1
  | e, s => kont P base nt w0 Q k e s
@[go_sem] theorem JoinQ_normal : JoinQ P base nt w0 Q k s1 .normal s = Weak w0 s s1 := eqOf rfl
@[go_sem] theorem JoinQ_exit {j : Nat} : JoinQ P base nt w0 Q k s1 (.exit j) s = kont P base nt w0 Q k (.exit j) s := eqOf rfl
@[go_sem] theorem JoinQ_ret : JoinQ P base nt w0 Q k s1 .ret s = kont P base nt w0 Q k .ret s := eqOf rfl
/-- Behind the first piece all ways stand alike. -/
theorem kont_join {x : Item} {c : Code} (s1 : St) (h1 : kont P base nt w0 (JoinQ P base nt w0 Q (.code c :: k) s1) [x] .normal s) (h2 : kont P base nt w0 Q (.code c :: k) .normal s1) : kont P base nt w0 Q (x :: .code c :: k) .normal s := by
  cases x with
  | code x =>
    simp only [kont] at h1
    show A P base nt w0 x _ s
    refine h1.mono fun e s' he => ?_
    cases e with
    | normal => exact kont_weak_code he h2
    | _ => exact he
  | ops l =>
    simp only [kont] at h1
    show AG P base nt w0 l _ s
    intro Z z pl a w r b
    refine wpG_mono (fun e a' w' ⟨s', pl', hs, r', b'⟩ => ⟨s', pl', ?_, r', b'⟩) _ _ _ (h1 Z z pl a w r b)
    cases e with
    | normal => exact kont_weak_code hs h2
    | _ => exact hs
  | inBlock id => simp only [kont] at h1 ⊢; exact kont_weak_code h1 h2
  | inScope => simp only [kont] at h1 ⊢; exact kont_weak_code h1 h2
/-- The same: the slots V are told anew, those of 'keep' stay, the others are forgotten. -/
theorem kont_joinF {x : Item} {c : Code} (keep : List Nat) (V : List (Nat × D)) {fr : List (Nat × D)} {h : List Ob} {rest : List (Nat × D)} (hr : pickFr fr keep = rest)
    (h1 : kont P base nt w0 (JoinQ P base nt w0 Q (.code c :: k) ⟨V ++ rest, h⟩) [x] .normal ⟨fr, h⟩) (h2 : kont P base nt w0 Q (.code c :: k) .normal ⟨V ++ rest, h⟩) : kont P base nt w0 Q (x :: .code c :: k) .normal ⟨fr, h⟩ := kont_join _ h1 h2
@[go_sem] theorem hx_zero {X : Cx} : hx P base w0 Q X nt 0 k s = kont P base nt w0 Q k .normal s := by cases k <;> exact eqOf rfl
end
end Go.Fg
namespace Go.Fg
set_option linter.unusedSimpArgs false
set_option linter.unusedVariables false
section
variable {P : Program} {base nt : Nat} {w0 : Start} {Q : Exit → St → Prop} {k : List Item} {s : St}
def JoinP (P : Program) (base nt : Nat) (w0 : Start) (Q : Exit → St → Prop) (k : List Item) (T : St → Prop) : Exit → St → Prop
  | .normal, s => ∃ s1, T s1 ∧ Weak w0 s s1
  | e, s => kont P base nt w0 Q k e s
variable {T : St → Prop}
@[go_sem] theorem JoinP_normal : JoinP P base nt w0 Q k T .normal s = ∃ s1, T s1 ∧ Weak w0 s s1 := eqOf rfl
@[go_sem] theorem JoinP_exit {j : Nat} : JoinP P base nt w0 Q k T (.exit j) s = kont P base nt w0 Q k (.exit j) s := eqOf rfl
@[go_sem] theorem JoinP_ret : JoinP P base nt w0 Q k T .ret s = kont P base nt w0 Q k .ret s := eqOf rfl
/-- Behind the first piece every way stands in a state of the family. -/
theorem kont_joinP {x : Item} {c : Code} (T : St → Prop) (h1 : kont P base nt w0 (JoinP P base nt w0 Q (.code c :: k) T) [x] .normal s) (h2 : ∀ s1, T s1 → kont P base nt w0 Q (.code c :: k) .normal s1) : kont P base nt w0 Q (x :: .code c :: k) .normal s := by
  have key : ∀ s', (∃ s1, T s1 ∧ Weak w0 s' s1) → kont P base nt w0 Q (.code c :: k) .normal s' := fun s' ⟨s1, ht, hw⟩ => kont_weak_code hw (h2 s1 ht)
  cases x with
  | code x =>
    simp only [kont] at h1
    show A P base nt w0 x _ s
    refine h1.mono fun e s' he => ?_
    cases e with
    | normal => exact key _ he
    | _ => exact he
  | ops l =>
    simp only [kont] at h1
    show AG P base nt w0 l _ s
    intro Z z pl a w r b
    refine wpG_mono (fun e a' w' ⟨s', pl', hs, r', b'⟩ => ⟨s', pl', ?_, r', b'⟩) _ _ _ (h1 Z z pl a w r b)
    cases e with
    | normal => exact key _ hs
    | _ => exact hs
  | inBlock id => simp only [kont] at h1 ⊢; exact key _ h1
  | inScope => simp only [kont] at h1 ⊢; exact key _ h1
end
/-- What stands behind a region, at every head. -/
def headC : List Item → Bool
  | .inBlock _ :: k => headC k
  | .inScope :: k => headC k
  | .code _ :: _ => true
  | .ops _ :: _ => true
  | [] => false
theorem kont_weak {P : Program} {base nt : Nat} {w0 : Start} {Q : Exit → St → Prop} {s s' : St} (h : Weak w0 s s') : ∀ {k : List Item}, headC k = true → kont P base nt w0 Q k .normal s' → kont P base nt w0 Q k .normal s
  | [], hc, _ => by cases hc
  | .code c :: k, _, hk => kont_weak_code h hk
  | .ops l :: k, _, hk => kont_weak_ops h hk
  | .inBlock n :: k, hc, hk => by
    rw [headC] at hc
    simp only [kont] at hk ⊢
    exact kont_weak h hc hk
  | .inScope :: k, hc, hk => by
    rw [headC] at hc
    simp only [kont] at hk ⊢
    exact kont_weak h hc hk
end Go.Fg
/- The sort of words of 64 bits, by the library's text: walked (1): comparison, order, median. Conditions: places within the array. -/
namespace Go.Fg.X
open Go.Proofs Go.Fg
set_option maxRecDepth 100000
set_option maxHeartbeats 4000000
set_option linter.unusedSimpArgs false
set_option linter.unusedVariables false
@[go_sem] def uI (n : Int) : D := .raw (.int .u64 n)
def ltI (x y : Int) : Bool := decide (x < y)
def rowA (d : Array Int) : Nat → List D := fun i => [uI d[i]!]
@[go_sem] theorem rowA_at (d : Array Int) (i : Nat) : rowA d i = [uI d[i]!] := rfl
@[go_sem] def arrO (g : Nat) (d : Array Int) : Ob := ⟨.arr, g, 1, d.size, rowA d⟩
/-- What stands but for one object. -/
structure UpdO (h h' : List Ob) (lo : Nat) (o : Ob) : Prop where
  at_ : h'[lo]? = some o
  old : ∀ l, l < h.length → l ≠ lo → h'[l]? = h[l]?
  len : h.length ≤ h'.length
theorem isNaN_ok (x : Int) : AFn Tryz.prog 139 [uI x] (Ret (dbool false)) := by
  refine AFn_hxk 0 cx_ok 200 Tryz.func139 rfl Tryz.ntmps139 Tryz.results139 rfl fun base w hb => ?_
  simp only [go_sem, simprocAttr]
  simp only [go_sem, simprocAttr, bne_self_eq_false]
theorem lessU_ok (x y : Int) : AFn Tryz.prog 127 [uI x, uI y] (Ret (dbool (ltI x y))) := by
  refine AFn_hxk 0 cx_ok 200 Tryz.func127 rfl Tryz.ntmps127 Tryz.results127 rfl fun base w hb => ?_
  simp only [go_sem, simprocAttr]
  refine kont_call hb fn139 rfl ?_ (isNaN_ok x) (Ret.flat rfl) rfl fun d h hR => ?_
  · simp only [go_sem, simprocAttr, Go.undef]
  obtain ⟨rfl, rfl⟩ := hR
  refine kont_of_hx cx_ok hb 200 ?_
  simp only [go_sem, simprocAttr, Go.undef]
  unfold ltI
  rfl
theorem setU_same {h : List Ob} {l : Nat} {o : Ob} (e : h[l]? = some o) : h.set l o = h := List.ext_getElem? fun i => by
  by_cases c : l = i
  · subst c; rw [hgetS (hlt e), e]
  · rw [hgetN c]
@[go_sem] def swpsO (n : Nat) : Ob := ⟨.one, 0, 1, 1, fun _ => [dint n]⟩
section
variable {h : List Ob} {lo g : Nat} {d : Array Int} (ho : h[lo]? = some (arrO g d))
include ho
theorem order2_ok {sp : Nat} (s : Nat) (hsp : h[sp]? = some (swpsO s)) (hne : sp ≠ lo) (a b : Nat) (ha : a < d.size) (hb0 : b < d.size) (hs : s < 1000000) :
    MFn Tryz.prog 141 h [.ref lo g 0 d.size, dint a, dint b, .ptr sp 0 0 0] (fun dd h' => dd = .tup [dint (Sort.order2 ltI d a b s).1, dint (Sort.order2 ltI d a b s).2.1] ∧ h' = h.set sp (swpsO (Sort.order2 ltI d a b s).2.2)) := by
  have hwr := wrap_succ (show s < 4611686018427387904 by omega)
  unfold Sort.order2
  refine MFn_hx cx_ok 200 Tryz.func141 rfl Tryz.ntmps141 Tryz.results141 rfl fun base w pl hb => ?_
  have ho_l := hlt ho
  have hsp_l := hlt hsp
  simp only [go_sem, simprocAttr, hgetA, hgetL, hgetLk, hsetA, hsetL, hsetLk, List.length_append, List.length_set, List.append_assoc, List.set_set, ho, ho_l, hsp, hsp_l]
  refine kont_hax cx_ok hb 200 mixed [(0, true), (1, true), (2, true), (3, true), (4, true), (5, true), (6, true), (7, true), (8, false)] (by kernel_rfl) (by kernel_rfl) ?_
  simp only [go_sem, simprocAttr, ho, ho_l, ha, hb0]
  refine AX_call hb fn127 rfl ?_ (lessU_ok d[b]! d[a]!) (Ret.flat rfl) rfl fun d h hR => ?_
  · simp only [go_sem, simprocAttr]
  obtain ⟨rfl, rfl⟩ := hR
  refine AX_of_hax cx_ok hb ?_
  simp only [go_sem, simprocAttr]
  cases hl : ltI d[b]! d[a]!
  · simp only [go_sem, simprocAttr, hl]
    exact (setU_same hsp).symm
  · simp only [go_sem, simprocAttr, hl, hsp, hsp_l, hwr]
theorem order2_b (a b s : Nat) (ha : a < d.size) (hb : b < d.size) : (Sort.order2 ltI d a b s).1 < d.size ∧ (Sort.order2 ltI d a b s).2.1 < d.size ∧ (Sort.order2 ltI d a b s).2.2 ≤ s + 1 := by
  have _hu := ho
  unfold Sort.order2
  split <;> simp_all
theorem median_ok {sp : Nat} (s : Nat) (hsp : h[sp]? = some (swpsO s)) (hne : sp ≠ lo) (a b c : Nat) (ha : a < d.size) (hb0 : b < d.size) (hc0 : c < d.size) (hs : s < 900000) :
    MFn Tryz.prog 138 h [.ref lo g 0 d.size, dint a, dint b, dint c, .ptr sp 0 0 0] (fun dd h' => dd = dint (Sort.median ltI d a b c s).1 ∧ h' = h.set sp (swpsO (Sort.median ltI d a b c s).2)) := by
  have q1 := order2_b ho a b s ha hb0
  have q2 := order2_b ho (Sort.order2 ltI d a b s).2.1 c (Sort.order2 ltI d a b s).2.2 q1.2.1 hc0
  have hsp_l := hlt hsp
  have g1 : ∀ o, (h.set sp o)[lo]? = some (arrO g d) := fun o => (hgetN hne).trans ho
  have g2 : ∀ o, (h.set sp o)[sp]? = some o := fun o => hgetS hsp_l
  unfold Sort.median
  refine MFn_hx cx_ok 200 Tryz.func138 rfl Tryz.ntmps138 Tryz.results138 rfl fun base w pl hb => ?_
  have ho_l := hlt ho
  have hsp_l := hlt hsp
  simp only [go_sem, simprocAttr, hgetA, hgetL, hgetLk, hsetA, hsetL, hsetLk, List.length_append, List.length_set, List.append_assoc, List.set_set, ho, ho_l, hsp, hsp_l]
  refine kont_callH hb fn141 rfl ?_ (order2_ok ho s hsp hne a b ha hb0 (by omega)) rfl fun d h hR => ?_
  · simp only [go_sem, simprocAttr]
  obtain ⟨rfl, rfl⟩ := hR
  refine kont_of_hx cx_ok hb 200 ?_
  simp only [go_sem, simprocAttr]
  refine kont_callH hb fn141 rfl ?_ (order2_ok (g1 _) _ (g2 _) hne _ c q1.2.1 hc0 (by omega)) rfl fun d h hR => ?_
  · simp only [go_sem, simprocAttr, List.set_set]
  obtain ⟨rfl, rfl⟩ := hR
  refine kont_of_hx cx_ok hb 200 ?_
  simp only [go_sem, simprocAttr, List.set_set]
  refine kont_callH hb fn141 rfl ?_ (order2_ok (g1 _) _ (g2 _) hne _ _ q1.1 q2.1 (by omega)) rfl fun d h hR => ?_
  · simp only [go_sem, simprocAttr, List.set_set]
  obtain ⟨rfl, rfl⟩ := hR
  refine kont_of_hx cx_ok hb 200 ?_
  simp only [go_sem, simprocAttr, List.set_set]
theorem medianAdj_ok {sp : Nat} (s : Nat) (hsp : h[sp]? = some (swpsO s)) (hne : sp ≠ lo) (a : Nat) (ha : 1 ≤ a) (hb0 : a + 1 < d.size) (hs : s < 900000) (hz : d.size < 1000000000) :
    MFn Tryz.prog 137 h [.ref lo g 0 d.size, dint a, .ptr sp 0 0 0] (fun dd h' => dd = dint (Sort.medianAdjacent ltI d a s).1 ∧ h' = h.set sp (swpsO (Sort.medianAdjacent ltI d a s).2)) := by
  have e1 : IntKind.i64.wrap ((a : Int) - 1) = ((a - 1 : Nat) : Int) := by rw [wrap64 (by omega) (by omega)]; omega
  have e2 : IntKind.i64.wrap ((a : Int) + 1) = ((a + 1 : Nat) : Int) := by rw [wrap64 (by omega) (by omega)]; omega
  unfold Sort.medianAdjacent
  refine MFn_hx cx_ok 200 Tryz.func137 rfl Tryz.ntmps137 Tryz.results137 rfl fun base w pl hb => ?_
  have ho_l := hlt ho
  have hsp_l := hlt hsp
  simp only [go_sem, simprocAttr, hgetA, hgetL, hgetLk, hsetA, hsetL, hsetLk, List.length_append, List.length_set, List.append_assoc, List.set_set, ho, ho_l, hsp, hsp_l, e1, e2]
  refine kont_callH hb fn138 rfl ?_ (median_ok ho s hsp hne (a - 1) a (a + 1) (by omega) (by omega) (by omega) hs) rfl fun d h hR => ?_
  · simp only [go_sem, simprocAttr]
  obtain ⟨rfl, rfl⟩ := hR
  refine kont_of_hx cx_ok hb 200 ?_
  simp only [go_sem, simprocAttr]
end
end Go.Fg.X
/- The sort of words of 64 bits: walked (2): the pivot. Conditions: places within the array. -/
namespace Go.Fg.X
open Go.Proofs Go.Fg
set_option maxRecDepth 100000
set_option maxHeartbeats 4000000
set_option linter.unusedSimpArgs false
set_option linter.unusedVariables false
theorem median_b {d : Array Int} (a b c s : Nat) (ha : a < d.size) (hb : b < d.size) (hc : c < d.size) : (Sort.median ltI d a b c s).1 < d.size ∧ (Sort.median ltI d a b c s).2 ≤ s + 3 := by
  unfold Sort.median Sort.order2
  dsimp only
  repeat' split
  all_goals simp_all
def hintN : Sort.Hint → Nat
  | .unknown => 0
  | .increasing => 1
  | .decreasing => 2
def chFin (r : Nat × Nat) : Nat × Sort.Hint := (r.1, if r.2 = 0 then .increasing else if r.2 = 12 then .decreasing else .unknown)
section
variable (d : Array Int) (a b : Nat)
def chI (k : Nat) : Nat := a + (b - a) / 4 * k
def ch1 : Nat × Nat := Sort.medianAdjacent ltI d (chI a b 1) 0
def ch2 : Nat × Nat := Sort.medianAdjacent ltI d (chI a b 2) (ch1 d a b).2
def ch3 : Nat × Nat := Sort.medianAdjacent ltI d (chI a b 3) (ch2 d a b).2
def ch4 : Nat × Nat := Sort.median ltI d (ch1 d a b).1 (ch2 d a b).1 (ch3 d a b).1 (ch3 d a b).2
def ch5 : Nat × Nat := Sort.median ltI d (chI a b 1) (chI a b 2) (chI a b 3) 0
def chP : Nat × Nat := if b - a ≥ 8 then (if b - a ≥ 50 then ch4 d a b else ch5 d a b) else (chI a b 2, 0)
theorem choose_eq : Sort.choosePivot ltI d a b = chFin (chP d a b) := rfl
end
section
variable {h : List Ob} {lo g : Nat} {d : Array Int} (ho : h[lo]? = some (arrO g d))
include ho
theorem choosePivot_ok (a b : Nat) (hab : a < b) (hb0 : b ≤ d.size) (hz : d.size < 1000000000) :
    MFn Tryz.prog 124 h [.ref lo g 0 d.size, dint a, dint b] (fun dd h' => dd = .tup [dint (Sort.choosePivot ltI d a b).1, dint (hintN (Sort.choosePivot ltI d a b).2)] ∧ ∃ t, h' = h ++ t) := by
  have e0 : IntKind.i64.wrap ((b : Int) - a) = ((b - a : Nat) : Int) := by rw [wrap64 (by omega) (by omega)]; omega
  have w0 : ∀ n : Nat, n < 1000000000 → IntKind.i64.wrap (n : Int) = n := fun n hn => wrap64 (by omega) (by omega)
  have e1 : IntKind.i64.wrap (((b - a) / 4 : Nat) * (1 : Int)) = (((b - a) / 4 * 1 : Nat) : Int) := by rw [wrap64 (by omega) (by omega)]; omega
  have e2 : IntKind.i64.wrap (((b - a) / 4 : Nat) * (2 : Int)) = (((b - a) / 4 * 2 : Nat) : Int) := by rw [wrap64 (by omega) (by omega)]; omega
  have e3 : IntKind.i64.wrap (((b - a) / 4 : Nat) * (3 : Int)) = (((b - a) / 4 * 3 : Nat) : Int) := by rw [wrap64 (by omega) (by omega)]; omega
  have f1 : IntKind.i64.wrap ((a : Int) + ((b - a) / 4 * 1 : Nat)) = ((chI a b 1 : Nat) : Int) := by unfold chI; rw [wrap64 (by omega) (by omega)]; omega
  have f2 : IntKind.i64.wrap ((a : Int) + ((b - a) / 4 * 2 : Nat)) = ((chI a b 2 : Nat) : Int) := by unfold chI; rw [wrap64 (by omega) (by omega)]; omega
  have f3 : IntKind.i64.wrap ((a : Int) + ((b - a) / 4 * 3 : Nat)) = ((chI a b 3 : Nat) : Int) := by unfold chI; rw [wrap64 (by omega) (by omega)]; omega
  have f0 : IntKind.i64.wrap (((b - a : Nat) : Int).tdiv 4) = (((b - a) / 4 : Nat) : Int) := by rw [show ((b - a : Nat) : Int).tdiv 4 = (((b - a) / 4 : Nat) : Int) from rfl, wrap64 (by omega) (by omega)]
  refine MFn_hx cx_ok 200 Tryz.func124 rfl Tryz.ntmps124 Tryz.results124 rfl fun base w pl hb => ?_
  have ho_l := hlt ho
  simp only [go_sem, simprocAttr, hgetA, hgetL, hgetLk, hsetA, hsetL, hsetLk, List.length_append, List.length_set, List.append_assoc, List.set_set, ho, ho_l, e0, f0, e1, e2, e3, f1, f2, f3]
  have g1 : ∀ o : Ob, (h ++ [o])[lo]? = some (arrO g d) := fun o => by rw [List.getElem?_append_left ho_l]; exact ho
  have g2 : ∀ o : Ob, (h ++ [o])[h.length]? = some o := fun o => by simp
  have g3 : ∀ o o' : Ob, (h ++ [o]).set h.length o' = h ++ [o'] := fun o o' => by rw [hsetL rfl]; rfl
  have hne : h.length ≠ lo := by omega
  rw [choose_eq]
  unfold chP
  by_cases c8 : b - a ≥ 8
  · rw [if_pos c8]
    have d8 : decide ((8 : Int) ≤ (b - a : Nat)) = true := decide_eq_true (by omega)
    by_cases c50 : b - a ≥ 50
    · rw [if_pos c50]
      have d50 : decide ((50 : Int) ≤ (b - a : Nat)) = true := decide_eq_true (by omega)
      simp only [go_sem, simprocAttr, d8, d50]
      have q1 : (ch1 d a b).1 < d.size ∧ (ch1 d a b).2 ≤ 3 := by unfold ch1; exact median_b _ _ _ _ (by unfold chI; omega) (by unfold chI; omega) (by unfold chI; omega)
      have q2 : (ch2 d a b).1 < d.size ∧ (ch2 d a b).2 ≤ (ch1 d a b).2 + 3 := by unfold ch2; exact median_b _ _ _ _ (by unfold chI; omega) (by unfold chI; omega) (by unfold chI; omega)
      have q3 : (ch3 d a b).1 < d.size ∧ (ch3 d a b).2 ≤ (ch2 d a b).2 + 3 := by unfold ch3; exact median_b _ _ _ _ (by unfold chI; omega) (by unfold chI; omega) (by unfold chI; omega)
      refine kont_callH hb fn137 rfl ?_ (medianAdj_ok (g1 _) 0 (g2 _) hne (chI a b 1) (by unfold chI; omega) (by unfold chI; omega) (by omega) hz) rfl fun d h hR => ?_
      · simp only [go_sem, simprocAttr, g3]
      obtain ⟨rfl, rfl⟩ := hR
      refine kont_of_hx cx_ok hb 200 ?_
      simp only [go_sem, simprocAttr, g3]
      refine kont_callH hb fn137 rfl ?_ (medianAdj_ok (g1 _) (ch1 d a b).2 (g2 _) hne (chI a b 2) (by unfold chI; omega) (by unfold chI; omega) (by omega) hz) rfl fun d h hR => ?_
      · simp only [go_sem, simprocAttr, g3]
      obtain ⟨rfl, rfl⟩ := hR
      refine kont_of_hx cx_ok hb 200 ?_
      simp only [go_sem, simprocAttr, g3]
      refine kont_callH hb fn137 rfl ?_ (medianAdj_ok (g1 _) (ch2 d a b).2 (g2 _) hne (chI a b 3) (by unfold chI; omega) (by unfold chI; omega) (by omega) hz) rfl fun d h hR => ?_
      · simp only [go_sem, simprocAttr, g3]
      obtain ⟨rfl, rfl⟩ := hR
      refine kont_of_hx cx_ok hb 200 ?_
      simp only [go_sem, simprocAttr, g3]
      refine kont_callH hb fn138 rfl ?_ (median_ok (g1 _) (ch3 d a b).2 (g2 _) hne (Sort.medianAdjacent ltI d (chI a b 1) 0).1 (Sort.medianAdjacent ltI d (chI a b 2) (ch1 d a b).2).1 (Sort.medianAdjacent ltI d (chI a b 3) (ch2 d a b).2).1 q1.1 q2.1 q3.1 (by omega)) rfl fun d h hR => ?_
      · simp only [go_sem, simprocAttr, g3]
      obtain ⟨rfl, rfl⟩ := hR
      refine kont_of_hx cx_ok hb 200 ?_
      simp only [go_sem, simprocAttr, g3]
      generalize hr : Sort.median ltI d (Sort.medianAdjacent ltI d (chI a b 1) 0).1 (Sort.medianAdjacent ltI d (chI a b 2) (ch1 d a b).2).1 (Sort.medianAdjacent ltI d (chI a b 3) (ch2 d a b).2).1 (ch3 d a b).2 = r
      have hr4 : ch4 d a b = r := hr
      rw [hr4]
      simp only [go_sem, simprocAttr, g2]
      unfold chFin
      by_cases z0 : r.2 = 0
      · have z1 : ((r.2 : Int) == 0) = true := by rw [z0]; rfl
        simp only [go_sem, simprocAttr, z1, z0]
        exact ⟨rfl, _, rfl⟩
      · have z1 : ((r.2 : Int) == 0) = false := beq_eq_false_iff_ne.mpr (by omega)
        by_cases z12 : r.2 = 12
        · have z2 : ((r.2 : Int) == 12) = true := by rw [z12]; rfl
          simp only [go_sem, simprocAttr, z1, z2, z0, z12]
          exact ⟨rfl, _, rfl⟩
        · have z2 : ((r.2 : Int) == 12) = false := beq_eq_false_iff_ne.mpr (by omega)
          simp only [go_sem, simprocAttr, z1, z2, z0, z12]
          exact ⟨rfl, _, rfl⟩
    · rw [if_neg c50]
      have d50 : decide ((50 : Int) ≤ (b - a : Nat)) = false := decide_eq_false (by omega)
      simp only [go_sem, simprocAttr, d8, d50]
      refine kont_callH hb fn138 rfl ?_ (median_ok (g1 _) 0 (g2 _) hne (chI a b 1) (chI a b 2) (chI a b 3) (by unfold chI; omega) (by unfold chI; omega) (by unfold chI; omega) (by omega)) rfl fun d h hR => ?_
      · simp only [go_sem, simprocAttr, g3]
      obtain ⟨rfl, rfl⟩ := hR
      refine kont_of_hx cx_ok hb 200 ?_
      simp only [go_sem, simprocAttr, g3]
      generalize hr : Sort.median ltI d (chI a b 1) (chI a b 2) (chI a b 3) 0 = r
      have hr4 : ch5 d a b = r := hr
      rw [hr4]
      simp only [go_sem, simprocAttr, g2]
      unfold chFin
      by_cases z0 : r.2 = 0
      · have z1 : ((r.2 : Int) == 0) = true := by rw [z0]; rfl
        simp only [go_sem, simprocAttr, z1, z0]
        exact ⟨rfl, _, rfl⟩
      · have z1 : ((r.2 : Int) == 0) = false := beq_eq_false_iff_ne.mpr (by omega)
        by_cases z12 : r.2 = 12
        · have z2 : ((r.2 : Int) == 12) = true := by rw [z12]; rfl
          simp only [go_sem, simprocAttr, z1, z2, z0, z12]
          exact ⟨rfl, _, rfl⟩
        · have z2 : ((r.2 : Int) == 12) = false := beq_eq_false_iff_ne.mpr (by omega)
          simp only [go_sem, simprocAttr, z1, z2, z0, z12]
          exact ⟨rfl, _, rfl⟩
  · rw [if_neg c8]
    have d8 : decide ((8 : Int) ≤ (b - a : Nat)) = false := decide_eq_false (by omega)
    simp only [go_sem, simprocAttr, d8, g2]
    exact ⟨rfl, _, rfl⟩
end
end Go.Fg.X
/- The sort of words of 64 bits: walked (3): turning a range round, sifting. Conditions: places within the array. -/
namespace Go.Fg.X
open Go.Proofs Go.Fg
set_option maxRecDepth 100000
set_option maxHeartbeats 4000000
set_option linter.unusedSimpArgs false
set_option linter.unusedVariables false
theorem arr_at {h : List Ob} {lo g : Nat} {d : Array Int} (hl : lo < h.length) : (h.set lo (arrO g d))[lo]? = some (arrO g d) := hgetS hl
theorem swp_size (d : Array Int) (i j : Nat) : (Sort.swp d i j).size = d.size := by simp [Sort.swp]
theorem dropB (c : Bool) (x y : D) : List.drop 1 (bif c then [x] else [y]) = [] := by cases c <;> rfl
theorem obj_swp (g : Nat) (d : Array Int) (i j n : Nat) (hn : d.size = n) (hi : i < n) (hj : j < n) :
    (⟨.arr, g, 1, n, fun k => bif k == j then [.raw (.int .u64 d[i]!)] else bif k == i then [.raw (.int .u64 d[j]!)] else [.raw (.int .u64 d[k]!)]⟩ : Ob) = arrO g (Sort.swp d i j) := by
  subst hn
  unfold arrO
  congr 1
  · exact (swp_size d i j).symm
  · funext k
    unfold rowA uI Sort.swp
    by_cases k1 : k = j
    · subst k1
      have e1 : (k == k) = true := beq_self_eq_true k
      by_cases k2 : k = i
      · subst k2; simp [hi]
      · simp [hi, hj, k2, Ne.symm k2]
    · by_cases k2 : k = i
      · subst k2
        have e1 : (k == j) = false := beq_eq_false_iff_ne.mpr k1
        simp [hi, hj, k1, Ne.symm k1, e1]
      · have e1 : (k == j) = false := beq_eq_false_iff_ne.mpr k1
        have e2 : (k == i) = false := beq_eq_false_iff_ne.mpr k2
        rw [e1, e2]
        by_cases k3 : k < d.size
        · simp [k1, k2, k3, Ne.symm k1, Ne.symm k2, Array.getElem_setIfInBounds]
        · simp [k1, k2, k3]
section
variable {h : List Ob} {lo g : Nat} {d : Array Int} (ho : h[lo]? = some (arrO g d))
include ho
theorem reverse_ok (a b : Nat) (hab : a < b) (hb0 : b ≤ d.size) (hz : d.size < 1000000000) :
    MFn Tryz.prog 125 h [.ref lo g 0 d.size, dint a, dint b] (fun dd h' => dd = .tup [] ∧ h' = h.set lo (arrO g (Sort.reverseRange d a b))) := by
  have e0 : IntKind.i64.wrap ((b : Int) - 1) = ((b - 1 : Nat) : Int) := by rw [wrap64 (by omega) (by omega)]; omega
  refine MFn_hx cx_ok 200 Tryz.func125 rfl Tryz.ntmps125 Tryz.results125 rfl fun base w pl hb => ?_
  have ho_l := hlt ho
  simp only [go_sem, simprocAttr, hgetA, hgetL, hgetLk, hsetA, hsetL, hsetLk, List.length_append, List.length_set, List.append_assoc, List.set_set, ho, ho_l, e0]
  refine kont_for (fun k st => ∃ d' : Array Int, d'.size = d.size ∧ Sort.reverseLoop (a + k) (b - 1 - k) d' = Sort.reverseRange d a b ∧ a + k ≤ b - k ∧ st = ⟨[(0, .ref lo g 0 d.size), (6, dint (a + k : Nat)), (7, dint (b - 1 - k : Nat))], h.set lo (arrO g d')⟩) d.size (s0 := ⟨[(0, .ref lo g 0 d.size), (6, dint (a + 0 : Nat)), (7, dint (b - 1 - 0 : Nat))], h.set lo (arrO g d)⟩) ?_ ⟨d, rfl, rfl, by omega, rfl⟩ ?_
  · rw [setU_same ho]
    exact Weak.frame (by simp only [go_sem, simprocAttr, Nat.sub_zero])
  rintro k _ hk ⟨d', hs, hd, hi, rfl⟩
  have hl := arr_at (g := g) (d := d') ho_l
  generalize hH : h.set lo (arrO g d') = H at hl
  have hl_l := hlt hl
  by_cases c : a + k < b - 1 - k
  · have c1 : decide (a + k < b - 1 - k) = true := decide_eq_true c
    have c2 : a + k < d.size := by omega
    have c3 : b - 1 - k < d.size := by omega
    refine kont_of_hx cx_ok hb 200 ?_
    simp only [go_sem, simprocAttr, hgetA, hgetL, hgetLk, hsetA, hsetL, hsetLk, List.length_append, List.length_set, List.append_assoc, List.set_set, hl, hl_l, c1]
    refine kont_hax cx_ok hb 200 mixed [(0, true), (1, true), (2, true), (3, true), (4, true), (5, true), (6, true), (7, true), (8, true), (9, true), (10, true), (11, true), (12, true), (13, false), (14, true), (15, false)] (by kernel_rfl) (by kernel_rfl) ?_
    simp only [go_sem, simprocAttr, hgetA, hgetL, hgetLk, hsetA, hsetL, hsetLk, List.length_append, List.length_set, List.append_assoc, List.set_set, hl, hl_l, hs, c2, c3, hgetS hl_l, List.set_set, dropB]
    have v1 : IntKind.i64.wrap (((a + k : Nat) : Int) + 1) = ((a + (k + 1) : Nat) : Int) := by rw [wrap64 (by omega) (by omega)]; omega
    have v2 : IntKind.i64.wrap (((b - 1 - k : Nat) : Int) - 1) = ((b - 1 - (k + 1) : Nat) : Int) := by rw [wrap64 (by omega) (by omega)]; omega
    rw [obj_swp g d' _ _ _ hs c2 c3, v1, v2]
    have hd2 : Sort.reverseLoop (a + (k + 1)) (b - 1 - (k + 1)) (Sort.swp d' (a + k) (b - 1 - k)) = Sort.reverseRange d a b := by
      rw [← hd]
      conv => rhs; rw [Sort.reverseLoop, if_pos c]
      congr 1
    refine ⟨by omega, _, ?_, Sort.swp d' (a + k) (b - 1 - k), by rw [swp_size, hs], hd2, by omega, rfl⟩
    rw [← hH, List.set_set]
    exact Weak.frame (by simp only [go_sem, simprocAttr])
  · have c1 : decide (a + k < b - 1 - k) = false := decide_eq_false c
    refine kont_of_hx cx_ok hb 200 ?_
    simp only [go_sem, simprocAttr, hgetA, hgetL, hgetLk, hsetA, hsetL, hsetLk, List.length_append, List.length_set, List.append_assoc, List.set_set, hl, hl_l, c1]
    rw [Sort.reverseLoop, if_neg c] at hd
    subst hH
    exact congrArg (fun x => h.set lo (arrO g x)) hd
end
end Go.Fg.X
