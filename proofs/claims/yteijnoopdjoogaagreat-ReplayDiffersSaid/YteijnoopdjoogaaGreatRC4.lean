/- Walks of the functions that the statement reaches. No conditions: contracts and laws. -/
import Derived.Test.YteijnoopdjoogaaGreatXW0
import Derived.Test.YteijnoopdjoogaaGreatFgCopy
/- Balanced trees by their shape: items in order, what a node knows, and where its nodes lie. Plain laws. No conditions. -/
namespace Go.Fg.X
set_option linter.unusedVariables false
open Go.Proofs Go.Fg
set_option maxRecDepth 100000
set_option linter.unusedSimpArgs false
@[go_sem] theorem wl0 : IntKind.i64.wrap 0 = 0 := by decide
@[go_sem] theorem wl1 : IntKind.i64.wrap 1 = 1 := by decide
@[go_sem] theorem wl2 : IntKind.i64.wrap 2 = 2 := by decide
@[go_sem] theorem wl3 : IntKind.i64.wrap 3 = 3 := by decide
@[go_sem] theorem wl4 : IntKind.i64.wrap 4 = 4 := by decide
/-- A key with a value: ticks and numbers of both. -/
structure It where
  ka : Nat
  ki : Int
  va : Nat
  vi : Int
deriving DecidableEq
instance : Inhabited It := ⟨⟨0, 0, 0, 0⟩⟩
@[go_sem] def It.cells (x : It) : List D := [u64 x.ka, dint x.ki, u64 x.va, dint x.vi]
def kLt (a : Nat) (i : Int) (b : Nat) (j : Int) : Prop := a < b ∨ (a = b ∧ i < j)
instance (a : Nat) (i : Int) (b : Nat) (j : Int) : Decidable (kLt a i b j) := inferInstanceAs (Decidable (_ ∨ _))
def It.lt (x y : It) : Prop := kLt x.ka x.ki y.ka y.ki
instance (x y : It) : Decidable (x.lt y) := inferInstanceAs (Decidable (kLt _ _ _ _))
def cmpI (a : Nat) (i : Int) (b : Nat) (j : Int) : Int := if a = b ∧ i = j then 0 else if kLt a i b j then -1 else 1
/-- The item with the lesser value, or key. -/
def better (a b : It) : It := if cmpI b.va b.vi a.va a.vi < 0 ∨ (cmpI b.va b.vi a.va a.vi = 0 ∧ cmpI b.ka b.ki a.ka a.ki < 0) then b else a
inductive Tr where
  | nil
  | node (loc : Nat) (it : It) (l r : Tr)
deriving Inhabited
namespace Tr
def list : Tr → List It
  | .nil => []
  | .node _ it l r => l.list ++ it :: r.list
def locs : Tr → List Nat
  | .nil => []
  | .node loc _ l r => loc :: (l.locs ++ r.locs)
def high : Tr → Nat
  | .nil => 0
  | .node _ _ l r => 1 + max l.high r.high
def size : Tr → Nat
  | .nil => 0
  | .node _ _ l r => 1 + l.size + r.size
def ptr : Tr → D
  | .nil => .raw (.pointer none)
  | .node loc _ _ _ => .ptr loc 0 0 0
@[go_sem] theorem ptr_nil : Tr.nil.ptr = .raw (.pointer none) := rfl
@[go_sem] theorem ptr_node (loc : Nat) (it : It) (l r : Tr) : (Tr.node loc it l r).ptr = .ptr loc 0 0 0 := rfl
theorem upto_ptr {t : Tr} {k : Nat} (h : ∀ l ∈ t.locs, l < k) : t.ptr.upto k = true := by
  cases t with
  | nil => rfl
  | node loc it l r => simpa [ptr, D.upto] using h loc (by simp [locs])
@[go_sem] theorem cellsD_tr (t : Tr) : cellsD t.ptr = some [t.ptr] := by cases t <;> rfl
@[go_sem] theorem oneCell_tr (t : Tr) : t.ptr.oneCell = true := by cases t <;> rfl
@[go_sem] theorem argEq_tr (t : Tr) : argEq t.ptr t.ptr = True := by cases t <;> simp [argEq, ptr]
def bst2 (a : It) : Tr → (Tr → It) → It
  | .nil, _ => a
  | t, f => better a (f t)
def least : Tr → It
  | .nil => default
  | .node _ it l r => match l, r with
    | .nil, .nil => it
    | .nil, .node a b c d => better it (least (.node a b c d))
    | .node a b c d, .nil => better it (least (.node a b c d))
    | .node a b c d, .node a' b' c' d' => better (better it (least (.node a b c d))) (least (.node a' b' c' d'))
theorem list_len : ∀ t : Tr, t.list.length = t.size
  | .nil => rfl
  | .node _ _ l r => by simp only [list, size, List.length_append, List.length_cons, list_len l, list_len r]; omega
theorem high_le : ∀ t : Tr, t.high ≤ t.size
  | .nil => Nat.le_refl _
  | .node _ _ l r => by have := high_le l; have := high_le r; simp only [high, size]; omega
theorem locs_len : ∀ t : Tr, t.locs.length = t.size
  | .nil => rfl
  | .node _ _ l r => by simp only [locs, size, List.length_append, List.length_cons, locs_len l, locs_len r]; omega
end Tr
/-- A node's cells: the item, the trees below, the least item, height, number. -/
@[go_sem] def nodeC (it : It) (p q : D) (le : It) (hi n : Int) : List D := [u64 it.ka, dint it.ki, u64 it.va, dint it.vi, p, q, u64 le.ka, dint le.ki, u64 le.va, dint le.vi, dint hi, dint n]
@[go_sem] def nodeO (it : It) (p q : D) (le : It) (hi n : Int) : Ob := ⟨.one, 0, 12, 1, fun _ => nodeC it p q le hi n⟩
/-- The tree lies in a heap. -/
def TrIs (h : List Ob) : Tr → Prop
  | .nil => True
  | .node loc it l r => h[loc]? = some (nodeO it l.ptr r.ptr (Tr.node loc it l r).least ((Tr.node loc it l r).high : Nat) ((Tr.node loc it l r).size : Nat)) ∧ TrIs h l ∧ TrIs h r
theorem TrIs.frame {h h' : List Ob} : ∀ {t : Tr}, TrIs h t → (∀ l ∈ t.locs, h'[l]? = h[l]?) → TrIs h' t
  | .nil, _, _ => trivial
  | .node loc it l r, ⟨h1, h2, h3⟩, e => ⟨by rw [e loc (by simp [Tr.locs])]; exact h1, h2.frame fun x hx => e x (by simp [Tr.locs, hx]), h3.frame fun x hx => e x (by simp [Tr.locs, hx])⟩
theorem TrIs.lt {h : List Ob} : ∀ {t : Tr}, TrIs h t → ∀ l ∈ t.locs, l < h.length
  | .nil, _, l, hl => by cases hl
  | .node loc it l r, ⟨h1, h2, h3⟩, x, hx => by
    simp only [Tr.locs, List.mem_cons, List.mem_append] at hx
    rcases hx with rfl | hx | hx
    · exact lt_of_some h1
    · exact h2.lt x hx
    · exact h3.lt x hx
/-- The tree lies in a heap, to be read. -/
def TrR (h : List Ob) : Tr → Prop
  | .nil => True
  | .node loc it l r => (h.map Ob.ro)[loc]? = some (nodeO it l.ptr r.ptr (Tr.node loc it l r).least ((Tr.node loc it l r).high : Nat) ((Tr.node loc it l r).size : Nat)).ro ∧ TrR h l ∧ TrR h r
theorem TrIs.toR {h : List Ob} : ∀ {t : Tr}, TrIs h t → TrR h t
  | .nil, _ => trivial
  | .node _ _ _ _, ⟨h1, h2, h3⟩ => ⟨ro_get h1, h2.toR, h3.toR⟩
theorem TrR.more {h h' : List Ob} (e : ∀ (l : Nat) (o : Ob), (h.map Ob.ro)[l]? = some o → (h'.map Ob.ro)[l]? = some o) : ∀ {t : Tr}, TrR h t → TrR h' t
  | .nil, _ => trivial
  | .node _ _ _ _, ⟨h1, h2, h3⟩ => ⟨e _ _ h1, h2.more e, h3.more e⟩
theorem ro_more {h F g : List Ob} (hF : F = h.map Ob.ro) (l : Nat) (o : Ob) (e : (h.map Ob.ro)[l]? = some o) : ((F ++ g).map Ob.ro)[l]? = some o := by
  subst hF
  have h1 : l < (h.map Ob.ro).length := lt_of_some e
  rw [List.map_append, List.getElem?_append_left (by simpa using h1), List.map_map]
  rw [List.getElem?_map] at e ⊢
  cases hh : h[l]? with
  | none => rw [hh] at e; cases e
  | some u => rw [hh] at e; cases e; simp [ro_ro]
/-- What became of a tree, in another heap: the items, its nodes; all else as it was. -/
structure Upd (h : List Ob) (t : Tr) (L : List It) (h' : List Ob) (t' : Tr) : Prop where
  is : TrIs h' t'
  list : t'.list = L
  nd : t'.locs.Nodup
  mem : ∀ l ∈ t'.locs, l ∈ t.locs ∨ h.length ≤ l
  keep : ∀ l, l < h.length → l ∉ t.locs → h'[l]? = h[l]?
  len : h.length ≤ h'.length
theorem Upd.refl {h : List Ob} {t : Tr} (i : TrIs h t) (n : t.locs.Nodup) : Upd h t t.list h t := ⟨i, rfl, n, fun _ h => .inl h, fun _ _ _ => rfl, Nat.le_refl _⟩
theorem Upd.trans {h h' h'' : List Ob} {t t' t'' : Tr} {L L' : List It} (a : Upd h t L h' t') (b : Upd h' t' L' h'' t'') : Upd h t L' h'' t'' :=
  ⟨b.is, b.list, b.nd, fun l hl => by
    rcases b.mem l hl with h1 | h1
    · exact a.mem l h1
    · exact .inr (Nat.le_trans a.len h1), fun l hl hn => by
    rw [b.keep l (Nat.lt_of_lt_of_le hl a.len) fun h1 => by
      rcases a.mem l h1 with h2 | h2
      · exact hn h2
      · omega]
    exact a.keep l hl hn, Nat.le_trans a.len b.len⟩
/-! The order by values, then by keys. -/
def It.bLt (x y : It) : Prop := kLt x.va x.vi y.va y.vi ∨ (x.va = y.va ∧ x.vi = y.vi ∧ kLt x.ka x.ki y.ka y.ki)
instance (x y : It) : Decidable (x.bLt y) := inferInstanceAs (Decidable (_ ∨ _))
theorem kLt_irrefl (a : Nat) (i : Int) : ¬ kLt a i a i := by unfold kLt; omega
theorem kLt_trans {a : Nat} {i : Int} {b : Nat} {j : Int} {c : Nat} {k : Int} (h : kLt a i b j) (h2 : kLt b j c k) : kLt a i c k := by unfold kLt at *; omega
theorem kLt_total (a : Nat) (i : Int) (b : Nat) (j : Int) : kLt a i b j ∨ (a = b ∧ i = j) ∨ kLt b j a i := by unfold kLt; omega
theorem cmpI_neg {a : Nat} {i : Int} {b : Nat} {j : Int} : cmpI a i b j < 0 ↔ kLt a i b j := by
  unfold cmpI
  by_cases h : a = b ∧ i = j
  · rw [if_pos h]; obtain ⟨rfl, rfl⟩ := h; exact ⟨fun h => by omega, fun h => absurd h (kLt_irrefl _ _)⟩
  · rw [if_neg h]
    by_cases h2 : kLt a i b j
    · rw [if_pos h2]; exact ⟨fun _ => h2, fun _ => by omega⟩
    · rw [if_neg h2]; exact ⟨fun h => by omega, fun h => absurd h h2⟩
theorem cmpI_zero {a : Nat} {i : Int} {b : Nat} {j : Int} : cmpI a i b j = 0 ↔ a = b ∧ i = j := by
  unfold cmpI
  by_cases h : a = b ∧ i = j
  · rw [if_pos h]; exact ⟨fun _ => h, fun _ => rfl⟩
  · rw [if_neg h]
    by_cases h2 : kLt a i b j
    · rw [if_pos h2]; exact ⟨fun h => by omega, fun h1 => absurd h1 h⟩
    · rw [if_neg h2]; exact ⟨fun h => by omega, fun h1 => absurd h1 h⟩
theorem cmpI_pos {a : Nat} {i : Int} {b : Nat} {j : Int} : 0 < cmpI a i b j ↔ kLt b j a i := by
  have h1 := @cmpI_neg a i b j
  have h2 := @cmpI_zero a i b j
  have h3 := kLt_total a i b j
  constructor
  · intro h
    rcases h3 with h3 | h3 | h3
    · have := h1.2 h3; omega
    · have := h2.2 h3; omega
    · exact h3
  · intro h
    have n1 : ¬ cmpI a i b j < 0 := fun h4 => kLt_irrefl _ _ (kLt_trans h (h1.1 h4))
    have n2 : ¬ cmpI a i b j = 0 := fun h4 => by obtain ⟨rfl, rfl⟩ := h2.1 h4; exact kLt_irrefl _ _ h
    omega
theorem better_eq (a b : It) : better a b = if b.bLt a then b else a := by
  have h : (cmpI b.va b.vi a.va a.vi < 0 ∨ (cmpI b.va b.vi a.va a.vi = 0 ∧ cmpI b.ka b.ki a.ka a.ki < 0)) ↔ b.bLt a := by
    rw [cmpI_neg, cmpI_zero, cmpI_neg, It.bLt, and_assoc]
  unfold better
  by_cases hb : b.bLt a
  · rw [if_pos (h.2 hb), if_pos hb]
  · rw [if_neg (fun h1 => hb (h.1 h1)), if_neg hb]
theorem bLt_irrefl (a : It) : ¬ a.bLt a := fun h => by
  rcases h with h | ⟨_, _, h⟩ <;> exact kLt_irrefl _ _ h
theorem bLt_trans {a b c : It} (h : a.bLt b) (h2 : b.bLt c) : a.bLt c := by
  rcases h with h | ⟨e1, e2, h⟩ <;> rcases h2 with h2 | ⟨e3, e4, h2⟩
  · exact .inl (kLt_trans h h2)
  · exact .inl (by rw [← e3, ← e4]; exact h)
  · exact .inl (by rw [e1, e2]; exact h2)
  · exact .inr ⟨e1.trans e3, e2.trans e4, kLt_trans h h2⟩
theorem bLt_total (a b : It) : a.bLt b ∨ a = b ∨ b.bLt a := by
  rcases kLt_total a.va a.vi b.va b.vi with h | ⟨h1, h2⟩ | h
  · exact .inl (.inl h)
  · rcases kLt_total a.ka a.ki b.ka b.ki with h | ⟨h3, h4⟩ | h
    · exact .inl (.inr ⟨h1, h2, h⟩)
    · refine .inr (.inl ?_); cases a; cases b; simp_all
    · exact .inr (.inr (.inr ⟨h1.symm, h2.symm, h⟩))
  · exact .inr (.inr (.inl h))
/-- The better one of a and b: it is one of them, and none is better. -/
theorem better_or (a b : It) : (better a b = a ∧ ¬ b.bLt a) ∨ (better a b = b ∧ b.bLt a) := by
  rw [better_eq]
  by_cases h : b.bLt a
  · rw [if_pos h]; exact .inr ⟨rfl, h⟩
  · rw [if_neg h]; exact .inl ⟨rfl, h⟩
theorem better_le (a b : It) : ¬ a.bLt (better a b) ∧ ¬ b.bLt (better a b) := by
  rcases better_or a b with ⟨e, h⟩ | ⟨e, h⟩ <;> rw [e]
  · exact ⟨bLt_irrefl _, h⟩
  · exact ⟨fun h2 => bLt_irrefl _ (bLt_trans h h2), bLt_irrefl _⟩
/-- The least item of a list. -/
structure IsLeast (x : It) (L : List It) : Prop where
  mem : x ∈ L
  le : ∀ y ∈ L, ¬ y.bLt x
theorem IsLeast.uniq {x y : It} {L : List It} (a : IsLeast x L) (b : IsLeast y L) : x = y := by
  rcases bLt_total x y with h | h | h
  · exact absurd h (b.le x a.mem)
  · exact h
  · exact absurd h (a.le y b.mem)
theorem IsLeast.one (x : It) : IsLeast x [x] := ⟨by simp, fun y hy => by simp only [List.mem_singleton] at hy; subst hy; exact bLt_irrefl _⟩
theorem IsLeast.join {x y : It} {L M : List It} (a : IsLeast x L) (b : IsLeast y M) : IsLeast (better x y) (L ++ M) := by
  obtain ⟨h1, h2⟩ := better_le x y
  have nle : ∀ {p q r : It}, ¬ p.bLt q → ¬ q.bLt r → ¬ p.bLt r := fun {p q r} h h2 h3 => by
    rcases bLt_total q p with h4 | h4 | h4
    · exact h2 (bLt_trans h4 h3)
    · subst h4; exact h2 h3
    · exact h h4
  refine ⟨?_, fun z hz => ?_⟩
  · rcases better_or x y with ⟨e, _⟩ | ⟨e, _⟩ <;> rw [e]
    · exact List.mem_append_left _ a.mem
    · exact List.mem_append_right _ b.mem
  · rcases List.mem_append.1 hz with hz | hz
    · exact nle (a.le z hz) h1
    · exact nle (b.le z hz) h2
theorem IsLeast.perm {x : It} {L M : List It} (a : IsLeast x L) (h : ∀ y, y ∈ M ↔ y ∈ L) : IsLeast x M := ⟨(h x).2 a.mem, fun y hy => a.le y ((h y).1 hy)⟩
theorem Tr.least_is : ∀ (t : Tr), t ≠ .nil → IsLeast t.least t.list
  | .nil, h => absurd rfl h
  | .node _ it .nil .nil, _ => IsLeast.one it
  | .node _ it .nil (.node a b c d), _ => by
    have := Tr.least_is (.node a b c d) (by simp)
    exact ((IsLeast.one it).join this).perm fun y => by simp [Tr.list]
  | .node _ it (.node a b c d) .nil, _ => by
    have := Tr.least_is (.node a b c d) (by simp)
    exact ((IsLeast.one it).join this).perm fun y => by simp [Tr.list]; constructor <;> (intro h; rcases h with h | h | h | h <;> simp [h])
  | .node _ it (.node a b c d) (.node a' b' c' d'), _ => by
    have h1 := Tr.least_is (.node a b c d) (by simp)
    have h2 := Tr.least_is (.node a' b' c' d') (by simp)
    refine (((IsLeast.one it).join h1).join h2).perm fun y => ?_
    simp only [Tr.list, List.mem_append, List.mem_cons, List.mem_singleton]
    grind
end Go.Fg.X
/- Search in trees. Plain laws. No conditions. -/
namespace Go.Fg.X
set_option linter.unusedVariables false
open Go.Proofs Go.Fg
set_option maxRecDepth 100000
set_option linter.unusedSimpArgs false
/-- Keys rise. -/
def SortedI (L : List It) : Prop := L.Pairwise It.lt
theorem It.lt_trans {a b c : It} (h : a.lt b) (h2 : b.lt c) : a.lt c := kLt_trans h h2
theorem sorted_app {L M : List It} {x : It} : SortedI (L ++ x :: M) ↔ SortedI L ∧ SortedI M ∧ (∀ y ∈ L, y.lt x) ∧ (∀ y ∈ M, x.lt y) := by
  unfold SortedI
  rw [List.pairwise_append, List.pairwise_cons]
  constructor
  · rintro ⟨h1, ⟨h2, h3⟩, h4⟩
    exact ⟨h1, h3, fun y hy => h4 y hy x (by simp), h2⟩
  · rintro ⟨h1, h2, h3, h4⟩
    refine ⟨h1, ⟨h4, h2⟩, fun a ha b hb => ?_⟩
    rcases List.mem_cons.1 hb with rfl | hb
    · exact h3 a ha
    · exact It.lt_trans (h3 a ha) (h4 b hb)
def keyIs (a : Nat) (i : Int) (x : It) : Bool := x.ka == a && x.ki == i
def findT (a : Nat) (i : Int) (L : List It) : Option It := L.find? (keyIs a i)
/-- An item put where its key belongs. -/
def insI (x : It) : List It → List It
  | [] => [x]
  | y :: r => if y.lt x then y :: insI x r else x :: y :: r
/-- The item of a key taken out. -/
def delI (a : Nat) (i : Int) (L : List It) : List It := L.filter fun x => !keyIs a i x
theorem keyIs_iff {a : Nat} {i : Int} {x : It} : keyIs a i x = true ↔ x.ka = a ∧ x.ki = i := by simp [keyIs]
theorem find_app (a : Nat) (i : Int) (L M : List It) (x : It) (hs : SortedI (L ++ x :: M)) :
    findT a i (L ++ x :: M) = if x.ka = a ∧ x.ki = i then some x else if kLt x.ka x.ki a i then findT a i M else findT a i L := by
  obtain ⟨_, _, hl, hm⟩ := sorted_app.1 hs
  unfold findT
  rw [List.find?_append, List.find?_cons]
  have nL : (x.ka = a ∧ x.ki = i) ∨ kLt x.ka x.ki a i → L.find? (keyIs a i) = none := fun h => by
    rw [List.find?_eq_none]
    intro y hy hk
    obtain ⟨e1, e2⟩ := keyIs_iff.1 hk
    have h3 : kLt y.ka y.ki x.ka x.ki := hl y hy
    rw [e1, e2] at h3
    rcases h with ⟨rfl, rfl⟩ | h
    · exact kLt_irrefl _ _ h3
    · exact kLt_irrefl _ _ (kLt_trans h h3)
  have nM : kLt a i x.ka x.ki → M.find? (keyIs a i) = none := fun h => by
    rw [List.find?_eq_none]
    intro y hy hk
    obtain ⟨e1, e2⟩ := keyIs_iff.1 hk
    have h3 : kLt x.ka x.ki y.ka y.ki := hm y hy
    rw [e1, e2] at h3
    exact kLt_irrefl _ _ (kLt_trans h h3)
  by_cases h1 : x.ka = a ∧ x.ki = i
  · rw [if_pos h1, keyIs_iff.2 h1, nL (.inl h1)]; rfl
  · have hk : keyIs a i x = false := by rw [Bool.eq_false_iff]; exact fun h => h1 (keyIs_iff.1 h)
    rw [if_neg h1, hk]
    by_cases h2 : kLt x.ka x.ki a i
    · rw [if_pos h2, nL (.inr h2)]; rfl
    · rw [if_neg h2, nM (by rcases kLt_total x.ka x.ki a i with h | h | h; exact absurd h h2; exact absurd h h1; exact h)]
      simp
theorem ins_app (y : It) (L M : List It) (x : It) (hs : SortedI (L ++ x :: M)) (hn : ¬ (x.ka = y.ka ∧ x.ki = y.ki)) :
    insI y (L ++ x :: M) = if x.lt y then L ++ x :: insI y M else insI y L ++ x :: M := by
  obtain ⟨_, _, hl, hm⟩ := sorted_app.1 hs
  by_cases h : x.lt y
  · rw [if_pos h]
    have : ∀ l : List It, (∀ z ∈ l, z.lt y) → insI y (l ++ x :: M) = l ++ x :: insI y M := by
      intro l hl
      induction l with
      | nil => simp only [List.nil_append, insI, if_pos h]
      | cons z l ih => simp only [List.cons_append, insI, if_pos (hl z (by simp)), ih fun w hw => hl w (by simp [hw])]
    exact this L fun z hz => It.lt_trans (hl z hz) h
  · rw [if_neg h]
    have : ∀ l : List It, insI y (l ++ x :: M) = insI y l ++ x :: M := by
      intro l
      induction l with
      | nil => simp only [List.nil_append, insI, if_neg h, List.cons_append]
      | cons z l ih =>
        simp only [List.cons_append, insI]
        split
        · rw [ih, List.cons_append]
        · simp only [List.cons_append]
    exact this L
theorem del_app (a : Nat) (i : Int) (L M : List It) (x : It) (hs : SortedI (L ++ x :: M)) :
    delI a i (L ++ x :: M) = if x.ka = a ∧ x.ki = i then L ++ M else if kLt x.ka x.ki a i then L ++ x :: delI a i M else delI a i L ++ x :: M := by
  obtain ⟨_, _, hl, hm⟩ := sorted_app.1 hs
  have keep : ∀ l : List It, (∀ y ∈ l, ¬ (y.ka = a ∧ y.ki = i)) → delI a i l = l := fun l h => by
    unfold delI
    rw [List.filter_eq_self]
    intro y hy
    have := h y hy
    rw [Bool.not_eq_true', Bool.eq_false_iff]
    exact fun h2 => this (keyIs_iff.1 h2)
  have happ : delI a i (L ++ x :: M) = delI a i L ++ delI a i (x :: M) := by unfold delI; rw [List.filter_append]
  have kL : (x.ka = a ∧ x.ki = i) ∨ kLt x.ka x.ki a i → delI a i L = L := fun h => keep L fun y hy ⟨e1, e2⟩ => by
    have h3 : kLt y.ka y.ki x.ka x.ki := hl y hy
    rw [e1, e2] at h3
    rcases h with ⟨rfl, rfl⟩ | h
    · exact kLt_irrefl _ _ h3
    · exact kLt_irrefl _ _ (kLt_trans h h3)
  have kM : (x.ka = a ∧ x.ki = i) ∨ kLt a i x.ka x.ki → delI a i M = M := fun h => keep M fun y hy ⟨e1, e2⟩ => by
    have h3 : kLt x.ka x.ki y.ka y.ki := hm y hy
    rw [e1, e2] at h3
    rcases h with ⟨rfl, rfl⟩ | h
    · exact kLt_irrefl _ _ h3
    · exact kLt_irrefl _ _ (kLt_trans h h3)
  rw [happ]
  by_cases h1 : x.ka = a ∧ x.ki = i
  · have hx : delI a i (x :: M) = delI a i M := by unfold delI; rw [List.filter_cons, keyIs_iff.2 h1]; rfl
    rw [if_pos h1, kL (.inl h1), hx, kM (.inl h1)]
  · have hk : keyIs a i x = false := by rw [Bool.eq_false_iff]; exact fun h => h1 (keyIs_iff.1 h)
    have hx : delI a i (x :: M) = x :: delI a i M := by unfold delI; rw [List.filter_cons, hk]; rfl
    rw [if_neg h1, hx]
    by_cases h2 : kLt x.ka x.ki a i
    · rw [if_pos h2, kL (.inr h2)]
    · rw [if_neg h2, kM (.inr (by rcases kLt_total x.ka x.ki a i with h | h | h; exact absurd h h2; exact absurd h h1; exact h))]
theorem mem_insI {y x : It} : ∀ {L : List It}, x ∈ insI y L ↔ x = y ∨ x ∈ L
  | [] => by simp [insI]
  | z :: L => by
    simp only [insI]
    split
    · rw [List.mem_cons, mem_insI, List.mem_cons]; grind
    · rw [List.mem_cons]
theorem insI_sorted {y : It} : ∀ {L : List It}, SortedI L → findT y.ka y.ki L = none → SortedI (insI y L)
  | [], _, _ => by simp [insI, SortedI]
  | z :: L, hs, hf => by
    obtain ⟨h1, h2⟩ := List.pairwise_cons.1 hs
    unfold findT at hf
    rw [List.find?_cons] at hf
    cases hk : keyIs y.ka y.ki z with
    | true => rw [hk] at hf; cases hf
    | false =>
      rw [hk] at hf
      have hne : ¬ (z.ka = y.ka ∧ z.ki = y.ki) := fun h => by rw [keyIs_iff.2 h] at hk; cases hk
      simp only [insI]
      split
      · rename_i hl
        refine List.pairwise_cons.2 ⟨fun w hw => ?_, insI_sorted h2 hf⟩
        rcases mem_insI.1 hw with rfl | hw
        · exact hl
        · exact h1 w hw
      · rename_i hl
        have hyz : y.lt z := by
          rcases kLt_total z.ka z.ki y.ka y.ki with h | h | h
          · exact absurd h hl
          · exact absurd h hne
          · exact h
        refine List.pairwise_cons.2 ⟨fun w hw => ?_, hs⟩
        rcases List.mem_cons.1 hw with rfl | hw
        · exact hyz
        · exact It.lt_trans hyz (h1 w hw)
theorem delI_sorted {a : Nat} {i : Int} {L : List It} (h : SortedI L) : SortedI (delI a i L) := List.Pairwise.filter _ h
/-- What 'change' makes of a tree, at the place of a key. -/
def Tr.chgL (a : Nat) (i : Int) (f : Tr → List It) : Tr → List It
  | .nil => f .nil
  | .node loc it l r => if it.ka = a ∧ it.ki = i then f (.node loc it l r) else if kLt it.ka it.ki a i then l.list ++ it :: r.chgL a i f else l.chgL a i f ++ it :: r.list
theorem chgL_ins {y : It} {f : Tr → List It} (hf : f .nil = [y]) : ∀ (t : Tr), SortedI t.list → findT y.ka y.ki t.list = none → t.chgL y.ka y.ki f = insI y t.list
  | .nil, _, _ => hf
  | .node loc it l r, hs, hn => by
    obtain ⟨s1, s2, _, _⟩ := sorted_app.1 hs
    simp only [Tr.list] at hs hn ⊢
    rw [find_app _ _ _ _ _ hs] at hn
    rw [Tr.chgL]
    by_cases h1 : it.ka = y.ka ∧ it.ki = y.ki
    · rw [if_pos h1] at hn; cases hn
    · rw [if_neg h1] at hn ⊢
      rw [ins_app y _ _ _ hs h1]
      by_cases h2 : kLt it.ka it.ki y.ka y.ki
      · rw [if_pos h2] at hn ⊢
        rw [if_pos (show it.lt y from h2), chgL_ins hf r s2 hn]
      · rw [if_neg h2] at hn ⊢
        rw [if_neg (show ¬ it.lt y from h2), chgL_ins hf l s1 hn]
def Tr.woL : Tr → List It
  | .nil => []
  | .node _ _ l r => l.list ++ r.list
theorem chgL_del {a : Nat} {i : Int} : ∀ (t : Tr), SortedI t.list → t.chgL a i Tr.woL = delI a i t.list
  | .nil, _ => rfl
  | .node loc it l r, hs => by
    obtain ⟨s1, s2, _, _⟩ := sorted_app.1 hs
    simp only [Tr.list] at hs ⊢
    rw [del_app _ _ _ _ _ hs, Tr.chgL]
    by_cases h1 : it.ka = a ∧ it.ki = i
    · rw [if_pos h1, if_pos h1]; rfl
    · rw [if_neg h1, if_neg h1]
      by_cases h2 : kLt it.ka it.ki a i
      · rw [if_pos h2, if_pos h2, chgL_del r s2]
      · rw [if_neg h2, if_neg h2, chgL_del l s1]
/-- The node of a key. -/
def Tr.find (a : Nat) (i : Int) : Tr → Tr
  | .nil => .nil
  | .node loc it l r => if it.ka = a ∧ it.ki = i then .node loc it l r else if kLt it.ka it.ki a i then r.find a i else l.find a i
def Tr.item : Tr → Option It
  | .nil => none
  | .node _ it _ _ => some it
theorem Tr.find_item {a : Nat} {i : Int} : ∀ (t : Tr), SortedI t.list → (t.find a i).item = findT a i t.list
  | .nil, _ => rfl
  | .node loc it l r, hs => by
    obtain ⟨s1, s2, _, _⟩ := sorted_app.1 hs
    simp only [Tr.list] at hs ⊢
    rw [find_app _ _ _ _ _ hs, Tr.find]
    by_cases h1 : it.ka = a ∧ it.ki = i
    · rw [if_pos h1, if_pos h1]; rfl
    · rw [if_neg h1, if_neg h1]
      by_cases h2 : kLt it.ka it.ki a i
      · rw [if_pos h2, if_pos h2, Tr.find_item r s2]
      · rw [if_neg h2, if_neg h2, Tr.find_item l s1]
end Go.Fg.X
/- The least item, the first one whose value is there, the best one whose key is there. Plain laws. No conditions. -/
namespace Go.Fg.X
set_option linter.unusedVariables false
open Go.Proofs Go.Fg
set_option maxRecDepth 100000
set_option linter.unusedSimpArgs false
def Tr.hasB (at_ : Nat) : Tr → Bool
  | .nil => false
  | .node a b c d => decide ((Tr.node a b c d).least.va ≤ at_)
theorem IsLeast.va {x y : It} {L : List It} (h : IsLeast x L) (hy : y ∈ L) : x.va ≤ y.va := by
  have := h.le y hy
  unfold It.bLt kLt at this
  omega
theorem Tr.hasB_iff (at_ : Nat) : ∀ t : Tr, t.hasB at_ = true ↔ ∃ x ∈ t.list, x.va ≤ at_
  | .nil => by simp [Tr.hasB, Tr.list]
  | .node a b c d => by
    have h := Tr.least_is (.node a b c d) (by simp)
    simp only [Tr.hasB, decide_eq_true_eq]
    constructor
    · intro h1; exact ⟨_, h.mem, h1⟩
    · rintro ⟨x, hx, hv⟩; exact Nat.le_trans (h.va hx) hv
def Tr.first (at_ : Nat) : Tr → Option It
  | .nil => none
  | .node _ it l r => if l.hasB at_ then l.first at_ else if it.va ≤ at_ then some it else r.first at_
theorem Tr.first_eq (at_ : Nat) : ∀ t : Tr, t.first at_ = t.list.find? fun x => decide (x.va ≤ at_)
  | .nil => rfl
  | .node _ it l r => by
    simp only [Tr.first, Tr.list]
    rw [List.find?_append, List.find?_cons]
    by_cases h : l.hasB at_ = true
    · rw [if_pos h, Tr.first_eq at_ l]
      obtain ⟨x, hx, hv⟩ := (Tr.hasB_iff at_ l).1 h
      cases hf : l.list.find? fun x => decide (x.va ≤ at_) with
      | some y => rfl
      | none => exact absurd hv (by simpa using List.find?_eq_none.1 hf x hx)
    · rw [if_neg h, Tr.first_eq at_ r]
      have hn : l.list.find? (fun x => decide (x.va ≤ at_)) = none := by
        rw [List.find?_eq_none]
        intro x hx hv
        exact h ((Tr.hasB_iff at_ l).2 ⟨x, hx, by simpa using hv⟩)
      rw [hn, Option.none_or]
      by_cases h2 : it.va ≤ at_
      · rw [if_pos h2, decide_eq_true h2]
      · rw [if_neg h2, decide_eq_false h2]
def Tr.leftm : Tr → It
  | .nil => default
  | .node _ it l _ => match l with
    | .nil => it
    | .node a b c d => Tr.leftm (.node a b c d)
theorem Tr.leftm_eq : ∀ t : Tr, t ≠ .nil → t.list.head? = some t.leftm
  | .nil, h => absurd rfl h
  | .node _ it .nil r, _ => rfl
  | .node _ it (.node a b c d) r, _ => by
    have := Tr.leftm_eq (.node a b c d) (by simp)
    simp only [Tr.list, Tr.leftm, List.head?_append] at this ⊢
    rw [this]; rfl
def takeI (o : Option It) (i : It) : Option It := match o with
  | none => some i
  | some a => some (better a i)
def Tr.bel (at_ : Nat) : Tr → Option It → Option It
  | .nil, o => o
  | .node _ it l r, o => if at_ < it.ka then l.bel at_ o else r.bel at_ (match l with
    | .nil => takeI o it
    | .node a b c d => takeI (takeI o it) (Tr.node a b c d).least)
def LeastO (o : Option It) (L : List It) : Prop := match o with
  | none => L = []
  | some x => IsLeast x L
theorem LeastO.take {o : Option It} {L : List It} (h : LeastO o L) {i : It} {M : List It} (hi : IsLeast i M) : LeastO (takeI o i) (L ++ M) := by
  cases o with
  | none => simp only [LeastO] at h; subst h; exact hi
  | some a => exact IsLeast.join h hi
theorem LeastO.perm {o : Option It} {L M : List It} (h : LeastO o L) (e : ∀ y, y ∈ M ↔ y ∈ L) : LeastO o M := by
  cases o with
  | none =>
    simp only [LeastO] at h ⊢
    subst h
    exact List.eq_nil_iff_forall_not_mem.2 fun y hy => by simpa using (e y).1 hy
  | some a => exact IsLeast.perm h e
theorem Tr.bel_is (at_ : Nat) : ∀ (t : Tr) (o : Option It) (T : List It), SortedI t.list → LeastO o T → LeastO (t.bel at_ o) (T ++ t.list.filter fun x => decide (x.ka ≤ at_))
  | .nil, o, T, _, h => by simpa [Tr.bel, Tr.list] using h
  | .node _ it l r, o, T, hs, h => by
    obtain ⟨s1, s2, hl, hr⟩ := sorted_app.1 (show SortedI (l.list ++ it :: r.list) from hs)
    have kle : ∀ {x y : It}, x.lt y → x.ka ≤ y.ka := fun h => by
      have h : kLt _ _ _ _ := h
      unfold kLt at h; omega
    simp only [Tr.bel, Tr.list, List.filter_append, List.filter_cons]
    by_cases h1 : at_ < it.ka
    · rw [if_pos h1, decide_eq_false (by omega)]
      have hn : r.list.filter (fun x => decide (x.ka ≤ at_)) = [] := by
        rw [List.filter_eq_nil_iff]
        intro x hx
        have := kle (hr x hx)
        simp; omega
      rw [hn]
      have := Tr.bel_is at_ l o T s1 h
      simpa using this
    · rw [if_neg h1, decide_eq_true (by omega)]
      have ha : l.list.filter (fun x => decide (x.ka ≤ at_)) = l.list := by
        rw [List.filter_eq_self]
        intro x hx
        have := kle (hl x hx)
        simp; omega
      rw [ha]
      cases l with
      | nil =>
        have := Tr.bel_is at_ r _ _ s2 (h.take (IsLeast.one it))
        simpa [Tr.list] using this
      | node a b c d =>
        have := Tr.bel_is at_ r _ _ s2 ((h.take (IsLeast.one it)).take (Tr.least_is (.node a b c d) (by simp)))
        refine this.perm fun y => ?_
        simp only [Tr.list, List.mem_append, List.mem_cons, List.mem_singleton, List.mem_filter, if_true]
        grind
end Go.Fg.X
/- Keys compared, the better item, what a node knows: walked. No conditions. -/
namespace Go.Fg.X
set_option linter.unusedVariables false
open Go.Proofs Go.Fg
set_option maxRecDepth 100000
set_option linter.unusedSimpArgs false
set_option maxHeartbeats 4000000
theorem rcmp_ok (a : Nat) (i : Int) (b : Nat) (j : Int) : AFn Tryz.prog 231 [.agg [u64 a, dint i], .agg [u64 b, dint j]] (Ret (dint (cmpI a i b j))) := by
  refine AFn_hxk 0 cx_ok 200 Tryz.func231 rfl Tryz.ntmps231 Tryz.results231 rfl fun base w hb => ?_
  simp only [go_sem, simprocAttr]
  repeat' (first | ((first | refine hite_dec (fun h => ?_) (fun h => ?_) | refine hite_beq (fun h => ?_) (fun h => ?_) | refine hite_bne (fun h => ?_) (fun h => ?_) | refine hite_intro (fun h => ?_) (fun h => ?_) | refine hite_decA (fun h => ?_) (fun h => ?_) | refine hite_beqA (fun h => ?_) (fun h => ?_) | refine hite_bneA (fun h => ?_) (fun h => ?_) | refine hite_intro' (fun h => ?_) (fun h => ?_)) <;> (try simp only [go_sem, simprocAttr, Go.undef])) | (refine And.intro (by first | assumption | omega) ?_; try simp only [go_sem, simprocAttr, Go.undef]) | fail)
  all_goals (congr 2; (try simp only [Bool.and_eq_true, Bool.and_eq_false_iff, Bool.or_eq_true, Bool.or_eq_false_iff, beq_iff_eq, beq_eq_false_iff_ne, bne_iff_ne, bne_eq_false_iff_eq, decide_eq_true_eq, decide_eq_false_iff_not, ne_eq] at *); (try unfold cmpI kLt); (repeat' split) <;> omega)
theorem better_ok (x y : It) : AFn Tryz.prog 187 [.agg x.cells, .agg y.cells] (Ret (.agg (better x y).cells)) := by
  have c1 := rcmp_ok y.va y.vi x.va x.vi
  have c2 := rcmp_ok y.ka y.ki x.ka x.ki
  simp only [better]
  generalize cmpI y.va y.vi x.va x.vi = p at *
  generalize cmpI y.ka y.ki x.ka x.ki = q at *
  refine AFn_hxk 0 cx_ok 200 Tryz.func187 rfl Tryz.ntmps187 Tryz.results187 rfl fun base w hb => ?_
  simp only [go_sem, simprocAttr]
  refine kont_call hb fn231 rfl ?_ c1 (Ret.flat rfl) rfl fun d h hR => ?_
  · simp only [go_sem, simprocAttr]
  obtain ⟨rfl, rfl⟩ := hR
  refine kont_of_hx cx_ok hb 200 ?_
  simp only [go_sem, simprocAttr]
  repeat' (first | ((first | refine hite_dec (fun h => ?_) (fun h => ?_) | refine hite_beq (fun h => ?_) (fun h => ?_) | refine hite_bne (fun h => ?_) (fun h => ?_) | refine hite_intro (fun h => ?_) (fun h => ?_) | refine hite_decA (fun h => ?_) (fun h => ?_) | refine hite_beqA (fun h => ?_) (fun h => ?_) | refine hite_bneA (fun h => ?_) (fun h => ?_) | refine hite_intro' (fun h => ?_) (fun h => ?_)) <;> (try simp only [go_sem, simprocAttr, Go.undef])) | (refine And.intro (by first | assumption | omega) ?_; try simp only [go_sem, simprocAttr, Go.undef]) | (refine kont_callM hb [] fn231 rfl ?_ (c2) rfl ?_; (· simp only [go_sem, simprocAttr, Go.undef]); intro d h hR; obtain ⟨rfl, rfl⟩ := hR; (simp only [go_sem, simprocAttr, Go.undef]); refine kont_of_hx cx_ok hb 200 ?_; simp only [go_sem, simprocAttr, Go.undef]) | fail)
  all_goals (try simp only [beq_iff_eq, beq_eq_false_iff_ne, ne_eq] at *); (first | rw [if_pos (by omega)] | rw [if_neg (by omega)])
section
variable {h : List Ob} {t : Tr} (i : TrR h t)
include i
theorem high_ok : RFn0 Tryz.prog 242 h [t.ptr] (fun d => d = dint t.high) := by
  cases t with
  | nil =>
    refine RFn0_hx cx_ok 200 Tryz.func242 rfl Tryz.ntmps242 Tryz.results242 rfl fun base w pl F hF hFl hb => ?_
    simp only [go_sem, simprocAttr, hgetA, hgetL, hgetLk, hsetA, hsetL, hsetLk, List.length_append, List.length_set, List.append_assoc, List.set_set]
    exact ⟨[], by simp [Tr.high]⟩
  | node loc it l r =>
    have h2 := i.1
    refine RFn0_hx cx_ok 200 Tryz.func242 rfl Tryz.ntmps242 Tryz.results242 rfl fun base w pl F hF hFl hb => ?_
    rw [← hF] at h2
    have h2_l := hlt h2
    simp only [go_sem, simprocAttr, hgetA, hgetL, hgetLk, hsetA, hsetL, hsetLk, List.length_append, List.length_set, List.append_assoc, List.set_set, h2, h2_l]
    exact ⟨[], by simp⟩
theorem many_ok : RFn0 Tryz.prog 230 h [t.ptr] (fun d => d = dint t.size) := by
  cases t with
  | nil =>
    refine RFn0_hx cx_ok 200 Tryz.func230 rfl Tryz.ntmps230 Tryz.results230 rfl fun base w pl F hF hFl hb => ?_
    simp only [go_sem, simprocAttr, hgetA, hgetL, hgetLk, hsetA, hsetL, hsetLk, List.length_append, List.length_set, List.append_assoc, List.set_set]
    exact ⟨[], by simp [Tr.size]⟩
  | node loc it l r =>
    have h2 := i.1
    refine RFn0_hx cx_ok 200 Tryz.func230 rfl Tryz.ntmps230 Tryz.results230 rfl fun base w pl F hF hFl hb => ?_
    rw [← hF] at h2
    have h2_l := hlt h2
    simp only [go_sem, simprocAttr, hgetA, hgetL, hgetLk, hsetA, hsetL, hsetLk, List.length_append, List.length_set, List.append_assoc, List.set_set, h2, h2_l]
    exact ⟨[], by simp⟩
theorem has_ok (n : Nat) : RFn0 Tryz.prog 195 h [t.ptr, u64 n] (fun d => d = dbool (t.hasB n)) := by
  cases t with
  | nil =>
    refine RFn0_hx cx_ok 200 Tryz.func195 rfl Tryz.ntmps195 Tryz.results195 rfl fun base w pl F hF hFl hb => ?_
    simp only [go_sem, simprocAttr, hgetA, hgetL, hgetLk, hsetA, hsetL, hsetLk, List.length_append, List.length_set, List.append_assoc, List.set_set]
    exact ⟨[], by simp [Tr.hasB]⟩
  | node loc it l r =>
    have h2 := i.1
    refine RFn0_hx cx_ok 200 Tryz.func195 rfl Tryz.ntmps195 Tryz.results195 rfl fun base w pl F hF hFl hb => ?_
    rw [← hF] at h2
    have h2_l := hlt h2
    simp only [go_sem, simprocAttr, hgetA, hgetL, hgetLk, hsetA, hsetL, hsetLk, List.length_append, List.length_set, List.append_assoc, List.set_set, h2, h2_l]
    exact ⟨[], by simp [Tr.hasB]⟩
end
/-- A node whose knowledge may be old. -/
structure Raw (h : List Ob) (loc : Nat) (it : It) (l r : Tr) (le : It) (hi n : Int) : Prop where
  o : h[loc]? = some (nodeO it l.ptr r.ptr le hi n)
  il : TrIs h l
  ir : TrIs h r
theorem TrIs.set {h : List Ob} {t : Tr} (i : TrIs h t) {k : Nat} (o : Ob) (hn : k ∉ t.locs) : TrIs (h.set k o) t := i.frame fun l hl => hgetN fun e => hn (e ▸ hl)
theorem learn_ok {h : List Ob} {loc : Nat} {it : It} {l r : Tr} {le : It} {hi n : Int} (i : Raw h loc it l r le hi n) (hs : l.size < 1000000) (hs2 : r.size < 1000000) (nl : loc ∉ l.locs) (nr : loc ∉ r.locs) :
    MFn Tryz.prog 202 h [.ptr loc 0 0 0] (fun d h' => h' = h.set loc (nodeO it l.ptr r.ptr (Tr.node loc it l r).least ((Tr.node loc it l r).high : Nat) ((Tr.node loc it l r).size : Nat))) := by
  have h1 := i.o
  have il := i.il
  have ir := i.ir
  have w1 := l.high_le
  have w2 := r.high_le
  have e1 : max (l.high : Int) (r.high : Int) = ((max l.high r.high : Nat) : Int) := by omega
  have e2 : IntKind.i64.wrap (1 + ((max l.high r.high : Nat) : Int)) = ((1 + max l.high r.high : Nat) : Int) := by rw [wrap64 (by omega) (by omega)]; omega
  have e3 : IntKind.i64.wrap (1 + (l.size : Int)) = ((1 + l.size : Nat) : Int) := by rw [wrap64 (by omega) (by omega)]; omega
  have e4 : IntKind.i64.wrap (((1 + l.size : Nat) : Int) + (r.size : Int)) = ((1 + l.size + r.size : Nat) : Int) := by rw [wrap64 (by omega) (by omega)]; omega
  rcases l with _ | ⟨a, b, c, d⟩ <;> rcases r with _ | ⟨a', b', c', d'⟩
  · simp only [Tr.ptr_nil, Tr.ptr_node] at h1
    refine MFn_hx cx_ok 200 Tryz.func202 rfl Tryz.ntmps202 Tryz.results202 rfl fun base w pl hb => ?_
    have h1_l := hlt h1
    simp only [go_sem, simprocAttr, hgetA, hgetL, hgetLk, hsetA, hsetL, hsetLk, List.length_append, List.length_set, List.append_assoc, List.set_set, h1, h1_l]
    refine kont_hax cx_ok hb 200 mixed [(0, true), (1, true), (2, true), (3, true), (4, true), (5, true), (7, true), (8, true), (9, true), (10, true), (11, true), (6, false), (12, false), (13, true), (14, true), (15, true), (16, true), (17, false)] (by kernel_rfl) (by kernel_rfl) ?_
    simp only [go_sem, simprocAttr, hgetA, hgetL, hgetLk, hsetA, hsetL, hsetLk, List.length_append, List.length_set, List.append_assoc, List.set_set, h1, h1_l]
    refine AX_callR0 hb fn242 rfl ?_ (high_ok il.toR) rfl fun d hR => ?_
    · simp only [go_sem, simprocAttr, hgetA, hgetL, hgetLk, hsetA, hsetL, hsetLk, List.length_append, List.length_set, List.append_assoc, List.set_set, h1, h1_l]
    subst hR
    refine AX_of_hax cx_ok hb ?_
    simp only [go_sem, simprocAttr, hgetA, hgetL, hgetLk, hsetA, hsetL, hsetLk, List.length_append, List.length_set, List.append_assoc, List.set_set, h1, h1_l]
    refine AX_callR0 hb fn242 rfl ?_ (high_ok ir.toR) rfl fun d hR => ?_
    · simp only [go_sem, simprocAttr, hgetA, hgetL, hgetLk, hsetA, hsetL, hsetLk, List.length_append, List.length_set, List.append_assoc, List.set_set, h1, h1_l, e1, e2]
    subst hR
    refine AX_of_hax cx_ok hb ?_
    simp only [go_sem, simprocAttr, hgetA, hgetL, hgetLk, hsetA, hsetL, hsetLk, List.length_append, List.length_set, List.append_assoc, List.set_set, h1, h1_l, e1, e2]
    refine kont_hax cx_ok hb 200 mixed [(0, true), (1, true), (2, true), (3, true), (4, true), (5, true), (8, true), (9, true), (10, true), (11, true), (12, true), (6, false), (7, true), (13, false), (14, true), (15, true), (16, true), (17, false)] (by kernel_rfl) (by kernel_rfl) ?_
    simp only [go_sem, simprocAttr, hgetA, hgetL, hgetLk, hsetA, hsetL, hsetLk, List.length_append, List.length_set, List.append_assoc, List.set_set, h1, h1_l, hgetS h1_l]
    refine AX_callR0 hb fn230 rfl ?_ (many_ok (il.set _ nl).toR) rfl fun d hR => ?_
    · simp only [go_sem, simprocAttr, hgetA, hgetL, hgetLk, hsetA, hsetL, hsetLk, List.length_append, List.length_set, List.append_assoc, List.set_set, h1, h1_l, hgetS h1_l, e3]
    subst hR
    refine AX_of_hax cx_ok hb ?_
    simp only [go_sem, simprocAttr, hgetA, hgetL, hgetLk, hsetA, hsetL, hsetLk, List.length_append, List.length_set, List.append_assoc, List.set_set, h1, h1_l, hgetS h1_l, e3]
    refine AX_callR0 hb fn230 rfl ?_ (many_ok (ir.set _ nr).toR) rfl fun d hR => ?_
    · simp only [go_sem, simprocAttr, hgetA, hgetL, hgetLk, hsetA, hsetL, hsetLk, List.length_append, List.length_set, List.append_assoc, List.set_set, h1, h1_l, hgetS h1_l, e4]
    subst hR
    refine AX_of_hax cx_ok hb ?_
    simp only [go_sem, simprocAttr, hgetA, hgetL, hgetLk, hsetA, hsetL, hsetLk, List.length_append, List.length_set, List.append_assoc, List.set_set, h1, h1_l, hgetS h1_l, e4]
    refine kont_turns 2 ?_
    refine kont_of_hx cx_ok hb 200 ?_
    simp only [go_sem, simprocAttr, hgetA, hgetL, hgetLk, hsetA, hsetL, hsetLk, List.length_append, List.length_set, List.append_assoc, List.set_set, h1, h1_l, hgetS h1_l]
    refine kont_of_hx cx_ok hb 200 ?_
    simp only [go_sem, simprocAttr, hgetA, hgetL, hgetLk, hsetA, hsetL, hsetLk, List.length_append, List.length_set, List.append_assoc, List.set_set, h1, h1_l, hgetS h1_l]
    refine kont_of_hx cx_ok hb 200 ?_
    simp only [go_sem, simprocAttr, hgetA, hgetL, hgetLk, hsetA, hsetL, hsetLk, List.length_append, List.length_set, List.append_assoc, List.set_set, h1, h1_l, hgetS h1_l]
    rfl
  · simp only [Tr.ptr_nil, Tr.ptr_node] at h1
    have hb' := ir.1
    have hnb : loc ≠ a' := by rintro rfl; exact nr (by simp [Tr.locs])
    refine MFn_hx cx_ok 200 Tryz.func202 rfl Tryz.ntmps202 Tryz.results202 rfl fun base w pl hb => ?_
    have h1_l := hlt h1
    simp only [go_sem, simprocAttr, hgetA, hgetL, hgetLk, hsetA, hsetL, hsetLk, List.length_append, List.length_set, List.append_assoc, List.set_set, h1, h1_l]
    refine kont_hax cx_ok hb 200 mixed [(0, true), (1, true), (2, true), (3, true), (4, true), (5, true), (7, true), (8, true), (9, true), (10, true), (11, true), (6, false), (12, false), (13, true), (14, true), (15, true), (16, true), (17, false)] (by kernel_rfl) (by kernel_rfl) ?_
    simp only [go_sem, simprocAttr, hgetA, hgetL, hgetLk, hsetA, hsetL, hsetLk, List.length_append, List.length_set, List.append_assoc, List.set_set, h1, h1_l]
    refine AX_callR0 hb fn242 rfl ?_ (high_ok il.toR) rfl fun d hR => ?_
    · simp only [go_sem, simprocAttr, hgetA, hgetL, hgetLk, hsetA, hsetL, hsetLk, List.length_append, List.length_set, List.append_assoc, List.set_set, h1, h1_l]
    subst hR
    refine AX_of_hax cx_ok hb ?_
    simp only [go_sem, simprocAttr, hgetA, hgetL, hgetLk, hsetA, hsetL, hsetLk, List.length_append, List.length_set, List.append_assoc, List.set_set, h1, h1_l]
    refine AX_callR0 hb fn242 rfl ?_ (high_ok ir.toR) rfl fun d hR => ?_
    · simp only [go_sem, simprocAttr, hgetA, hgetL, hgetLk, hsetA, hsetL, hsetLk, List.length_append, List.length_set, List.append_assoc, List.set_set, h1, h1_l, e1, e2]
    subst hR
    refine AX_of_hax cx_ok hb ?_
    simp only [go_sem, simprocAttr, hgetA, hgetL, hgetLk, hsetA, hsetL, hsetLk, List.length_append, List.length_set, List.append_assoc, List.set_set, h1, h1_l, e1, e2]
    refine kont_hax cx_ok hb 200 mixed [(0, true), (1, true), (2, true), (3, true), (4, true), (5, true), (8, true), (9, true), (10, true), (11, true), (12, true), (6, false), (7, true), (13, false), (14, true), (15, true), (16, true), (17, false)] (by kernel_rfl) (by kernel_rfl) ?_
    simp only [go_sem, simprocAttr, hgetA, hgetL, hgetLk, hsetA, hsetL, hsetLk, List.length_append, List.length_set, List.append_assoc, List.set_set, h1, h1_l, hgetS h1_l]
    refine AX_callR0 hb fn230 rfl ?_ (many_ok (il.set _ nl).toR) rfl fun d hR => ?_
    · simp only [go_sem, simprocAttr, hgetA, hgetL, hgetLk, hsetA, hsetL, hsetLk, List.length_append, List.length_set, List.append_assoc, List.set_set, h1, h1_l, hgetS h1_l, e3]
    subst hR
    refine AX_of_hax cx_ok hb ?_
    simp only [go_sem, simprocAttr, hgetA, hgetL, hgetLk, hsetA, hsetL, hsetLk, List.length_append, List.length_set, List.append_assoc, List.set_set, h1, h1_l, hgetS h1_l, e3]
    refine AX_callR0 hb fn230 rfl ?_ (many_ok (ir.set _ nr).toR) rfl fun d hR => ?_
    · simp only [go_sem, simprocAttr, hgetA, hgetL, hgetLk, hsetA, hsetL, hsetLk, List.length_append, List.length_set, List.append_assoc, List.set_set, h1, h1_l, hgetS h1_l, e4]
    subst hR
    refine AX_of_hax cx_ok hb ?_
    simp only [go_sem, simprocAttr, hgetA, hgetL, hgetLk, hsetA, hsetL, hsetLk, List.length_append, List.length_set, List.append_assoc, List.set_set, h1, h1_l, hgetS h1_l, e4]
    refine kont_turns 2 ?_
    refine kont_of_hx cx_ok hb 200 ?_
    simp only [go_sem, simprocAttr, hgetA, hgetL, hgetLk, hsetA, hsetL, hsetLk, List.length_append, List.length_set, List.append_assoc, List.set_set, h1, h1_l, hgetS h1_l, hb', hgetN hnb]
    refine kont_of_hx cx_ok hb 200 ?_
    simp only [go_sem, simprocAttr, hgetA, hgetL, hgetLk, hsetA, hsetL, hsetLk, List.length_append, List.length_set, List.append_assoc, List.set_set, h1, h1_l, hgetS h1_l, hb', hgetN hnb]
    refine kont_hax cx_ok hb 200 mixed [(0, true), (1, true), (2, true), (3, true), (4, true), (5, true), (6, true), (7, true), (8, true), (9, false), (10, true), (11, true), (12, false)] (by kernel_rfl) (by kernel_rfl) ?_
    simp only [go_sem, simprocAttr, hgetA, hgetL, hgetLk, hsetA, hsetL, hsetLk, List.length_append, List.length_set, List.append_assoc, List.set_set, h1, h1_l, hgetS h1_l, hb', hgetN hnb]
    refine AX_call hb fn187 rfl ?_ (better_ok it (Tr.node a' b' c' d').least) (Ret.flat rfl) rfl fun d h hR => ?_
    · simp only [go_sem, simprocAttr, hgetA, hgetL, hgetLk, hsetA, hsetL, hsetLk, List.length_append, List.length_set, List.append_assoc, List.set_set, h1, h1_l, hgetS h1_l, hb', hgetN hnb]
    obtain ⟨rfl, rfl⟩ := hR
    refine AX_of_hax cx_ok hb ?_
    simp only [go_sem, simprocAttr, hgetA, hgetL, hgetLk, hsetA, hsetL, hsetLk, List.length_append, List.length_set, List.append_assoc, List.set_set, h1, h1_l, hgetS h1_l, hb', hgetN hnb]
    refine kont_of_hx cx_ok hb 200 ?_
    simp only [go_sem, simprocAttr, hgetA, hgetL, hgetLk, hsetA, hsetL, hsetLk, List.length_append, List.length_set, List.append_assoc, List.set_set, h1, h1_l, hgetS h1_l, hb', hgetN hnb]
    rfl
  · simp only [Tr.ptr_nil, Tr.ptr_node] at h1
    have ha := il.1
    have hna : loc ≠ a := by rintro rfl; exact nl (by simp [Tr.locs])
    refine MFn_hx cx_ok 200 Tryz.func202 rfl Tryz.ntmps202 Tryz.results202 rfl fun base w pl hb => ?_
    have h1_l := hlt h1
    simp only [go_sem, simprocAttr, hgetA, hgetL, hgetLk, hsetA, hsetL, hsetLk, List.length_append, List.length_set, List.append_assoc, List.set_set, h1, h1_l]
    refine kont_hax cx_ok hb 200 mixed [(0, true), (1, true), (2, true), (3, true), (4, true), (5, true), (7, true), (8, true), (9, true), (10, true), (11, true), (6, false), (12, false), (13, true), (14, true), (15, true), (16, true), (17, false)] (by kernel_rfl) (by kernel_rfl) ?_
    simp only [go_sem, simprocAttr, hgetA, hgetL, hgetLk, hsetA, hsetL, hsetLk, List.length_append, List.length_set, List.append_assoc, List.set_set, h1, h1_l]
    refine AX_callR0 hb fn242 rfl ?_ (high_ok il.toR) rfl fun d hR => ?_
    · simp only [go_sem, simprocAttr, hgetA, hgetL, hgetLk, hsetA, hsetL, hsetLk, List.length_append, List.length_set, List.append_assoc, List.set_set, h1, h1_l]
    subst hR
    refine AX_of_hax cx_ok hb ?_
    simp only [go_sem, simprocAttr, hgetA, hgetL, hgetLk, hsetA, hsetL, hsetLk, List.length_append, List.length_set, List.append_assoc, List.set_set, h1, h1_l]
    refine AX_callR0 hb fn242 rfl ?_ (high_ok ir.toR) rfl fun d hR => ?_
    · simp only [go_sem, simprocAttr, hgetA, hgetL, hgetLk, hsetA, hsetL, hsetLk, List.length_append, List.length_set, List.append_assoc, List.set_set, h1, h1_l, e1, e2]
    subst hR
    refine AX_of_hax cx_ok hb ?_
    simp only [go_sem, simprocAttr, hgetA, hgetL, hgetLk, hsetA, hsetL, hsetLk, List.length_append, List.length_set, List.append_assoc, List.set_set, h1, h1_l, e1, e2]
    refine kont_hax cx_ok hb 200 mixed [(0, true), (1, true), (2, true), (3, true), (4, true), (5, true), (8, true), (9, true), (10, true), (11, true), (12, true), (6, false), (7, true), (13, false), (14, true), (15, true), (16, true), (17, false)] (by kernel_rfl) (by kernel_rfl) ?_
    simp only [go_sem, simprocAttr, hgetA, hgetL, hgetLk, hsetA, hsetL, hsetLk, List.length_append, List.length_set, List.append_assoc, List.set_set, h1, h1_l, hgetS h1_l]
    refine AX_callR0 hb fn230 rfl ?_ (many_ok (il.set _ nl).toR) rfl fun d hR => ?_
    · simp only [go_sem, simprocAttr, hgetA, hgetL, hgetLk, hsetA, hsetL, hsetLk, List.length_append, List.length_set, List.append_assoc, List.set_set, h1, h1_l, hgetS h1_l, e3]
    subst hR
    refine AX_of_hax cx_ok hb ?_
    simp only [go_sem, simprocAttr, hgetA, hgetL, hgetLk, hsetA, hsetL, hsetLk, List.length_append, List.length_set, List.append_assoc, List.set_set, h1, h1_l, hgetS h1_l, e3]
    refine AX_callR0 hb fn230 rfl ?_ (many_ok (ir.set _ nr).toR) rfl fun d hR => ?_
    · simp only [go_sem, simprocAttr, hgetA, hgetL, hgetLk, hsetA, hsetL, hsetLk, List.length_append, List.length_set, List.append_assoc, List.set_set, h1, h1_l, hgetS h1_l, e4]
    subst hR
    refine AX_of_hax cx_ok hb ?_
    simp only [go_sem, simprocAttr, hgetA, hgetL, hgetLk, hsetA, hsetL, hsetLk, List.length_append, List.length_set, List.append_assoc, List.set_set, h1, h1_l, hgetS h1_l, e4]
    refine kont_turns 2 ?_
    refine kont_of_hx cx_ok hb 200 ?_
    simp only [go_sem, simprocAttr, hgetA, hgetL, hgetLk, hsetA, hsetL, hsetLk, List.length_append, List.length_set, List.append_assoc, List.set_set, h1, h1_l, hgetS h1_l, ha, hgetN hna]
    refine kont_hax cx_ok hb 200 mixed [(0, true), (1, true), (2, true), (3, true), (4, true), (5, true), (6, true), (7, true), (8, true), (9, false), (10, true), (11, true), (12, false)] (by kernel_rfl) (by kernel_rfl) ?_
    simp only [go_sem, simprocAttr, hgetA, hgetL, hgetLk, hsetA, hsetL, hsetLk, List.length_append, List.length_set, List.append_assoc, List.set_set, h1, h1_l, hgetS h1_l, ha, hgetN hna]
    refine AX_call hb fn187 rfl ?_ (better_ok it (Tr.node a b c d).least) (Ret.flat rfl) rfl fun d h hR => ?_
    · simp only [go_sem, simprocAttr, hgetA, hgetL, hgetLk, hsetA, hsetL, hsetLk, List.length_append, List.length_set, List.append_assoc, List.set_set, h1, h1_l, hgetS h1_l, ha, hgetN hna]
    obtain ⟨rfl, rfl⟩ := hR
    refine AX_of_hax cx_ok hb ?_
    simp only [go_sem, simprocAttr, hgetA, hgetL, hgetLk, hsetA, hsetL, hsetLk, List.length_append, List.length_set, List.append_assoc, List.set_set, h1, h1_l, hgetS h1_l, ha, hgetN hna]
    refine kont_of_hx cx_ok hb 200 ?_
    simp only [go_sem, simprocAttr, hgetA, hgetL, hgetLk, hsetA, hsetL, hsetLk, List.length_append, List.length_set, List.append_assoc, List.set_set, h1, h1_l, hgetS h1_l, ha, hgetN hna]
    refine kont_of_hx cx_ok hb 200 ?_
    simp only [go_sem, simprocAttr, hgetA, hgetL, hgetLk, hsetA, hsetL, hsetLk, List.length_append, List.length_set, List.append_assoc, List.set_set, h1, h1_l, hgetS h1_l, ha, hgetN hna]
    rfl
  · simp only [Tr.ptr_nil, Tr.ptr_node] at h1
    have ha := il.1
    have hna : loc ≠ a := by rintro rfl; exact nl (by simp [Tr.locs])
    have hb' := ir.1
    have hnb : loc ≠ a' := by rintro rfl; exact nr (by simp [Tr.locs])
    refine MFn_hx cx_ok 200 Tryz.func202 rfl Tryz.ntmps202 Tryz.results202 rfl fun base w pl hb => ?_
    have h1_l := hlt h1
    simp only [go_sem, simprocAttr, hgetA, hgetL, hgetLk, hsetA, hsetL, hsetLk, List.length_append, List.length_set, List.append_assoc, List.set_set, h1, h1_l]
    refine kont_hax cx_ok hb 200 mixed [(0, true), (1, true), (2, true), (3, true), (4, true), (5, true), (7, true), (8, true), (9, true), (10, true), (11, true), (6, false), (12, false), (13, true), (14, true), (15, true), (16, true), (17, false)] (by kernel_rfl) (by kernel_rfl) ?_
    simp only [go_sem, simprocAttr, hgetA, hgetL, hgetLk, hsetA, hsetL, hsetLk, List.length_append, List.length_set, List.append_assoc, List.set_set, h1, h1_l]
    refine AX_callR0 hb fn242 rfl ?_ (high_ok il.toR) rfl fun d hR => ?_
    · simp only [go_sem, simprocAttr, hgetA, hgetL, hgetLk, hsetA, hsetL, hsetLk, List.length_append, List.length_set, List.append_assoc, List.set_set, h1, h1_l]
    subst hR
    refine AX_of_hax cx_ok hb ?_
    simp only [go_sem, simprocAttr, hgetA, hgetL, hgetLk, hsetA, hsetL, hsetLk, List.length_append, List.length_set, List.append_assoc, List.set_set, h1, h1_l]
    refine AX_callR0 hb fn242 rfl ?_ (high_ok ir.toR) rfl fun d hR => ?_
    · simp only [go_sem, simprocAttr, hgetA, hgetL, hgetLk, hsetA, hsetL, hsetLk, List.length_append, List.length_set, List.append_assoc, List.set_set, h1, h1_l, e1, e2]
    subst hR
    refine AX_of_hax cx_ok hb ?_
    simp only [go_sem, simprocAttr, hgetA, hgetL, hgetLk, hsetA, hsetL, hsetLk, List.length_append, List.length_set, List.append_assoc, List.set_set, h1, h1_l, e1, e2]
    refine kont_hax cx_ok hb 200 mixed [(0, true), (1, true), (2, true), (3, true), (4, true), (5, true), (8, true), (9, true), (10, true), (11, true), (12, true), (6, false), (7, true), (13, false), (14, true), (15, true), (16, true), (17, false)] (by kernel_rfl) (by kernel_rfl) ?_
    simp only [go_sem, simprocAttr, hgetA, hgetL, hgetLk, hsetA, hsetL, hsetLk, List.length_append, List.length_set, List.append_assoc, List.set_set, h1, h1_l, hgetS h1_l]
    refine AX_callR0 hb fn230 rfl ?_ (many_ok (il.set _ nl).toR) rfl fun d hR => ?_
    · simp only [go_sem, simprocAttr, hgetA, hgetL, hgetLk, hsetA, hsetL, hsetLk, List.length_append, List.length_set, List.append_assoc, List.set_set, h1, h1_l, hgetS h1_l, e3]
    subst hR
    refine AX_of_hax cx_ok hb ?_
    simp only [go_sem, simprocAttr, hgetA, hgetL, hgetLk, hsetA, hsetL, hsetLk, List.length_append, List.length_set, List.append_assoc, List.set_set, h1, h1_l, hgetS h1_l, e3]
    refine AX_callR0 hb fn230 rfl ?_ (many_ok (ir.set _ nr).toR) rfl fun d hR => ?_
    · simp only [go_sem, simprocAttr, hgetA, hgetL, hgetLk, hsetA, hsetL, hsetLk, List.length_append, List.length_set, List.append_assoc, List.set_set, h1, h1_l, hgetS h1_l, e4]
    subst hR
    refine AX_of_hax cx_ok hb ?_
    simp only [go_sem, simprocAttr, hgetA, hgetL, hgetLk, hsetA, hsetL, hsetLk, List.length_append, List.length_set, List.append_assoc, List.set_set, h1, h1_l, hgetS h1_l, e4]
    refine kont_turns 2 ?_
    refine kont_of_hx cx_ok hb 200 ?_
    simp only [go_sem, simprocAttr, hgetA, hgetL, hgetLk, hsetA, hsetL, hsetLk, List.length_append, List.length_set, List.append_assoc, List.set_set, h1, h1_l, hgetS h1_l, ha, hgetN hna, hb', hgetN hnb]
    refine kont_hax cx_ok hb 200 mixed [(0, true), (1, true), (2, true), (3, true), (4, true), (5, true), (6, true), (7, true), (8, true), (9, false), (10, true), (11, true), (12, false)] (by kernel_rfl) (by kernel_rfl) ?_
    simp only [go_sem, simprocAttr, hgetA, hgetL, hgetLk, hsetA, hsetL, hsetLk, List.length_append, List.length_set, List.append_assoc, List.set_set, h1, h1_l, hgetS h1_l, ha, hgetN hna, hb', hgetN hnb]
    refine AX_call hb fn187 rfl ?_ (better_ok it (Tr.node a b c d).least) (Ret.flat rfl) rfl fun d h hR => ?_
    · simp only [go_sem, simprocAttr, hgetA, hgetL, hgetLk, hsetA, hsetL, hsetLk, List.length_append, List.length_set, List.append_assoc, List.set_set, h1, h1_l, hgetS h1_l, ha, hgetN hna, hb', hgetN hnb]
    obtain ⟨rfl, rfl⟩ := hR
    refine AX_of_hax cx_ok hb ?_
    simp only [go_sem, simprocAttr, hgetA, hgetL, hgetLk, hsetA, hsetL, hsetLk, List.length_append, List.length_set, List.append_assoc, List.set_set, h1, h1_l, hgetS h1_l, ha, hgetN hna, hb', hgetN hnb]
    refine kont_of_hx cx_ok hb 200 ?_
    simp only [go_sem, simprocAttr, hgetA, hgetL, hgetLk, hsetA, hsetL, hsetLk, List.length_append, List.length_set, List.append_assoc, List.set_set, h1, h1_l, hgetS h1_l, ha, hgetN hna, hb', hgetN hnb]
    refine kont_hax cx_ok hb 200 mixed [(0, true), (1, true), (2, true), (3, true), (4, true), (5, true), (6, true), (7, true), (8, true), (9, false), (10, true), (11, true), (12, false)] (by kernel_rfl) (by kernel_rfl) ?_
    simp only [go_sem, simprocAttr, hgetA, hgetL, hgetLk, hsetA, hsetL, hsetLk, List.length_append, List.length_set, List.append_assoc, List.set_set, h1, h1_l, hgetS h1_l, ha, hgetN hna, hb', hgetN hnb]
    refine AX_call hb fn187 rfl ?_ (better_ok (better it (Tr.node a b c d).least) (Tr.node a' b' c' d').least) (Ret.flat rfl) rfl fun d h hR => ?_
    · simp only [go_sem, simprocAttr, hgetA, hgetL, hgetLk, hsetA, hsetL, hsetLk, List.length_append, List.length_set, List.append_assoc, List.set_set, h1, h1_l, hgetS h1_l, ha, hgetN hna, hb', hgetN hnb]
    obtain ⟨rfl, rfl⟩ := hR
    refine AX_of_hax cx_ok hb ?_
    simp only [go_sem, simprocAttr, hgetA, hgetL, hgetLk, hsetA, hsetL, hsetLk, List.length_append, List.length_set, List.append_assoc, List.set_set, h1, h1_l, hgetS h1_l, ha, hgetN hna, hb', hgetN hnb]
    refine kont_of_hx cx_ok hb 200 ?_
    simp only [go_sem, simprocAttr, hgetA, hgetL, hgetLk, hsetA, hsetL, hsetLk, List.length_append, List.length_set, List.append_assoc, List.set_set, h1, h1_l, hgetS h1_l, ha, hgetN hna, hb', hgetN hnb]
    rfl
end Go.Fg.X
/- Nodes lifted: turn, balance walked. No conditions. -/
namespace Go.Fg.X
set_option linter.unusedVariables false
open Go.Proofs Go.Fg
set_option maxRecDepth 100000
set_option linter.unusedSimpArgs false
set_option maxHeartbeats 4000000
theorem turn0_ok {h : List Ob} {lx ly : Nat} {ix iy : It} {a b c : Tr} {e e' : It} {p p' q q' : Int} (hx : h[lx]? = some (nodeO ix (.ptr ly 0 0 0) c.ptr e p p')) (hy : h[ly]? = some (nodeO iy a.ptr b.ptr e' q q'))
    (ia : TrIs h a) (ib : TrIs h b) (ic : TrIs h c) (nd : (lx :: ly :: (a.locs ++ b.locs ++ c.locs)).Nodup) (hs : a.size + b.size + c.size < 900000) :
    MFn Tryz.prog 262 h [.ptr lx 0 0 0, dint 0] (fun d h' => d = .ptr ly 0 0 0 ∧ TrIs h' (.node ly iy a (.node lx ix b c)) ∧ h'.length = h.length ∧ ∀ l, l ≠ lx → l ≠ ly → h'[l]? = h[l]?) := by
  have nd2 := nd
  simp only [List.nodup_cons, List.mem_cons, List.mem_append, not_or] at nd2
  obtain ⟨⟨hne, ⟨na, nb⟩, nc⟩, ⟨⟨ma, mb⟩, mc⟩, _⟩ := nd2
  have hne' : ly ≠ lx := Ne.symm hne
  rcases b with _ | ⟨b1, b2, b3, b4⟩
  · simp only [Tr.ptr_nil, Tr.ptr_node] at hx hy
    refine MFn_hx cx_ok 200 Tryz.func262 rfl Tryz.ntmps262 Tryz.results262 rfl fun base w pl hb => ?_
    have hx_l := hlt hx
    have hy_l := hlt hy
    simp only [go_sem, simprocAttr, hgetA, hgetL, hgetLk, hsetA, hsetL, hsetLk, List.length_append, List.length_set, List.append_assoc, List.set_set, hx, hx_l, hy, hy_l]
    refine kont_hax cx_ok hb 200 mixed [(0, true), (1, true), (2, true), (3, true), (4, true), (5, true), (6, true), (7, true), (8, true), (9, true), (10, true), (11, true), (12, false)] (by kernel_rfl) (by kernel_rfl) ?_
    simp only [go_sem, simprocAttr, hgetA, hgetL, hgetLk, hsetA, hsetL, hsetLk, List.length_append, List.length_set, List.append_assoc, List.set_set, hx, hx_l, hy, hy_l, hgetN hne, hgetS hx_l]
    refine kont_callH hb fn202 rfl ?_ (learn_ok (loc := lx) (l := Tr.nil) (r := c) (it := ix) (hi := p) (n := p') (le := e) ⟨?_, ?_, ?_⟩ ?_ ?_ nb nc) rfl fun d h' hR => ?_
    · simp only [go_sem, simprocAttr]
    · rw [hgetN hne', hgetS hx_l]; rfl
    · exact (ib.set _ nb).set _ mb
    · exact (ic.set _ nc).set _ mc
    · omega
    · omega
    subst hR
    refine kont_of_hx cx_ok hb 200 ?_
    simp only [go_sem, simprocAttr, hgetA, hgetL, hgetLk, hsetA, hsetL, hsetLk, List.length_append, List.length_set, List.append_assoc, List.set_set]
    refine kont_callH hb fn202 rfl ?_ (learn_ok (loc := ly) (l := a) (r := (.node lx ix Tr.nil c)) (it := iy) (hi := q) (n := q') (le := e') ⟨?_, ?_, ?_⟩ ?_ ?_ ?_ ?_) rfl fun d h' hR => ?_
    · simp only [go_sem, simprocAttr]
    · rw [hgetN hne, hgetS (by simpa using hy_l)]; rfl
    · exact ((ia.set _ na).set _ ma).set _ na
    · exact ⟨hgetS (by simpa using hx_l), ((ib.set _ nb).set _ mb).set _ nb, ((ic.set _ nc).set _ mc).set _ nc⟩
    · simp only [Tr.size] at *; omega
    · simp only [Tr.size] at *; omega
    · exact ma
    · intro hm; rcases List.mem_cons.1 hm with hm | hm; exact hne' hm; rcases List.mem_append.1 hm with hm | hm; exact mb hm; exact mc hm
    subst hR
    refine kont_of_hx cx_ok hb 200 ?_
    simp only [go_sem, simprocAttr, hgetA, hgetL, hgetLk, hsetA, hsetL, hsetLk, List.length_append, List.length_set, List.append_assoc, List.set_set]
    exact ⟨⟨hgetS (by simpa using hy_l), (((ia.set _ na).set _ ma).set _ na).set _ ma, ⟨by rw [hgetN hne', hgetS (by simpa using hx_l)]; rfl, (((ib.set _ nb).set _ mb).set _ nb).set _ mb, (((ic.set _ nc).set _ mc).set _ nc).set _ mc⟩⟩, fun l k1 k2 => by rw [hgetN (Ne.symm k2), hgetN (Ne.symm k1), hgetN (Ne.symm k2), hgetN (Ne.symm k1)]⟩
  · simp only [Tr.ptr_nil, Tr.ptr_node] at hx hy
    refine MFn_hx cx_ok 200 Tryz.func262 rfl Tryz.ntmps262 Tryz.results262 rfl fun base w pl hb => ?_
    have hx_l := hlt hx
    have hy_l := hlt hy
    simp only [go_sem, simprocAttr, hgetA, hgetL, hgetLk, hsetA, hsetL, hsetLk, List.length_append, List.length_set, List.append_assoc, List.set_set, hx, hx_l, hy, hy_l]
    refine kont_hax cx_ok hb 200 mixed [(0, true), (1, true), (2, true), (3, true), (4, true), (5, true), (6, true), (7, true), (8, true), (9, true), (10, true), (11, true), (12, false)] (by kernel_rfl) (by kernel_rfl) ?_
    simp only [go_sem, simprocAttr, hgetA, hgetL, hgetLk, hsetA, hsetL, hsetLk, List.length_append, List.length_set, List.append_assoc, List.set_set, hx, hx_l, hy, hy_l, hgetN hne, hgetS hx_l]
    refine kont_callH hb fn202 rfl ?_ (learn_ok (loc := lx) (l := (Tr.node b1 b2 b3 b4)) (r := c) (it := ix) (hi := p) (n := p') (le := e) ⟨?_, ?_, ?_⟩ ?_ ?_ nb nc) rfl fun d h' hR => ?_
    · simp only [go_sem, simprocAttr]
    · rw [hgetN hne', hgetS hx_l]; rfl
    · exact (ib.set _ nb).set _ mb
    · exact (ic.set _ nc).set _ mc
    · omega
    · omega
    subst hR
    refine kont_of_hx cx_ok hb 200 ?_
    simp only [go_sem, simprocAttr, hgetA, hgetL, hgetLk, hsetA, hsetL, hsetLk, List.length_append, List.length_set, List.append_assoc, List.set_set]
    refine kont_callH hb fn202 rfl ?_ (learn_ok (loc := ly) (l := a) (r := (.node lx ix (Tr.node b1 b2 b3 b4) c)) (it := iy) (hi := q) (n := q') (le := e') ⟨?_, ?_, ?_⟩ ?_ ?_ ?_ ?_) rfl fun d h' hR => ?_
    · simp only [go_sem, simprocAttr]
    · rw [hgetN hne, hgetS (by simpa using hy_l)]; rfl
    · exact ((ia.set _ na).set _ ma).set _ na
    · exact ⟨hgetS (by simpa using hx_l), ((ib.set _ nb).set _ mb).set _ nb, ((ic.set _ nc).set _ mc).set _ nc⟩
    · simp only [Tr.size] at *; omega
    · simp only [Tr.size] at *; omega
    · exact ma
    · intro hm; rcases List.mem_cons.1 hm with hm | hm; exact hne' hm; rcases List.mem_append.1 hm with hm | hm; exact mb hm; exact mc hm
    subst hR
    refine kont_of_hx cx_ok hb 200 ?_
    simp only [go_sem, simprocAttr, hgetA, hgetL, hgetLk, hsetA, hsetL, hsetLk, List.length_append, List.length_set, List.append_assoc, List.set_set]
    exact ⟨⟨hgetS (by simpa using hy_l), (((ia.set _ na).set _ ma).set _ na).set _ ma, ⟨by rw [hgetN hne', hgetS (by simpa using hx_l)]; rfl, (((ib.set _ nb).set _ mb).set _ nb).set _ mb, (((ic.set _ nc).set _ mc).set _ nc).set _ mc⟩⟩, fun l k1 k2 => by rw [hgetN (Ne.symm k2), hgetN (Ne.symm k1), hgetN (Ne.symm k2), hgetN (Ne.symm k1)]⟩
theorem turn1_ok {h : List Ob} {lx ly : Nat} {ix iy : It} {a b c : Tr} {e e' : It} {p p' q q' : Int} (hx : h[lx]? = some (nodeO ix a.ptr (.ptr ly 0 0 0) e p p')) (hy : h[ly]? = some (nodeO iy b.ptr c.ptr e' q q'))
    (ia : TrIs h a) (ib : TrIs h b) (ic : TrIs h c) (nd : (lx :: ly :: (a.locs ++ b.locs ++ c.locs)).Nodup) (hs : a.size + b.size + c.size < 900000) :
    MFn Tryz.prog 262 h [.ptr lx 0 0 0, dint 1] (fun d h' => d = .ptr ly 0 0 0 ∧ TrIs h' (.node ly iy (.node lx ix a b) c) ∧ h'.length = h.length ∧ ∀ l, l ≠ lx → l ≠ ly → h'[l]? = h[l]?) := by
  have nd2 := nd
  simp only [List.nodup_cons, List.mem_cons, List.mem_append, not_or] at nd2
  obtain ⟨⟨hne, ⟨na, nb⟩, nc⟩, ⟨⟨ma, mb⟩, mc⟩, _⟩ := nd2
  have hne' : ly ≠ lx := Ne.symm hne
  rcases b with _ | ⟨b1, b2, b3, b4⟩
  · simp only [Tr.ptr_nil, Tr.ptr_node] at hx hy
    refine MFn_hx cx_ok 200 Tryz.func262 rfl Tryz.ntmps262 Tryz.results262 rfl fun base w pl hb => ?_
    have hx_l := hlt hx
    have hy_l := hlt hy
    simp only [go_sem, simprocAttr, hgetA, hgetL, hgetLk, hsetA, hsetL, hsetLk, List.length_append, List.length_set, List.append_assoc, List.set_set, hx, hx_l, hy, hy_l]
    refine kont_hax cx_ok hb 200 mixed [(0, true), (1, true), (2, true), (3, true), (4, true), (5, true), (6, true), (7, true), (8, true), (9, true), (10, true), (11, true), (12, false)] (by kernel_rfl) (by kernel_rfl) ?_
    simp only [go_sem, simprocAttr, hgetA, hgetL, hgetLk, hsetA, hsetL, hsetLk, List.length_append, List.length_set, List.append_assoc, List.set_set, hx, hx_l, hy, hy_l, hgetN hne, hgetS hx_l]
    refine kont_callH hb fn202 rfl ?_ (learn_ok (loc := lx) (l := a) (r := Tr.nil) (it := ix) (hi := p) (n := p') (le := e) ⟨?_, ?_, ?_⟩ ?_ ?_ na nb) rfl fun d h' hR => ?_
    · simp only [go_sem, simprocAttr]
    · rw [hgetN hne', hgetS hx_l]; rfl
    · exact (ia.set _ na).set _ ma
    · exact (ib.set _ nb).set _ mb
    · omega
    · omega
    subst hR
    refine kont_of_hx cx_ok hb 200 ?_
    simp only [go_sem, simprocAttr, hgetA, hgetL, hgetLk, hsetA, hsetL, hsetLk, List.length_append, List.length_set, List.append_assoc, List.set_set]
    refine kont_callH hb fn202 rfl ?_ (learn_ok (loc := ly) (l := (.node lx ix a Tr.nil)) (r := c) (it := iy) (hi := q) (n := q') (le := e') ⟨?_, ?_, ?_⟩ ?_ ?_ ?_ ?_) rfl fun d h' hR => ?_
    · simp only [go_sem, simprocAttr]
    · rw [hgetN hne, hgetS (by simpa using hy_l)]; rfl
    · exact ⟨hgetS (by simpa using hx_l), ((ia.set _ na).set _ ma).set _ na, ((ib.set _ nb).set _ mb).set _ nb⟩
    · exact ((ic.set _ nc).set _ mc).set _ nc
    · simp only [Tr.size] at *; omega
    · simp only [Tr.size] at *; omega
    · intro hm; rcases List.mem_cons.1 hm with hm | hm; exact hne' hm; rcases List.mem_append.1 hm with hm | hm; exact ma hm; exact mb hm
    · exact mc
    subst hR
    refine kont_of_hx cx_ok hb 200 ?_
    simp only [go_sem, simprocAttr, hgetA, hgetL, hgetLk, hsetA, hsetL, hsetLk, List.length_append, List.length_set, List.append_assoc, List.set_set]
    exact ⟨⟨hgetS (by simpa using hy_l), ⟨by rw [hgetN hne', hgetS (by simpa using hx_l)]; rfl, (((ia.set _ na).set _ ma).set _ na).set _ ma, (((ib.set _ nb).set _ mb).set _ nb).set _ mb⟩, (((ic.set _ nc).set _ mc).set _ nc).set _ mc⟩, fun l k1 k2 => by rw [hgetN (Ne.symm k2), hgetN (Ne.symm k1), hgetN (Ne.symm k2), hgetN (Ne.symm k1)]⟩
  · simp only [Tr.ptr_nil, Tr.ptr_node] at hx hy
    refine MFn_hx cx_ok 200 Tryz.func262 rfl Tryz.ntmps262 Tryz.results262 rfl fun base w pl hb => ?_
    have hx_l := hlt hx
    have hy_l := hlt hy
    simp only [go_sem, simprocAttr, hgetA, hgetL, hgetLk, hsetA, hsetL, hsetLk, List.length_append, List.length_set, List.append_assoc, List.set_set, hx, hx_l, hy, hy_l]
    refine kont_hax cx_ok hb 200 mixed [(0, true), (1, true), (2, true), (3, true), (4, true), (5, true), (6, true), (7, true), (8, true), (9, true), (10, true), (11, true), (12, false)] (by kernel_rfl) (by kernel_rfl) ?_
    simp only [go_sem, simprocAttr, hgetA, hgetL, hgetLk, hsetA, hsetL, hsetLk, List.length_append, List.length_set, List.append_assoc, List.set_set, hx, hx_l, hy, hy_l, hgetN hne, hgetS hx_l]
    refine kont_callH hb fn202 rfl ?_ (learn_ok (loc := lx) (l := a) (r := (Tr.node b1 b2 b3 b4)) (it := ix) (hi := p) (n := p') (le := e) ⟨?_, ?_, ?_⟩ ?_ ?_ na nb) rfl fun d h' hR => ?_
    · simp only [go_sem, simprocAttr]
    · rw [hgetN hne', hgetS hx_l]; rfl
    · exact (ia.set _ na).set _ ma
    · exact (ib.set _ nb).set _ mb
    · omega
    · omega
    subst hR
    refine kont_of_hx cx_ok hb 200 ?_
    simp only [go_sem, simprocAttr, hgetA, hgetL, hgetLk, hsetA, hsetL, hsetLk, List.length_append, List.length_set, List.append_assoc, List.set_set]
    refine kont_callH hb fn202 rfl ?_ (learn_ok (loc := ly) (l := (.node lx ix a (Tr.node b1 b2 b3 b4))) (r := c) (it := iy) (hi := q) (n := q') (le := e') ⟨?_, ?_, ?_⟩ ?_ ?_ ?_ ?_) rfl fun d h' hR => ?_
    · simp only [go_sem, simprocAttr]
    · rw [hgetN hne, hgetS (by simpa using hy_l)]; rfl
    · exact ⟨hgetS (by simpa using hx_l), ((ia.set _ na).set _ ma).set _ na, ((ib.set _ nb).set _ mb).set _ nb⟩
    · exact ((ic.set _ nc).set _ mc).set _ nc
    · simp only [Tr.size] at *; omega
    · simp only [Tr.size] at *; omega
    · intro hm; rcases List.mem_cons.1 hm with hm | hm; exact hne' hm; rcases List.mem_append.1 hm with hm | hm; exact ma hm; exact mb hm
    · exact mc
    subst hR
    refine kont_of_hx cx_ok hb 200 ?_
    simp only [go_sem, simprocAttr, hgetA, hgetL, hgetLk, hsetA, hsetL, hsetLk, List.length_append, List.length_set, List.append_assoc, List.set_set]
    exact ⟨⟨hgetS (by simpa using hy_l), ⟨by rw [hgetN hne', hgetS (by simpa using hx_l)]; rfl, (((ia.set _ na).set _ ma).set _ na).set _ ma, (((ib.set _ nb).set _ mb).set _ nb).set _ mb⟩, (((ic.set _ nc).set _ mc).set _ nc).set _ mc⟩, fun l k1 k2 => by rw [hgetN (Ne.symm k2), hgetN (Ne.symm k1), hgetN (Ne.symm k2), hgetN (Ne.symm k1)]⟩
end Go.Fg.X
/- A call that is lent the whole heap, within a region that draws its order. No conditions. -/
namespace Go.Fg
set_option linter.unusedSimpArgs false
set_option linter.unusedVariables false
section
variable {P : Program} {base nt : Nat} {w0 : Start}
theorem AX_callH (hbase : base ≤ w0.w.heap.size) {K : St → Prop} {dst : Option Nat} {ty : TypeId} {after : Array Edge} {gd : Option (Nat × Bool)} {r : List (Bool × Oper × G)} {s : St} {x : Operand} {args : Array Operand} {tys : Array TypeId} {f : FuncId} {nf : Nat} {caps : List D} (hf : FnOk P f)
    (hx : calleeD (evalO s.fr x) = some (f, nf, caps)) {cs : List D} (he : argsEq (argsD nf caps (args.toList.map (evalO s.fr))) cs) {R : D → List Ob → Prop} (hF : MFn P f s.h cs R)
    (ht : okO nt dst = true) (hk : ∀ d h, R d h → AX P base nt w0 K r ⟨putO s.fr dst d, h⟩) :
    AX P base nt w0 K ((false, ⟨dst, .call ⟨.value x, args, tys⟩, ty, "!", after, gd⟩, none) :: r) s := by
  simp only [AX, AXo, lateT]
  intro Z z pl a w rr b
  exact Oper.wp_mono (fun a' w' ⟨d, h, pl', hR, r', b', T, v, e⟩ => ⟨fun hc => absurd hc (by simp [calmS]), _, _, pl', v, hk d h hR, r', b', T, e⟩) (callH_wp hbase hf rfl hx (hF.args he) ht pl a w rr b _)
end
end Go.Fg
/- A node balanced: walked. No conditions. -/
namespace Go.Fg.X
set_option linter.unusedVariables false
open Go.Proofs Go.Fg
set_option maxRecDepth 100000
set_option linter.unusedSimpArgs false
set_option maxHeartbeats 4000000
theorem balance_ok {h : List Ob} {loc : Nat} {it : It} {l r : Tr} {le : It} {hi n : Int} (i : Raw h loc it l r le hi n) (nd : (loc :: (l.locs ++ r.locs)).Nodup) (hs : l.size + r.size < 800000) :
    MFn Tryz.prog 241 h [.ptr loc 0 0 0] (fun d h' => ∃ t', d = t'.ptr ∧ Upd h (.node loc it l r) (l.list ++ it :: r.list) h' t') := by
  have nd2 := nd
  simp only [List.nodup_cons, List.mem_append, not_or] at nd2
  obtain ⟨⟨nl, nr⟩, nd3⟩ := nd2
  have hl := l.high_le
  have hr := r.high_le
  have el : IntKind.i64.wrap ((l.high : Int) + 1) = ((l.high + 1 : Nat) : Int) := by rw [wrap64 (by omega) (by omega)]; omega
  have er : IntKind.i64.wrap ((r.high : Int) + 1) = ((r.high + 1 : Nat) : Int) := by rw [wrap64 (by omega) (by omega)]; omega
  have h1 := i.o
  refine MFn_hx cx_ok 200 Tryz.func241 rfl Tryz.ntmps241 Tryz.results241 rfl fun base w pl hb => ?_
  have h1_l := hlt h1
  simp only [go_sem, simprocAttr, hgetA, hgetL, hgetLk, hsetA, hsetL, hsetLk, List.length_append, List.length_set, List.append_assoc, List.set_set, h1, h1_l]
  refine kont_callH hb fn202 rfl ?_ (learn_ok (loc := loc) i (by omega) (by omega) nl nr) rfl fun d h2 hR => ?_
  · simp only [go_sem, simprocAttr]
  have hlen : h2.length = h.length := by rw [hR]; simp
  have t2 : TrIs h2 (.node loc it l r) := by
    rw [hR]
    exact ⟨hgetS h1_l, i.il.set _ nl, i.ir.set _ nr⟩
  have k2 : ∀ k, k ≠ loc → h2[k]? = h[k]? := fun k hk => by rw [hR, hgetN (Ne.symm hk)]
  clear hR
  have u2 : Upd h (.node loc it l r) (Tr.node loc it l r).list h2 (.node loc it l r) := ⟨t2, rfl, nd, fun _ h => .inl h, fun k _ hn => k2 k fun e => hn (by rw [e]; simp [Tr.locs]), by omega⟩
  have h3 := t2.1
  have h3_l := hlt h3
  refine kont_of_hx cx_ok hb 200 ?_
  simp only [go_sem, simprocAttr, hgetA, hgetL, hgetLk, hsetA, hsetL, hsetLk, List.length_append, List.length_set, List.append_assoc, List.set_set, h3, h3_l]
  refine kont_turns 2 ?_
  refine kont_of_hx cx_ok hb 200 ?_
  simp only [go_sem, simprocAttr, hgetA, hgetL, hgetLk, hsetA, hsetL, hsetLk, List.length_append, List.length_set, List.append_assoc, List.set_set, h3, h3_l]
  refine kont_hax cx_ok hb 200 mixed [(0, true), (2, true), (3, true), (4, true), (5, true), (6, true), (7, true), (8, true), (1, false), (9, false), (10, true), (11, true)] (by kernel_rfl) (by kernel_rfl) ?_
  simp only [go_sem, simprocAttr, hgetA, hgetL, hgetLk, hsetA, hsetL, hsetLk, List.length_append, List.length_set, List.append_assoc, List.set_set, h3, h3_l]
  refine AX_callR0 hb fn242 rfl ?_ (high_ok t2.2.1.toR) rfl fun d hR => ?_
  · simp only [go_sem, simprocAttr, hgetA, hgetL, hgetLk, hsetA, hsetL, hsetLk, List.length_append, List.length_set, List.append_assoc, List.set_set, h3, h3_l]
  subst hR
  refine AX_of_hax cx_ok hb ?_
  simp only [go_sem, simprocAttr, hgetA, hgetL, hgetLk, hsetA, hsetL, hsetLk, List.length_append, List.length_set, List.append_assoc, List.set_set, h3, h3_l]
  refine AX_callR0 hb fn242 rfl ?_ (high_ok t2.2.2.toR) rfl fun d hR => ?_
  · simp only [go_sem, simprocAttr, hgetA, hgetL, hgetLk, hsetA, hsetL, hsetLk, List.length_append, List.length_set, List.append_assoc, List.set_set, h3, h3_l, er]
  subst hR
  refine AX_of_hax cx_ok hb ?_
  simp only [go_sem, simprocAttr, hgetA, hgetL, hgetLk, hsetA, hsetL, hsetLk, List.length_append, List.length_set, List.append_assoc, List.set_set, h3, h3_l, er]
  by_cases c0 : l.high ≤ r.high + 1
  · have d0 := decide_eq_true c0
    simp only [go_sem, simprocAttr, hgetA, hgetL, hgetLk, hsetA, hsetL, hsetLk, List.length_append, List.length_set, List.append_assoc, List.set_set, d0]
    refine kont_of_hx cx_ok hb 200 ?_
    simp only [go_sem, simprocAttr, hgetA, hgetL, hgetLk, hsetA, hsetL, hsetLk, List.length_append, List.length_set, List.append_assoc, List.set_set, h3, h3_l]
    refine kont_hax cx_ok hb 200 mixed [(0, true), (2, true), (3, true), (4, true), (5, true), (6, true), (7, true), (8, true), (1, false), (9, false), (10, true), (11, true)] (by kernel_rfl) (by kernel_rfl) ?_
    simp only [go_sem, simprocAttr, hgetA, hgetL, hgetLk, hsetA, hsetL, hsetLk, List.length_append, List.length_set, List.append_assoc, List.set_set, h3, h3_l]
    refine AX_callR0 hb fn242 rfl ?_ (high_ok t2.2.2.toR) rfl fun d hR => ?_
    · simp only [go_sem, simprocAttr, hgetA, hgetL, hgetLk, hsetA, hsetL, hsetLk, List.length_append, List.length_set, List.append_assoc, List.set_set, h3, h3_l]
    subst hR
    refine AX_of_hax cx_ok hb ?_
    simp only [go_sem, simprocAttr, hgetA, hgetL, hgetLk, hsetA, hsetL, hsetLk, List.length_append, List.length_set, List.append_assoc, List.set_set, h3, h3_l]
    refine AX_callR0 hb fn242 rfl ?_ (high_ok t2.2.1.toR) rfl fun d hR => ?_
    · simp only [go_sem, simprocAttr, hgetA, hgetL, hgetLk, hsetA, hsetL, hsetLk, List.length_append, List.length_set, List.append_assoc, List.set_set, h3, h3_l, el]
    subst hR
    refine AX_of_hax cx_ok hb ?_
    simp only [go_sem, simprocAttr, hgetA, hgetL, hgetLk, hsetA, hsetL, hsetLk, List.length_append, List.length_set, List.append_assoc, List.set_set, h3, h3_l, el]
    by_cases c1 : r.high ≤ l.high + 1
    · have d1 := decide_eq_true c1
      simp only [go_sem, simprocAttr, hgetA, hgetL, hgetLk, hsetA, hsetL, hsetLk, List.length_append, List.length_set, List.append_assoc, List.set_set, d1]
      refine kont_of_hx cx_ok hb 200 ?_
      simp only [go_sem, simprocAttr, hgetA, hgetL, hgetLk, hsetA, hsetL, hsetLk, List.length_append, List.length_set, List.append_assoc, List.set_set, h3, h3_l]
      refine kont_of_hx cx_ok hb 200 ?_
      simp only [go_sem, simprocAttr]
      exact ⟨.node loc it l r, rfl, u2⟩
    · have d1 := decide_eq_false c1
      simp only [go_sem, simprocAttr, hgetA, hgetL, hgetLk, hsetA, hsetL, hsetLk, List.length_append, List.length_set, List.append_assoc, List.set_set, d1]
      cases r with
      | nil => exact absurd (Nat.zero_le _) c1
      | node ly iy b a =>
        have hsz := hs
        simp only [Tr.size] at hsz
        have h4 := t2.2.2.1
        have h4_l := hlt h4
        have hne : loc ≠ ly := by rintro rfl; simp [Tr.locs, List.nodup_cons, List.nodup_append, List.mem_cons, List.mem_append] at nd
        refine kont_hax cx_ok hb 200 mixed [(0, true), (1, true), (2, true), (3, true), (4, true), (5, true), (6, true), (8, true), (9, true), (10, true), (11, true), (12, true), (13, true), (7, false), (14, false), (15, true)] (by kernel_rfl) (by kernel_rfl) ?_
        simp only [go_sem, simprocAttr, hgetA, hgetL, hgetLk, hsetA, hsetL, hsetLk, List.length_append, List.length_set, List.append_assoc, List.set_set, h3, h3_l, h4, h4_l]
        refine AX_callR0 hb fn242 rfl ?_ (high_ok t2.2.2.2.1.toR) rfl fun d hR => ?_
        · simp only [go_sem, simprocAttr, hgetA, hgetL, hgetLk, hsetA, hsetL, hsetLk, List.length_append, List.length_set, List.append_assoc, List.set_set, h3, h3_l, h4, h4_l]
        subst hR
        refine AX_of_hax cx_ok hb ?_
        simp only [go_sem, simprocAttr, hgetA, hgetL, hgetLk, hsetA, hsetL, hsetLk, List.length_append, List.length_set, List.append_assoc, List.set_set, h3, h3_l, h4, h4_l]
        refine AX_callR0 hb fn242 rfl ?_ (high_ok t2.2.2.2.2.toR) rfl fun d hR => ?_
        · simp only [go_sem, simprocAttr, hgetA, hgetL, hgetLk, hsetA, hsetL, hsetLk, List.length_append, List.length_set, List.append_assoc, List.set_set, h3, h3_l, h4, h4_l]
        subst hR
        refine AX_of_hax cx_ok hb ?_
        simp only [go_sem, simprocAttr, hgetA, hgetL, hgetLk, hsetA, hsetL, hsetLk, List.length_append, List.length_set, List.append_assoc, List.set_set, h3, h3_l, h4, h4_l]
        by_cases c2 : a.high < b.high
        · have d2 := decide_eq_true c2
          simp only [go_sem, simprocAttr, hgetA, hgetL, hgetLk, hsetA, hsetL, hsetLk, List.length_append, List.length_set, List.append_assoc, List.set_set, d2]
          cases b with
          | nil => exact absurd c2 (Nat.not_lt_zero _)
          | node lb ib b1 b2 =>
            simp only [Tr.ptr_node] at h4
            simp only [Tr.size] at hsz
            have h5 := t2.2.2.2.1.1
            have h5_l := hlt h5
            have hn2 : loc ≠ lb := by rintro rfl; simp [Tr.locs, List.nodup_cons, List.nodup_append, List.mem_cons, List.mem_append] at nd
            have hn3 : ly ≠ lb := by rintro rfl; simp [Tr.locs, List.nodup_cons, List.nodup_append, List.mem_cons, List.mem_append] at nd
            refine kont_haxNC [5] cx_ok hb 200 mixed [(0, true), (1, true), (2, true), (3, true), (4, true), (6, true), (7, true), (5, false), (8, true), (9, false)] [] (by kernel_rfl) (by kernel_rfl) ?_
            simp only [go_sem, simprocAttr, hgetA, hgetL, hgetLk, hsetA, hsetL, hsetLk, List.length_append, List.length_set, List.append_assoc, List.set_set, h3, h3_l]
            refine AX_callH hb fn262 rfl ?_ (turn0_ok (lx := ly) (ly := lb) (a := b1) (b := b2) (c := a) h4 h5 t2.2.2.2.1.2.1 t2.2.2.2.1.2.2 t2.2.2.2.2 (by simp only [Tr.locs, List.nodup_cons, List.nodup_append, List.mem_cons, List.mem_append] at nd ⊢; grind) (by omega)) rfl fun d h6 hR => ?_
            · simp only [go_sem, simprocAttr]
            obtain ⟨rfl, t4, l4, k4⟩ := hR
            have h7 : h6[loc]? = _ := (k4 loc hne hn2).trans h3
            have h7_l := hlt h7
            refine AX_of_hax cx_ok hb ?_
            simp only [go_sem, simprocAttr, hgetA, hgetL, hgetLk, hsetA, hsetL, hsetLk, List.length_append, List.length_set, List.append_assoc, List.set_set, h7, h7_l]
            have tr : TrIs h6 l := t2.2.1.frame fun k hk => k4 k (by rintro rfl; simp only [Tr.locs, List.nodup_cons, List.nodup_append, List.mem_cons, List.mem_append] at nd; grind) (by rintro rfl; simp only [Tr.locs, List.nodup_cons, List.nodup_append, List.mem_cons, List.mem_append] at nd; grind)
            refine kont_of_hx cx_ok hb 200 ?_
            simp only [go_sem, simprocAttr]
            refine kont_callH hb fn262 rfl ?_ (turn1_ok (lx := loc) (ly := lb) (a := l) (b := b1) (c := .node ly iy b2 a) (hgetS h7_l) ((hgetN hn2).trans t4.1) (tr.set _ nl) (t4.2.1.set _ (by simp only [Tr.locs, List.nodup_cons, List.nodup_append, List.mem_cons, List.mem_append] at nd ⊢; grind)) (t4.2.2.set _ (by simp only [Tr.locs, List.nodup_cons, List.nodup_append, List.mem_cons, List.mem_append] at nd ⊢; grind)) (by simp only [Tr.locs, List.nodup_cons, List.nodup_append, List.mem_cons, List.mem_append] at nd ⊢; grind) (by simp only [Tr.size]; omega)) rfl fun d h8 hR => ?_
            · simp only [go_sem, simprocAttr]
            obtain ⟨rfl, t8, l8, k8⟩ := hR
            refine kont_of_hx cx_ok hb 200 ?_
            simp only [go_sem, simprocAttr]
            refine ⟨(.node lb ib (.node loc it l b1) (.node ly iy b2 a)), rfl, u2.trans ⟨t8, by simp [Tr.list], by simp only [Tr.locs, List.nodup_cons, List.nodup_append, List.mem_cons, List.mem_append] at nd ⊢; grind, fun k hk => .inl (by simp only [Tr.locs, List.mem_cons, List.mem_append] at hk ⊢; grind), fun k _ hk => ?_, by rw [l8, List.length_set, l4]; exact Nat.le_refl _⟩⟩
            simp only [Tr.locs, List.mem_cons, List.mem_append, not_or] at hk
            rw [k8 k (by grind) (by grind), hgetN (by grind), k4 k (by grind) (by grind)]
        · have d2 := decide_eq_false c2
          simp only [go_sem, simprocAttr, hgetA, hgetL, hgetLk, hsetA, hsetL, hsetLk, List.length_append, List.length_set, List.append_assoc, List.set_set, d2]
          refine kont_of_hx cx_ok hb 200 ?_
          simp only [go_sem, simprocAttr]
          refine kont_callH hb fn262 rfl ?_ (turn1_ok (lx := loc) (ly := ly) (a := l) (b := b) (c := a) h3 h4 t2.2.1 t2.2.2.2.1 t2.2.2.2.2 (by simp only [Tr.locs, List.nodup_cons, List.nodup_append, List.mem_cons, List.mem_append] at nd ⊢; grind) (by omega)) rfl fun d h8 hR => ?_
          · simp only [go_sem, simprocAttr]
          obtain ⟨rfl, t8, l8, k8⟩ := hR
          refine kont_of_hx cx_ok hb 200 ?_
          simp only [go_sem, simprocAttr]
          refine ⟨(.node ly iy (.node loc it l b) a), rfl, u2.trans ⟨t8, by simp [Tr.list], by simp only [Tr.locs, List.nodup_cons, List.nodup_append, List.mem_cons, List.mem_append] at nd ⊢; grind, fun k hk => .inl (by simp only [Tr.locs, List.mem_cons, List.mem_append] at hk ⊢; grind), fun k _ hk => ?_, by rw [l8]; exact Nat.le_refl _⟩⟩
          simp only [Tr.locs, List.mem_cons, List.mem_append, not_or] at hk
          exact k8 k (by grind) (by grind)
  · have d0 := decide_eq_false c0
    simp only [go_sem, simprocAttr, hgetA, hgetL, hgetLk, hsetA, hsetL, hsetLk, List.length_append, List.length_set, List.append_assoc, List.set_set, d0]
    cases l with
    | nil => exact absurd (Nat.zero_le _) c0
    | node ly iy a b =>
      have hsz := hs
      simp only [Tr.size] at hsz
      have h4 := t2.2.1.1
      have h4_l := hlt h4
      have hne : loc ≠ ly := by rintro rfl; simp [Tr.locs, List.nodup_cons, List.nodup_append, List.mem_cons, List.mem_append] at nd
      refine kont_hax cx_ok hb 200 mixed [(0, true), (1, true), (2, true), (3, true), (4, true), (5, true), (6, true), (8, true), (9, true), (10, true), (11, true), (12, true), (13, true), (7, false), (14, false), (15, true)] (by kernel_rfl) (by kernel_rfl) ?_
      simp only [go_sem, simprocAttr, hgetA, hgetL, hgetLk, hsetA, hsetL, hsetLk, List.length_append, List.length_set, List.append_assoc, List.set_set, h3, h3_l, h4, h4_l]
      refine AX_callR0 hb fn242 rfl ?_ (high_ok t2.2.1.2.2.toR) rfl fun d hR => ?_
      · simp only [go_sem, simprocAttr, hgetA, hgetL, hgetLk, hsetA, hsetL, hsetLk, List.length_append, List.length_set, List.append_assoc, List.set_set, h3, h3_l, h4, h4_l]
      subst hR
      refine AX_of_hax cx_ok hb ?_
      simp only [go_sem, simprocAttr, hgetA, hgetL, hgetLk, hsetA, hsetL, hsetLk, List.length_append, List.length_set, List.append_assoc, List.set_set, h3, h3_l, h4, h4_l]
      refine AX_callR0 hb fn242 rfl ?_ (high_ok t2.2.1.2.1.toR) rfl fun d hR => ?_
      · simp only [go_sem, simprocAttr, hgetA, hgetL, hgetLk, hsetA, hsetL, hsetLk, List.length_append, List.length_set, List.append_assoc, List.set_set, h3, h3_l, h4, h4_l]
      subst hR
      refine AX_of_hax cx_ok hb ?_
      simp only [go_sem, simprocAttr, hgetA, hgetL, hgetLk, hsetA, hsetL, hsetLk, List.length_append, List.length_set, List.append_assoc, List.set_set, h3, h3_l, h4, h4_l]
      by_cases c2 : a.high < b.high
      · have d2 := decide_eq_true c2
        simp only [go_sem, simprocAttr, hgetA, hgetL, hgetLk, hsetA, hsetL, hsetLk, List.length_append, List.length_set, List.append_assoc, List.set_set, d2]
        cases b with
        | nil => exact absurd c2 (Nat.not_lt_zero _)
        | node lb ib b1 b2 =>
          simp only [Tr.ptr_node] at h4
          simp only [Tr.size] at hsz
          have h5 := t2.2.1.2.2.1
          have h5_l := hlt h5
          have hn2 : loc ≠ lb := by rintro rfl; simp [Tr.locs, List.nodup_cons, List.nodup_append, List.mem_cons, List.mem_append] at nd
          have hn3 : ly ≠ lb := by rintro rfl; simp [Tr.locs, List.nodup_cons, List.nodup_append, List.mem_cons, List.mem_append] at nd
          refine kont_haxNC [5] cx_ok hb 200 mixed [(0, true), (1, true), (2, true), (3, true), (4, true), (6, true), (7, true), (5, false), (8, true), (9, false)] [] (by kernel_rfl) (by kernel_rfl) ?_
          simp only [go_sem, simprocAttr, hgetA, hgetL, hgetLk, hsetA, hsetL, hsetLk, List.length_append, List.length_set, List.append_assoc, List.set_set, h3, h3_l]
          refine AX_callH hb fn262 rfl ?_ (turn1_ok (lx := ly) (ly := lb) (a := a) (b := b1) (c := b2) h4 h5 t2.2.1.2.1 t2.2.1.2.2.2.1 t2.2.1.2.2.2.2 (by simp only [Tr.locs, List.nodup_cons, List.nodup_append, List.mem_cons, List.mem_append] at nd ⊢; grind) (by omega)) rfl fun d h6 hR => ?_
          · simp only [go_sem, simprocAttr]
          obtain ⟨rfl, t4, l4, k4⟩ := hR
          have h7 : h6[loc]? = _ := (k4 loc hne hn2).trans h3
          have h7_l := hlt h7
          refine AX_of_hax cx_ok hb ?_
          simp only [go_sem, simprocAttr, hgetA, hgetL, hgetLk, hsetA, hsetL, hsetLk, List.length_append, List.length_set, List.append_assoc, List.set_set, h7, h7_l]
          have tr : TrIs h6 r := t2.2.2.frame fun k hk => k4 k (by rintro rfl; simp only [Tr.locs, List.nodup_cons, List.nodup_append, List.mem_cons, List.mem_append] at nd; grind) (by rintro rfl; simp only [Tr.locs, List.nodup_cons, List.nodup_append, List.mem_cons, List.mem_append] at nd; grind)
          refine kont_of_hx cx_ok hb 200 ?_
          simp only [go_sem, simprocAttr]
          refine kont_callH hb fn262 rfl ?_ (turn0_ok (lx := loc) (ly := lb) (a := .node ly iy a b1) (b := b2) (c := r) (hgetS h7_l) ((hgetN hn2).trans t4.1) (t4.2.1.set _ (by simp only [Tr.locs, List.nodup_cons, List.nodup_append, List.mem_cons, List.mem_append] at nd ⊢; grind)) (t4.2.2.set _ (by simp only [Tr.locs, List.nodup_cons, List.nodup_append, List.mem_cons, List.mem_append] at nd ⊢; grind)) (tr.set _ nr) (by simp only [Tr.locs, List.nodup_cons, List.nodup_append, List.mem_cons, List.mem_append] at nd ⊢; grind) (by simp only [Tr.size]; omega)) rfl fun d h8 hR => ?_
          · simp only [go_sem, simprocAttr]
          obtain ⟨rfl, t8, l8, k8⟩ := hR
          refine kont_of_hx cx_ok hb 200 ?_
          simp only [go_sem, simprocAttr]
          refine ⟨(.node lb ib (.node ly iy a b1) (.node loc it b2 r)), rfl, u2.trans ⟨t8, by simp [Tr.list], by simp only [Tr.locs, List.nodup_cons, List.nodup_append, List.mem_cons, List.mem_append] at nd ⊢; grind, fun k hk => .inl (by simp only [Tr.locs, List.mem_cons, List.mem_append] at hk ⊢; grind), fun k _ hk => ?_, by rw [l8, List.length_set, l4]; exact Nat.le_refl _⟩⟩
          simp only [Tr.locs, List.mem_cons, List.mem_append, not_or] at hk
          rw [k8 k (by grind) (by grind), hgetN (by grind), k4 k (by grind) (by grind)]
      · have d2 := decide_eq_false c2
        simp only [go_sem, simprocAttr, hgetA, hgetL, hgetLk, hsetA, hsetL, hsetLk, List.length_append, List.length_set, List.append_assoc, List.set_set, d2]
        refine kont_of_hx cx_ok hb 200 ?_
        simp only [go_sem, simprocAttr]
        refine kont_callH hb fn262 rfl ?_ (turn0_ok (lx := loc) (ly := ly) (a := a) (b := b) (c := r) h3 h4 t2.2.1.2.1 t2.2.1.2.2 t2.2.2 (by simp only [Tr.locs, List.nodup_cons, List.nodup_append, List.mem_cons, List.mem_append] at nd ⊢; grind) (by omega)) rfl fun d h8 hR => ?_
        · simp only [go_sem, simprocAttr]
        obtain ⟨rfl, t8, l8, k8⟩ := hR
        refine kont_of_hx cx_ok hb 200 ?_
        simp only [go_sem, simprocAttr]
        refine ⟨(.node ly iy a (.node loc it b r)), rfl, u2.trans ⟨t8, by simp [Tr.list], by simp only [Tr.locs, List.nodup_cons, List.nodup_append, List.mem_cons, List.mem_append] at nd ⊢; grind, fun k hk => .inl (by simp only [Tr.locs, List.mem_cons, List.mem_append] at hk ⊢; grind), fun k _ hk => ?_, by rw [l8]; exact Nat.le_refl _⟩⟩
        simp only [Tr.locs, List.mem_cons, List.mem_append, not_or] at hk
        exact k8 k (by grind) (by grind)
end Go.Fg.X
/- Something done at the place of a key: walked. No conditions. -/
namespace Go.Fg.X
set_option linter.unusedVariables false
open Go.Proofs Go.Fg
set_option maxRecDepth 100000
set_option linter.unusedSimpArgs false
set_option maxHeartbeats 4000000
theorem argEq_self (d : D) : argEq d d = True := by cases d <;> simp [argEq]
theorem argsEq_self : ∀ l : List D, argsEq l l
  | [] => trivial
  | d :: r => ⟨(argEq_self d).mpr trivial, argsEq_self r⟩
theorem side_ok {h : List Ob} {loc : Nat} {it : It} {l r : Tr} (i : TrR h (.node loc it l r)) (a : Nat) (k : Int) : RFn0 Tryz.prog 240 h [.ptr loc 0 0 0, .agg [u64 a, dint k]] (fun d => d = dint (if kLt it.ka it.ki a k then 1 else 0)) := by
  have h2 := i.1
  have c1 := rcmp_ok a k it.ka it.ki
  have e1 : (0 < cmpI a k it.ka it.ki) ↔ kLt it.ka it.ki a k := cmpI_pos
  generalize cmpI a k it.ka it.ki = p at *
  refine RFn0_hx cx_ok 200 Tryz.func240 rfl Tryz.ntmps240 Tryz.results240 rfl fun base w pl F hF hFl hb => ?_
  rw [← hF] at h2
  have h2_l := hlt h2
  simp only [go_sem, simprocAttr, hgetA, hgetL, hgetLk, hsetA, hsetL, hsetLk, List.length_append, List.length_set, List.append_assoc, List.set_set, h2, h2_l]
  refine kont_hax cx_ok hb 200 mixed [(0, true), (1, true), (2, true), (3, true), (4, true), (5, true), (6, false), (7, true)] (by kernel_rfl) (by kernel_rfl) ?_
  simp only [go_sem, simprocAttr, hgetA, hgetL, hgetLk, hsetA, hsetL, hsetLk, List.length_append, List.length_set, List.append_assoc, List.set_set, h2, h2_l]
  refine AX_call hb fn231 rfl ?_ c1 (Ret.flat rfl) rfl fun d h hR => ?_
  · simp only [go_sem, simprocAttr]
  obtain ⟨rfl, rfl⟩ := hR
  refine AX_of_hax cx_ok hb ?_
  simp only [go_sem, simprocAttr]
  by_cases hp : 0 < p
  · have d1 := decide_eq_true hp
    simp only [go_sem, simprocAttr, hgetA, hgetL, hgetLk, hsetA, hsetL, hsetLk, List.length_append, List.length_set, List.append_assoc, List.set_set, d1]
    rw [if_pos (e1.1 hp)]
    exact ⟨_, rfl, rfl⟩
  · have d1 := decide_eq_false hp
    simp only [go_sem, simprocAttr, hgetA, hgetL, hgetLk, hsetA, hsetL, hsetLk, List.length_append, List.length_set, List.append_assoc, List.set_set, d1]
    rw [if_neg (fun h => hp (e1.2 h))]
    exact ⟨_, rfl, rfl⟩
structure DoOk (dv : D) (f nf : Nat) (caps : List D) (B : List (Nat × Ob)) (a : Nat) (k : Int) (fL : Tr → List It) (N : Nat) (Nl : Prop) : Prop where
  fok : FnOk Tryz.prog f
  cal : calleeD dv = some (f, nf, caps)
  len : ∀ s, (fL s).length ≤ s.size + 1
  run : ∀ (h : List Ob) (s : Tr), TrIs h s → s.locs.Nodup → s.size ≤ N → SortedI s.list → (s = .nil → Nl) → (∀ loc it l r, s = .node loc it l r → it.ka = a ∧ it.ki = k) → (∀ p ∈ B, h[p.1]? = some p.2 ∧ p.1 ∉ s.locs) →
    MFn Tryz.prog f h (argsD nf caps [s.ptr]) (fun d h' => ∃ s', d = s'.ptr ∧ Upd h s (fL s) h' s')
theorem chgL_len {a : Nat} {k : Int} {fL : Tr → List It} (hf : ∀ s, (fL s).length ≤ s.size + 1) : ∀ t : Tr, (t.chgL a k fL).length ≤ t.size + 1
  | .nil => hf _
  | .node loc it l r => by
    have h1 := chgL_len (a := a) (k := k) hf l
    have h2 := chgL_len (a := a) (k := k) hf r
    have h3 := hf (.node loc it l r)
    have h4 := Tr.list_len l
    have h5 := Tr.list_len r
    rw [Tr.chgL]
    split
    · exact h3
    · split
      · simp only [List.length_append, List.length_cons, Tr.size] at *; omega
      · simp only [List.length_append, List.length_cons, Tr.size] at *; omega
theorem TrIs.app {h : List Ob} {t : Tr} (i : TrIs h t) (g : List Ob) : TrIs (h ++ g) t := i.frame fun l hl => hgetA (i.lt l hl)
theorem Upd.under {h g h' : List Ob} {t t' : Tr} {L : List It} (u : Upd (h ++ g) t L h' t') : Upd h t L h' t' :=
  ⟨u.is, u.list, u.nd, fun l hl => by
    rcases u.mem l hl with h1 | h1
    · exact .inl h1
    · exact .inr (by simp only [List.length_append] at h1; omega), fun l hl hn => by rw [u.keep l (by simp only [List.length_append]; omega) hn, hgetA hl], by have := u.len; simp only [List.length_append] at this; omega⟩
theorem change_ok {dv : D} {f nf : Nat} {caps : List D} {B : List (Nat × Ob)} {a : Nat} {k : Int} {fL : Tr → List It} {N : Nat} {Nl : Prop} (O : DoOk dv f nf caps B a k fL N Nl) (hN : N < 700000) :
    ∀ (t : Tr) (h : List Ob), TrIs h t → t.locs.Nodup → t.size ≤ N → SortedI t.list → (t.find a k = .nil → Nl) → (∀ p ∈ B, h[p.1]? = some p.2 ∧ p.1 ∉ t.locs) →
      MFn Tryz.prog 200 h [t.ptr, .agg [u64 a, dint k], dv] (fun d h' => ∃ t', d = t'.ptr ∧ Upd h t (t.chgL a k fL) h' t')
  | .nil, h, i, nd, hs, hso, hfn, hB => by
    have hd := O.run
    have hO := O.fok
    have hc := O.cal
    refine MFn_hx cx_ok 200 Tryz.func200 rfl Tryz.ntmps200 Tryz.results200 rfl fun base w pl hb => ?_
    simp only [go_sem, simprocAttr, hgetA, hgetL, hgetLk, hsetA, hsetL, hsetLk, List.length_append, List.length_set, List.append_assoc, List.set_set]
    refine kont_hax cx_ok hb 200 mixed [(0, true), (1, true), (2, true), (3, true), (4, true), (5, true), (6, true), (7, true), (8, true), (9, true), (10, true)] (by kernel_rfl) (by kernel_rfl) ?_
    simp only [go_sem, simprocAttr, hgetA, hgetL, hgetLk, hsetA, hsetL, hsetLk, List.length_append, List.length_set, List.append_assoc, List.set_set]
    refine kont_callH hb hO hc (argsEq_self _) (hd _ .nil trivial (by simp [Tr.locs]) (Nat.zero_le _) hso (fun _ => hfn rfl) (fun _ _ _ _ e => by cases e) fun p hp => ⟨(hgetA (hlt (hB p hp).1)).trans (hB p hp).1, (hB p hp).2⟩) rfl fun d h2 hR => ?_
    obtain ⟨s', rfl, u⟩ := hR
    refine kont_of_hx cx_ok hb 200 ?_
    simp only [go_sem, simprocAttr]
    exact ⟨s', rfl, u.under⟩
  | .node loc it l r, h, i, nd, hs, hso, hfn, hB => by
    have hd := O.run
    have hO := O.fok
    have hc := O.cal
    have h1 := i.1
    have nd2 := nd
    simp only [Tr.locs, List.nodup_cons, List.mem_append, not_or] at nd2
    obtain ⟨⟨nl, nr⟩, nd3⟩ := nd2
    have hlen := chgL_len (a := a) (k := k) O.len
    obtain ⟨sl, sr, _, _⟩ := sorted_app.1 (show SortedI (l.list ++ it :: r.list) from hso)
    refine MFn_hx cx_ok 200 Tryz.func200 rfl Tryz.ntmps200 Tryz.results200 rfl fun base w pl hb => ?_
    have h1_l := hlt h1
    simp only [go_sem, simprocAttr, hgetA, hgetL, hgetLk, hsetA, hsetL, hsetLk, List.length_append, List.length_set, List.append_assoc, List.set_set, h1, h1_l]
    refine kont_hax cx_ok hb 200 mixed [(0, true), (1, true), (2, true), (3, true), (4, true), (5, true), (6, true), (7, true), (8, true), (9, true), (10, true)] (by kernel_rfl) (by kernel_rfl) ?_
    simp only [go_sem, simprocAttr, hgetA, hgetL, hgetLk, hsetA, hsetL, hsetLk, List.length_append, List.length_set, List.append_assoc, List.set_set, h1, h1_l]
    by_cases e1 : it.ka = a ∧ it.ki = k
    · have d1 : ((it.ka : Int) == (a : Int) && it.ki == k) = true := by simp [e1.1, e1.2]
      simp only [go_sem, simprocAttr, hgetA, hgetL, hgetLk, hsetA, hsetL, hsetLk, List.length_append, List.length_set, List.append_assoc, List.set_set, d1, Tr.chgL, if_pos e1]
      refine kont_callH hb hO hc (argsEq_self _) (hd _ (.node loc it l r) (i.app _) nd hs hso (fun e => by cases e) (fun _ _ _ _ e => by cases e; exact e1) fun p hp => ⟨(hgetA (hlt (hB p hp).1)).trans (hB p hp).1, (hB p hp).2⟩) rfl fun d h2 hR => ?_
      obtain ⟨s', rfl, u⟩ := hR
      refine kont_of_hx cx_ok hb 200 ?_
      simp only [go_sem, simprocAttr]
      exact ⟨s', rfl, u.under⟩
    have d1 : ((it.ka : Int) == (a : Int) && it.ki == k) = false := by
      rw [Bool.eq_false_iff]; intro hh; simp only [Bool.and_eq_true, beq_iff_eq] at hh; exact e1 ⟨by omega, hh.2⟩
    simp only [go_sem, simprocAttr, hgetA, hgetL, hgetLk, hsetA, hsetL, hsetLk, List.length_append, List.length_set, List.append_assoc, List.set_set, d1, Tr.chgL, if_neg e1]
    refine kont_callR0 hb fn240 rfl ?_ (side_ok (i.app _).toR a k) rfl fun d hR => ?_
    · simp only [go_sem, simprocAttr, hgetA, hgetL, hgetLk, hsetA, hsetL, hsetLk, List.length_append, List.length_set, List.append_assoc, List.set_set, h1, h1_l]
    subst hR
    refine kont_of_hx cx_ok hb 200 ?_
    simp only [go_sem, simprocAttr, hgetA, hgetL, hgetLk, hsetA, hsetL, hsetLk, List.length_append, List.length_set, List.append_assoc, List.set_set, h1, h1_l]
    by_cases e2 : kLt it.ka it.ki a k
    · simp only [if_pos e2]
      refine kont_haxNC [10] cx_ok hb 200 mixed [(0, true), (1, true), (2, true), (3, true), (4, true), (5, true), (6, true), (7, true), (8, true), (9, true), (11, true), (12, true), (10, false), (13, true), (14, false)] [] (by kernel_rfl) (by kernel_rfl) ?_
      simp only [go_sem, simprocAttr, hgetA, hgetL, hgetLk, hsetA, hsetL, hsetLk, List.length_append, List.length_set, List.append_assoc, List.set_set, h1, h1_l]
      refine AX_callH hb fn200 rfl ?_ (change_ok O hN r _ (i.2.2.app _) (by simp only [Tr.locs, List.nodup_cons, List.nodup_append, List.mem_cons, List.mem_append] at nd ⊢; grind) (by simp only [Tr.size] at hs; omega) sr (fun e => hfn (by rw [Tr.find, if_neg e1, if_pos e2]; exact e)) fun p hp => ⟨(hgetA (hlt (hB p hp).1)).trans (hB p hp).1, fun hm => (hB p hp).2 (by simp only [Tr.locs, List.mem_cons, List.mem_append]; grind)⟩) rfl fun d h6 hR => ?_
      · simp only [go_sem, simprocAttr, argEq_self]
      obtain ⟨t', rfl, u⟩ := hR
      have u := u.under
      have h7 : h6[loc]? = _ := (u.keep loc h1_l (by simp only [Tr.locs, List.nodup_cons, List.nodup_append, List.mem_cons, List.mem_append] at nd ⊢; grind)).trans h1
      have h7_l := hlt h7
      have ul := u.list
      have hsz := Tr.list_len t'
      rw [ul] at hsz
      have hl2 := hlen r
      have nt : loc ∉ t'.locs := fun hm => by
        rcases u.mem loc hm with h9 | h9
        · simp only [Tr.locs, List.nodup_cons, List.nodup_append, List.mem_cons, List.mem_append] at nd; grind
        · omega
      have no : ∀ k ∈ l.locs, k ∉ t'.locs := fun k hk hm => by
        have hkl := i.2.1.lt k hk
        rcases u.mem k hm with h9 | h9
        · simp only [Tr.locs, List.nodup_cons, List.nodup_append, List.mem_cons, List.mem_append] at nd; grind
        · omega
      have to : TrIs h6 l := i.2.1.frame fun k hk => u.keep k (i.2.1.lt k hk) (by simp only [Tr.locs, List.nodup_cons, List.nodup_append, List.mem_cons, List.mem_append] at nd ⊢; grind)
      refine AX_of_hax cx_ok hb ?_
      simp only [go_sem, simprocAttr, hgetA, hgetL, hgetLk, hsetA, hsetL, hsetLk, List.length_append, List.length_set, List.append_assoc, List.set_set, h7, h7_l]
      refine kont_of_hx cx_ok hb 200 ?_
      simp only [go_sem, simprocAttr]
      refine kont_callH hb fn241 rfl ?_ (balance_ok (loc := loc) (l := l) (r := t') ⟨hgetS h7_l, to.set _ nl, u.is.set _ nt⟩ (by
        have a1 := u.nd
        simp only [Tr.locs, List.nodup_cons, List.nodup_append, List.mem_cons, List.mem_append] at nd ⊢
        grind) (by simp only [Tr.size] at hs; omega)) rfl fun d h8 hR => ?_
      · simp only [go_sem, simprocAttr]
      obtain ⟨t'', rfl, v⟩ := hR
      refine kont_of_hx cx_ok hb 200 ?_
      simp only [go_sem, simprocAttr]
      have vl := v.list
      refine ⟨t'', rfl, v.is, by rw [vl, ul], v.nd, fun k hk => ?_, fun k hk hn => ?_, by have q1 := v.len; have q2 := u.len; simp only [List.length_set] at q1; omega⟩
      · rcases v.mem k hk with h9 | h9
        · have a2 := u.mem k
          simp only [Tr.locs, List.mem_cons, List.mem_append] at h9 ⊢
          grind
        · have := u.len; simp only [List.length_set] at h9; exact .inr (by omega)
      · have a2 := u.mem k
        have a3 := u.len
        rw [v.keep k (by simp only [List.length_set]; omega) (fun h9 => by
          simp only [Tr.locs, List.mem_cons, List.mem_append] at h9 hn
          rcases h9 with h9 | h9 | h9
          · exact hn (.inl h9)
          · exact hn (.inr (.inl h9))
          · rcases a2 h9 with h10 | h10
            · exact hn (.inr (.inr h10))
            · omega), hgetN (fun h9 => hn (by rw [h9]; simp [Tr.locs])), u.keep k hk (fun h9 => hn (by simp only [Tr.locs, List.mem_cons, List.mem_append]; grind))]
    · simp only [if_neg e2]
      refine kont_haxNC [10] cx_ok hb 200 mixed [(0, true), (1, true), (2, true), (3, true), (4, true), (5, true), (6, true), (7, true), (8, true), (9, true), (11, true), (12, true), (10, false), (13, true), (14, false)] [] (by kernel_rfl) (by kernel_rfl) ?_
      simp only [go_sem, simprocAttr, hgetA, hgetL, hgetLk, hsetA, hsetL, hsetLk, List.length_append, List.length_set, List.append_assoc, List.set_set, h1, h1_l]
      refine AX_callH hb fn200 rfl ?_ (change_ok O hN l _ (i.2.1.app _) (by simp only [Tr.locs, List.nodup_cons, List.nodup_append, List.mem_cons, List.mem_append] at nd ⊢; grind) (by simp only [Tr.size] at hs; omega) sl (fun e => hfn (by rw [Tr.find, if_neg e1, if_neg e2]; exact e)) fun p hp => ⟨(hgetA (hlt (hB p hp).1)).trans (hB p hp).1, fun hm => (hB p hp).2 (by simp only [Tr.locs, List.mem_cons, List.mem_append]; grind)⟩) rfl fun d h6 hR => ?_
      · simp only [go_sem, simprocAttr, argEq_self]
      obtain ⟨t', rfl, u⟩ := hR
      have u := u.under
      have h7 : h6[loc]? = _ := (u.keep loc h1_l (by simp only [Tr.locs, List.nodup_cons, List.nodup_append, List.mem_cons, List.mem_append] at nd ⊢; grind)).trans h1
      have h7_l := hlt h7
      have ul := u.list
      have hsz := Tr.list_len t'
      rw [ul] at hsz
      have hl2 := hlen l
      have nt : loc ∉ t'.locs := fun hm => by
        rcases u.mem loc hm with h9 | h9
        · simp only [Tr.locs, List.nodup_cons, List.nodup_append, List.mem_cons, List.mem_append] at nd; grind
        · omega
      have no : ∀ k ∈ r.locs, k ∉ t'.locs := fun k hk hm => by
        have hkl := i.2.2.lt k hk
        rcases u.mem k hm with h9 | h9
        · simp only [Tr.locs, List.nodup_cons, List.nodup_append, List.mem_cons, List.mem_append] at nd; grind
        · omega
      have to : TrIs h6 r := i.2.2.frame fun k hk => u.keep k (i.2.2.lt k hk) (by simp only [Tr.locs, List.nodup_cons, List.nodup_append, List.mem_cons, List.mem_append] at nd ⊢; grind)
      refine AX_of_hax cx_ok hb ?_
      simp only [go_sem, simprocAttr, hgetA, hgetL, hgetLk, hsetA, hsetL, hsetLk, List.length_append, List.length_set, List.append_assoc, List.set_set, h7, h7_l]
      refine kont_of_hx cx_ok hb 200 ?_
      simp only [go_sem, simprocAttr]
      refine kont_callH hb fn241 rfl ?_ (balance_ok (loc := loc) (l := t') (r := r) ⟨hgetS h7_l, u.is.set _ nt, to.set _ nr⟩ (by
        have a1 := u.nd
        simp only [Tr.locs, List.nodup_cons, List.nodup_append, List.mem_cons, List.mem_append] at nd ⊢
        grind) (by simp only [Tr.size] at hs; omega)) rfl fun d h8 hR => ?_
      · simp only [go_sem, simprocAttr]
      obtain ⟨t'', rfl, v⟩ := hR
      refine kont_of_hx cx_ok hb 200 ?_
      simp only [go_sem, simprocAttr]
      have vl := v.list
      refine ⟨t'', rfl, v.is, by rw [vl, ul], v.nd, fun k hk => ?_, fun k hk hn => ?_, by have q1 := v.len; have q2 := u.len; simp only [List.length_set] at q1; omega⟩
      · rcases v.mem k hk with h9 | h9
        · have a2 := u.mem k
          simp only [Tr.locs, List.mem_cons, List.mem_append] at h9 ⊢
          grind
        · have := u.len; simp only [List.length_set] at h9; exact .inr (by omega)
      · have a2 := u.mem k
        have a3 := u.len
        rw [v.keep k (by simp only [List.length_set]; omega) (fun h9 => by
          simp only [Tr.locs, List.mem_cons, List.mem_append] at h9 hn
          rcases h9 with h9 | h9 | h9
          · exact hn (.inl h9)
          · rcases a2 h9 with h10 | h10
            · exact hn (.inr (.inl h10))
            · omega
          · exact hn (.inr (.inr h9))), hgetN (fun h9 => hn (by rw [h9]; simp [Tr.locs])), u.keep k hk (fun h9 => hn (by simp only [Tr.locs, List.mem_cons, List.mem_append]; grind))]
end Go.Fg.X
/- Search and insertion: walked. No conditions. -/
namespace Go.Fg.X
set_option linter.unusedVariables false
open Go.Proofs Go.Fg
set_option maxRecDepth 100000
set_option linter.unusedSimpArgs false
set_option maxHeartbeats 4000000
def rootO (t : Tr) : Ob := ⟨.one, 0, 1, 1, fun _ => [t.ptr]⟩
attribute [go_sem] rootO
theorem find_ok {h : List Ob} {tl : Nat} {t : Tr} (ht : (h.map Ob.ro)[tl]? = some (rootO t).ro) (i : TrR h t) (a : Nat) (k : Int) :
    RFn0 Tryz.prog 199 h [.ptr tl 0 0 0, .agg [u64 a, dint k]] (fun d => d = (t.find a k).ptr) := by
  refine RFn0_hx cx_ok 200 Tryz.func199 rfl Tryz.ntmps199 Tryz.results199 rfl fun base w pl F hF hFl hb => ?_
  rw [← hF] at ht
  have ht_l := hlt ht
  simp only [go_sem, simprocAttr, hgetA, hgetL, hgetLk, hsetA, hsetL, hsetLk, List.length_append, List.length_set, List.append_assoc, List.set_set, ht, ht_l]
  refine kont_for (fun j st => ∃ s : Tr, s.size + j ≤ t.size ∧ TrR h s ∧ s.find a k = t.find a k ∧ st = ⟨[(3, .ptr F.length 0 0 0), (5, s.ptr)], F ++ [⟨.one, 0, 2, 1, fun _ => [u64 a, dint k]⟩]⟩) t.size (s0 := ⟨[(3, .ptr F.length 0 0 0), (5, t.ptr)], F ++ [⟨.one, 0, 2, 1, fun _ => [u64 a, dint k]⟩]⟩) ?_ ⟨t, by omega, i, rfl, rfl⟩ ?_
  · exact Weak.frame (by simp only [go_sem, simprocAttr])
  rintro j _ hj ⟨s, hs, is, hf, rfl⟩
  cases s with
  | nil =>
    refine kont_of_hx cx_ok hb 200 ?_
    simp only [go_sem, simprocAttr, hgetA, hgetL, hgetLk, hsetA, hsetL, hsetLk, List.length_append, List.length_set, List.append_assoc, List.set_set]
    refine kont_hax cx_ok hb 200 mixed [(0, true), (1, true), (2, true), (3, true), (4, true), (5, true), (6, true), (7, true), (8, true), (9, true), (10, true)] (by kernel_rfl) (by kernel_rfl) ?_
    simp only [go_sem, simprocAttr, hgetA, hgetL, hgetLk, hsetA, hsetL, hsetLk, List.length_append, List.length_set, List.append_assoc, List.set_set, Go.undef]
    refine kont_of_hx cx_ok hb 200 ?_
    simp only [go_sem, simprocAttr]
    exact ⟨_, rfl, by rw [← hf]; rfl⟩
  | node loc it l r =>
    have h3 := is.1
    rw [← hF] at h3
    have h3_l := hlt h3
    refine kont_of_hx cx_ok hb 200 ?_
    simp only [go_sem, simprocAttr, hgetA, hgetL, hgetLk, hsetA, hsetL, hsetLk, List.length_append, List.length_set, List.append_assoc, List.set_set]
    refine kont_hax cx_ok hb 200 mixed [(0, true), (1, true), (2, true), (3, true), (4, true), (5, true), (6, true), (7, true), (8, true), (9, true), (10, true)] (by kernel_rfl) (by kernel_rfl) ?_
    simp only [go_sem, simprocAttr, hgetA, hgetL, hgetLk, hsetA, hsetL, hsetLk, List.length_append, List.length_set, List.append_assoc, List.set_set, h3, h3_l]
    rw [Tr.find] at hf
    by_cases e1 : it.ka = a ∧ it.ki = k
    · have d1 : ((it.ka : Int) == (a : Int) && it.ki == k) = true := by simp [e1.1, e1.2]
      rw [if_pos e1] at hf
      simp only [go_sem, simprocAttr, hgetA, hgetL, hgetLk, hsetA, hsetL, hsetLk, List.length_append, List.length_set, List.append_assoc, List.set_set, d1, bne]
      refine kont_of_hx cx_ok hb 200 ?_
      simp only [go_sem, simprocAttr, h3_l]
      exact ⟨_, rfl, by rw [← hf]; rfl⟩
    · have d1 : ((it.ka : Int) == (a : Int) && it.ki == k) = false := by
        rw [Bool.eq_false_iff]; intro hh; simp only [Bool.and_eq_true, beq_iff_eq] at hh; exact e1 ⟨by omega, hh.2⟩
      rw [if_neg e1] at hf
      simp only [go_sem, simprocAttr, hgetA, hgetL, hgetLk, hsetA, hsetL, hsetLk, List.length_append, List.length_set, List.append_assoc, List.set_set, d1, bne]
      refine kont_hax cx_ok hb 200 mixed [(0, true), (1, true), (2, true), (4, true), (5, true), (3, false), (6, true), (7, true), (8, true)] (by kernel_rfl) (by kernel_rfl) ?_
      simp only [go_sem, simprocAttr, hgetA, hgetL, hgetLk, hsetA, hsetL, hsetLk, List.length_append, List.length_set, List.append_assoc, List.set_set, h3, h3_l]
      refine AX_callR0 hb fn240 rfl ?_ (side_ok (is.more (ro_more hF)) a k) rfl fun d hR => ?_
      · simp only [go_sem, simprocAttr, hgetA, hgetL, hgetLk, hsetA, hsetL, hsetLk, List.length_append, List.length_set, List.append_assoc, List.set_set, h3, h3_l]
      subst hR
      refine AX_of_hax cx_ok hb ?_
      simp only [go_sem, simprocAttr, hgetA, hgetL, hgetLk, hsetA, hsetL, hsetLk, List.length_append, List.length_set, List.append_assoc, List.set_set, h3, h3_l]
      have hsz : l.size + j + 1 ≤ t.size ∧ r.size + j + 1 ≤ t.size := by simp only [Tr.size] at hs; omega
      by_cases e2 : kLt it.ka it.ki a k
      · rw [if_pos e2] at hf
        simp only [go_sem, simprocAttr, hgetA, hgetL, hgetLk, hsetA, hsetL, hsetLk, List.length_append, List.length_set, List.append_assoc, List.set_set, if_pos e2, h3, h3_l]
        refine ⟨by omega, _, Weak.frame (by simp only [go_sem, simprocAttr]), r, by omega, is.2.2, hf, rfl⟩
      · rw [if_neg e2] at hf
        simp only [go_sem, simprocAttr, hgetA, hgetL, hgetLk, hsetA, hsetL, hsetLk, List.length_append, List.length_set, List.append_assoc, List.set_set, if_neg e2, h3, h3_l]
        refine ⟨by omega, _, Weak.frame (by simp only [go_sem, simprocAttr]), l, by omega, is.2.1, hf, rfl⟩
theorem insert1_ok {h : List Ob} {lk lv : Nat} {x : It} (hk : h[lk]? = some ⟨.one, 0, 2, 1, fun _ => [u64 x.ka, dint x.ki]⟩) (hv : h[lv]? = some ⟨.one, 0, 2, 1, fun _ => [u64 x.va, dint x.vi]⟩) (s : Tr) :
    MFn Tryz.prog 201 h [s.ptr, .ptr lk 0 0 0, .ptr lv 0 0 0] (fun d h' => ∃ s', d = s'.ptr ∧ Upd h s [x] h' s') := by
  refine MFn_hx cx_ok 200 Tryz.func201 rfl Tryz.ntmps201 Tryz.results201 rfl fun base w pl hb => ?_
  have hk_l := hlt hk
  have hv_l := hlt hv
  simp only [go_sem, simprocAttr, hgetA, hgetL, hgetLk, hsetA, hsetL, hsetLk, List.length_append, List.length_set, List.append_assoc, List.set_set, hk, hk_l, hv, hv_l]
  refine kont_callH hb fn202 rfl ?_ (learn_ok (loc := h.length) (it := x) (l := .nil) (r := .nil) (le := ⟨0, 0, 0, 0⟩) (hi := 0) (n := 0) ⟨hgetL rfl, trivial, trivial⟩ (by simp [Tr.size]) (by simp [Tr.size]) (by simp [Tr.locs]) (by simp [Tr.locs])) rfl fun d h2 hR => ?_
  · simp only [go_sem, simprocAttr]
  refine kont_of_hx cx_ok hb 200 ?_
  simp only [go_sem, simprocAttr]
  refine ⟨.node h.length x .nil .nil, rfl, ⟨?_, trivial, trivial⟩, rfl, by simp [Tr.locs], fun l hl => .inr (by simp [Tr.locs] at hl; omega), fun l hl _ => ?_, by rw [hR]; simp⟩
  · rw [hR, hgetS (by simp)]
  · rw [hR, hgetN (by omega), hgetA hl]
/-- A tree's object, and the tree. -/
structure AvlIs (h : List Ob) (tl : Nat) (t : Tr) (L : List It) : Prop where
  o : h[tl]? = some (rootO t)
  is : TrIs h t
  list : t.list = L
  nd : t.locs.Nodup
  out : tl ∉ t.locs
  sorted : SortedI L
/-- What became of a tree in another heap, told by its items. -/
structure AvlTo (h : List Ob) (tl : Nat) (t : Tr) (L : List It) (h' : List Ob) (t' : Tr) : Prop where
  is : AvlIs h' tl t' L
  mem : ∀ l ∈ t'.locs, l ∈ t.locs ∨ h.length ≤ l
  keep : ∀ l, l < h.length → l ≠ tl → l ∉ t.locs → h'[l]? = h[l]?
  len : h.length ≤ h'.length
theorem AvlIs.app {h : List Ob} {tl : Nat} {t : Tr} {L : List It} (a : AvlIs h tl t L) (g : List Ob) : AvlIs (h ++ g) tl t L := ⟨(hgetA (hlt a.o)).trans a.o, a.is.app g, a.list, a.nd, a.out, a.sorted⟩
theorem AvlIs.to {h g h2 : List Ob} {tl : Nat} {t t' : Tr} {L L' : List It} (a : AvlIs h tl t L) (u : Upd (h ++ g) t L' h2 t') (hs : SortedI L') : AvlTo h tl t L' (h2.set tl (rootO t')) t' := by
  have v := u.under
  have hl := hlt a.o
  have h1 : h2[tl]? = some (rootO t) := (v.keep tl hl a.out).trans a.o
  have nt : tl ∉ t'.locs := fun hm => by
    rcases v.mem tl hm with h3 | h3
    · exact a.out h3
    · omega
  exact ⟨⟨hgetS (hlt h1), v.is.set _ nt, v.list, v.nd, nt, hs⟩, v.mem, fun l h3 h4 h5 => by rw [hgetN (Ne.symm h4)]; exact v.keep l h3 h5, by rw [List.length_set]; exact v.len⟩
theorem insert_ok {h : List Ob} {tl : Nat} {t : Tr} {L : List It} (A : AvlIs h tl t L) (x : It) (hf : findT x.ka x.ki L = none) (hs : L.length < 600000) :
    MFn Tryz.prog 163 h [.ptr tl 0 0 0, .agg [u64 x.ka, dint x.ki], .agg [u64 x.va, dint x.vi]] (fun d h' => d = dint 0 ∧ ∃ t', AvlTo h tl t (insI x L) h' t') := by
  have h1 := A.o
  have hl : t.size = L.length := by rw [← Tr.list_len, A.list]
  have hfi : (t.find x.ka x.ki) = .nil := by
    have h2 := Tr.find_item (a := x.ka) (i := x.ki) t (by rw [A.list]; exact A.sorted)
    rw [A.list, hf] at h2
    cases hc : t.find x.ka x.ki with
    | nil => rfl
    | node a b c d => rw [hc] at h2; cases h2
  have cf := fun g => find_ok (h := h ++ g) (ro_get (A.app g).o) (A.is.app g).toR x.ka x.ki
  rw [hfi] at cf
  refine MFn_hx cx_ok 200 Tryz.func163 rfl Tryz.ntmps163 Tryz.results163 rfl fun base w pl hb => ?_
  have h1_l := hlt h1
  simp only [go_sem, simprocAttr, hgetA, hgetL, hgetLk, hsetA, hsetL, hsetLk, List.length_append, List.length_set, List.append_assoc, List.set_set, h1, h1_l]
  refine kont_callR0 hb fn199 rfl ?_ (cf _) rfl fun d hR => ?_
  · simp only [go_sem, simprocAttr, hgetA, hgetL, hgetLk, hsetA, hsetL, hsetLk, List.length_append, List.length_set, List.append_assoc, List.set_set, h1, h1_l]
  subst hR
  refine kont_of_hx cx_ok hb 200 ?_
  simp only [go_sem, simprocAttr, hgetA, hgetL, hgetLk, hsetA, hsetL, hsetLk, List.length_append, List.length_set, List.append_assoc, List.set_set, h1, h1_l]
  refine kont_haxNC [7] cx_ok hb 200 mixed [(0, true), (1, true), (2, true), (3, true), (4, true), (5, true), (6, true), (7, false), (8, true), (9, true), (10, false)] [] (by kernel_rfl) (by kernel_rfl) ?_
  simp only [go_sem, simprocAttr, hgetA, hgetL, hgetLk, hsetA, hsetL, hsetLk, List.length_append, List.length_set, List.append_assoc, List.set_set, h1, h1_l]
  have O : DoOk (.clo 201 0 [.ptr h.length 0 0 0, .ptr (h.length + 1) 0 0 0]) 201 0 [.ptr h.length 0 0 0, .ptr (h.length + 1) 0 0 0] [(h.length, ⟨.one, 0, 2, 1, fun _ => [u64 x.ka, dint x.ki]⟩), (h.length + 1, ⟨.one, 0, 2, 1, fun _ => [u64 x.va, dint x.vi]⟩)] x.ka x.ki (fun _ => [x]) 600000 True :=
    ⟨fn201, rfl, fun s => by simp, fun h' s i2 nd2 hs2 _ _ _ hB => by
      have b1 := (hB (h.length, _) (List.mem_cons_self ..)).1
      have b2 := (hB (h.length + 1, _) (List.mem_cons_of_mem _ (List.mem_cons_self ..))).1
      exact insert1_ok (x := x) b1 b2 s⟩
  refine AX_callH hb fn200 rfl ?_ (change_ok O (by decide) t _ (A.is.app _) A.nd (by omega) (by rw [A.list]; exact A.sorted) (fun _ => trivial) ?_) rfl fun d h6 hR => ?_
  · simp only [go_sem, simprocAttr]
  · intro p hp
    have hm : ∀ q, h.length ≤ q → q ∉ t.locs := fun q hq hm => by have := A.is.lt q hm; omega
    simp only [List.mem_cons, List.not_mem_nil, or_false] at hp
    rcases hp with rfl | rfl
    · exact ⟨hgetL rfl, hm _ (Nat.le_refl _)⟩
    · exact ⟨hgetLk rfl, hm _ (by show h.length ≤ h.length + 1; omega)⟩
  obtain ⟨t', rfl, u⟩ := hR
  rw [chgL_ins rfl t (by rw [A.list]; exact A.sorted) (by rw [A.list]; exact hf), A.list] at u
  have h2 := (u.under.keep tl h1_l A.out).trans A.o
  have h2_l := hlt h2
  refine AX_of_hax cx_ok hb ?_
  simp only [go_sem, simprocAttr, hgetA, hgetL, hgetLk, hsetA, hsetL, hsetLk, List.length_append, List.length_set, List.append_assoc, List.set_set, h2, h2_l]
  exact ⟨t', A.to u (insI_sorted A.sorted hf)⟩
end Go.Fg.X
/- A tree without its root; deletion: walked. No conditions. -/
namespace Go.Fg.X
set_option linter.unusedVariables false
open Go.Proofs Go.Fg
set_option maxRecDepth 100000
set_option linter.unusedSimpArgs false
set_option maxHeartbeats 4000000
theorem Tr.leftm_list : ∀ t : Tr, t ≠ .nil → ∃ rest, t.list = t.leftm :: rest := fun t h => by
  have h1 := Tr.leftm_eq t h
  cases hl : t.list with
  | nil => rw [hl] at h1; cases h1
  | cons a b => rw [hl] at h1; simp only [List.head?_cons, Option.some.injEq] at h1; exact ⟨b, by rw [h1]⟩
theorem find_head {x : It} {L : List It} : findT x.ka x.ki (x :: L) = some x := by
  unfold findT
  rw [List.find?_cons, keyIs_iff.2 ⟨rfl, rfl⟩]
theorem del_head {x : It} {L : List It} (hs : SortedI (x :: L)) : delI x.ka x.ki (x :: L) = L := by
  have h := del_app x.ka x.ki [] L x hs
  rw [if_pos ⟨rfl, rfl⟩] at h
  exact h
def WoOk (N : Nat) : Prop := ∀ (h : List Ob) (s : Tr), TrIs h s → s.locs.Nodup → s.size ≤ N → SortedI s.list → s ≠ .nil →
  MFn Tryz.prog 203 h [s.ptr] (fun d h' => ∃ s', d = s'.ptr ∧ Upd h s s.woL h' s')
theorem wo_do {N : Nat} (W : WoOk N) (a : Nat) (k : Int) : DoOk (.raw (.func (.func 203) #[] #[])) 203 0 [] [] a k Tr.woL N False :=
  ⟨fn203, rfl, fun s => by
    cases s with
    | nil => simp [Tr.woL]
    | node loc it l r => simp only [Tr.woL, List.length_append, Tr.list_len, Tr.size]; omega, fun h s i nd hs hso hn _ _ => W h s i nd hs hso fun e => hn e⟩
theorem wo_ok : ∀ N, N < 600000 → WoOk N
  | 0, _, _, .nil, _, _, _, _, hn => absurd rfl hn
  | 0, _, _, .node _ _ _ _, _, _, hs, _, _ => by simp only [Tr.size] at hs; omega
  | _ + 1, _, _, .nil, _, _, _, _, hn => absurd rfl hn
  | N + 1, hN, h, .node loc it l .nil, i, nd, hs, hso, _ => by
    have h1 := i.1
    refine MFn_hx cx_ok 200 Tryz.func203 rfl Tryz.ntmps203 Tryz.results203 rfl fun base w pl hb => ?_
    have h1_l := hlt h1
    simp only [go_sem, simprocAttr, hgetA, hgetL, hgetLk, hsetA, hsetL, hsetLk, List.length_append, List.length_set, List.append_assoc, List.set_set, h1, h1_l]
    refine ⟨l, rfl, ?_⟩
    have u := Upd.refl i.2.1 (t := l) (by simp only [Tr.locs, List.nodup_cons, List.nodup_append] at nd; exact nd.2.1)
    simp only [Tr.woL, Tr.list, List.append_nil]
    exact ⟨u.is, rfl, u.nd, fun x hx => .inl (by simp [Tr.locs, hx]), fun _ _ _ => rfl, Nat.le_refl _⟩
  | N + 1, hN, h, .node loc it l (.node lr ir rl rr), i, nd, hs, hso, _ => by
    have h1 := i.1
    refine MFn_hx cx_ok 200 Tryz.func203 rfl Tryz.ntmps203 Tryz.results203 rfl fun base w pl hb => ?_
    have h1_l := hlt h1
    simp only [go_sem, simprocAttr, hgetA, hgetL, hgetLk, hsetA, hsetL, hsetLk, List.length_append, List.length_set, List.append_assoc, List.set_set, h1, h1_l]
    have nd2 := nd
    simp only [Tr.locs, List.nodup_cons, List.nodup_append, List.mem_cons, List.mem_append, not_or] at nd2
    generalize hr : Tr.node lr ir rl rr = r at *
    have hrn : r ≠ .nil := by rw [← hr]; simp
    have hrp : D.ptr lr 0 0 0 = r.ptr := by rw [← hr]; rfl
    rw [hrp]
    refine kont_for (fun j st => ∃ s : Tr, s.size + j ≤ r.size ∧ s ≠ .nil ∧ TrIs h s ∧ s.leftm = r.leftm ∧ (∀ x ∈ s.locs, x ∈ r.locs) ∧ st = ⟨[(0, .ptr loc 0 0 0), (3, s.ptr)], h⟩) r.size (s0 := ⟨[(0, .ptr loc 0 0 0), (3, r.ptr)], h⟩) (Weak.frame (by simp only [go_sem, simprocAttr])) ⟨r, by omega, hrn, i.2.2, rfl, fun _ hx => hx, rfl⟩ ?_
    rintro j _ hj ⟨s, hsj, hsn, is, hf, hmem, rfl⟩
    rcases s with _ | ⟨ls, im, sl, sr⟩
    · exact absurd rfl hsn
    have h3 := is.1
    have h3_l := hlt h3
    rcases sl with _ | ⟨a1, a2, a3, a4⟩
    · have hls : ls ∈ r.locs := hmem ls (by simp [Tr.locs])
      have hne : loc ≠ ls := by rintro rfl; simp only [Tr.locs, List.nodup_cons, List.nodup_append, List.mem_cons, List.mem_append] at nd; grind
      have nl : loc ∉ l.locs := by simp only [Tr.locs, List.nodup_cons, List.nodup_append, List.mem_cons, List.mem_append] at nd; grind
      have nr : loc ∉ r.locs := by simp only [Tr.locs, List.nodup_cons, List.nodup_append, List.mem_cons, List.mem_append] at nd; grind
      have hnd := hgetN (h := h) (o := nodeO im l.ptr r.ptr (Tr.node loc it l r).least ((Tr.node loc it l r).high : Nat) ((Tr.node loc it l r).size : Nat)) hne
      obtain ⟨s1, s2, s3, s4⟩ := sorted_app.1 (show SortedI (l.list ++ it :: r.list) from hso)
      obtain ⟨rest, hrl⟩ := Tr.leftm_list r hrn
      have him : r.leftm = im := by rw [← hf]; rfl
      rw [him] at hrl
      have hfi : r.find im.ka im.ki = .nil → False := fun e => by
        have h5 := Tr.find_item (a := im.ka) (i := im.ki) r s2
        rw [e, hrl, find_head] at h5
        cases h5
      have ndr : r.locs.Nodup := by simp only [Tr.locs, List.nodup_cons, List.nodup_append, List.mem_cons, List.mem_append] at nd; grind
      refine kont_of_hx cx_ok hb 200 ?_
      simp only [go_sem, simprocAttr, hgetA, hgetL, hgetLk, hsetA, hsetL, hsetLk, List.length_append, List.length_set, List.append_assoc, List.set_set, h3, h3_l]
      refine kont_of_hx cx_ok hb 200 ?_
      simp only [go_sem, simprocAttr, hgetA, hgetL, hgetLk, hsetA, hsetL, hsetLk, List.length_append, List.length_set, List.append_assoc, List.set_set, h1, h1_l, h3, h3_l]
      refine kont_haxNC [11] cx_ok hb 200 mixed [(0, true), (1, true), (2, true), (3, true), (4, true), (5, true), (6, true), (7, true), (8, true), (9, true), (10, true), (12, true), (13, true), (11, false), (14, true), (15, false)] [] (by kernel_rfl) (by kernel_rfl) ?_
      simp only [go_sem, simprocAttr, hgetA, hgetL, hgetLk, hsetA, hsetL, hsetLk, List.length_append, List.length_set, List.append_assoc, List.set_set, h1, h1_l, hgetS h1_l, hgetN hne, h3]
      refine AX_callH hb fn200 rfl ?_ (change_ok (wo_do (wo_ok N (by omega)) im.ka im.ki) (by omega) r _ (i.2.2.set _ nr) ndr (by simp only [Tr.size] at hs; omega) s2 hfi (fun p hp => by cases hp)) rfl fun d h6 hR => ?_
      · simp only [go_sem, simprocAttr, argEq_self]
      obtain ⟨t', rfl, u⟩ := hR
      rw [chgL_del r s2, hrl, del_head (by rw [← hrl]; exact s2)] at u
      have h7 := (u.keep loc (by simpa using h1_l) nr).trans (hgetS h1_l)
      have h7_l := hlt h7
      have nt : loc ∉ t'.locs := fun hm => by
        rcases u.mem loc hm with h9 | h9
        · exact nr h9
        · simp only [List.length_set] at h9; omega
      have no : ∀ k ∈ l.locs, k ∉ t'.locs := fun k hk hm => by
        have hkl := i.2.1.lt k hk
        rcases u.mem k hm with h9 | h9
        · simp only [Tr.locs, List.nodup_cons, List.nodup_append, List.mem_cons, List.mem_append] at nd; grind
        · simp only [List.length_set] at h9; omega
      have to : TrIs h6 l := (i.2.1.set _ nl).frame fun k hk => u.keep k (by simpa using i.2.1.lt k hk) (by simp only [Tr.locs, List.nodup_cons, List.nodup_append, List.mem_cons, List.mem_append] at nd ⊢; grind)
      refine AX_of_hax cx_ok hb ?_
      simp only [go_sem, simprocAttr, hgetA, hgetL, hgetLk, hsetA, hsetL, hsetLk, List.length_append, List.length_set, List.append_assoc, List.set_set, h7, h7_l]
      refine kont_of_hx cx_ok hb 200 ?_
      simp only [go_sem, simprocAttr]
      have ul := u.list
      have hsz := Tr.list_len t'
      rw [ul] at hsz
      have hrs := Tr.list_len r
      rw [hrl, List.length_cons] at hrs
      refine kont_callH hb fn241 rfl ?_ (balance_ok (loc := loc) (l := l) (r := t') (it := im) ⟨hgetS h7_l, to.set _ nl, u.is.set _ nt⟩ (by
        have a1 := u.nd
        simp only [Tr.locs, List.nodup_cons, List.nodup_append, List.mem_cons, List.mem_append] at nd ⊢
        grind) (by simp only [Tr.size] at hs; omega)) rfl fun d h8 hR => ?_
      · simp only [go_sem, simprocAttr]
      obtain ⟨t'', rfl, v⟩ := hR
      refine kont_of_hx cx_ok hb 200 ?_
      simp only [go_sem, simprocAttr]
      have vl := v.list
      refine ⟨t'', rfl, v.is, by rw [vl, ul, Tr.woL, hrl], v.nd, fun k hk => ?_, fun k hk hn => ?_, by have q1 := v.len; have q2 := u.len; simp only [List.length_set] at q1 q2; omega⟩
      · have q2 := u.len
        rcases v.mem k hk with h9 | h9
        · have a2 := u.mem k
          simp only [Tr.locs, List.mem_cons, List.mem_append, List.length_set] at h9 a2 ⊢
          grind
        · simp only [List.length_set] at h9 q2; exact .inr (by omega)
      · have a2 := u.mem k
        have a3 := u.len
        simp only [List.length_set] at a2 a3
        rw [v.keep k (by simp only [List.length_set]; omega) (fun h9 => by
          simp only [Tr.locs, List.mem_cons, List.mem_append] at h9 hn
          rcases h9 with h9 | h9 | h9
          · exact hn (.inl h9)
          · exact hn (.inr (.inl h9))
          · rcases a2 h9 with h10 | h10
            · exact hn (.inr (.inr h10))
            · omega), hgetN (fun h9 => hn (by rw [h9]; simp [Tr.locs])), u.keep k (by simpa using hk) (fun h9 => hn (by simp only [Tr.locs, List.mem_cons, List.mem_append]; grind)), hgetN (fun h9 => hn (by rw [h9]; simp [Tr.locs]))]
    · refine kont_of_hx cx_ok hb 200 ?_
      simp only [go_sem, simprocAttr, hgetA, hgetL, hgetLk, hsetA, hsetL, hsetLk, List.length_append, List.length_set, List.append_assoc, List.set_set, h3, h3_l]
      refine ⟨by simp only [Tr.size] at hsj; omega, _, Weak.frame (by simp only [go_sem, simprocAttr]), .node a1 a2 a3 a4, by simp only [Tr.size] at hsj ⊢; omega, by simp, is.2.1, by rw [← hf]; rfl, fun x hx => hmem x (by rw [Tr.locs]; simp [hx]), rfl⟩
end Go.Fg.X
/- Deletion, the number of items, the least one, the first one that is there: walked. No conditions. -/
namespace Go.Fg.X
set_option linter.unusedVariables false
open Go.Proofs Go.Fg
set_option maxRecDepth 100000
set_option linter.unusedSimpArgs false
set_option maxHeartbeats 4000000
@[go_sem] def optI (o : Option It) : D := .tup [.agg (o.getD default).cells, dbool o.isSome]
theorem delete_ok {h : List Ob} {tl : Nat} {t : Tr} {L : List It} (A : AvlIs h tl t L) (a : Nat) (k : Int) (hf : findT a k L ≠ none) (hs : L.length < 500000) :
    MFn Tryz.prog 164 h [.ptr tl 0 0 0, .agg [u64 a, dint k]] (fun d h' => d = dint 0 ∧ ∃ t', AvlTo h tl t (delI a k L) h' t') := by
  have h1 := A.o
  have hl : t.size = L.length := by rw [← Tr.list_len, A.list]
  have h2 := Tr.find_item (a := a) (i := k) t (by rw [A.list]; exact A.sorted)
  rw [A.list] at h2
  have cf := fun g => find_ok (h := h ++ g) (ro_get (A.app g).o) (A.is.app g).toR a k
  cases hc : t.find a k with
  | nil => rw [hc] at h2; exact absurd h2.symm hf
  | node b1 b2 b3 b4 =>
    rw [hc] at cf
    refine MFn_hx cx_ok 200 Tryz.func164 rfl Tryz.ntmps164 Tryz.results164 rfl fun base w pl hb => ?_
    have h1_l := hlt h1
    simp only [go_sem, simprocAttr, hgetA, hgetL, hgetLk, hsetA, hsetL, hsetLk, List.length_append, List.length_set, List.append_assoc, List.set_set, h1, h1_l]
    refine kont_callR0 hb fn199 rfl ?_ (cf _) rfl fun d hR => ?_
    · simp only [go_sem, simprocAttr, hgetA, hgetL, hgetLk, hsetA, hsetL, hsetLk, List.length_append, List.length_set, List.append_assoc, List.set_set, h1, h1_l]
    subst hR
    refine kont_of_hx cx_ok hb 200 ?_
    simp only [go_sem, simprocAttr, hgetA, hgetL, hgetLk, hsetA, hsetL, hsetLk, List.length_append, List.length_set, List.append_assoc, List.set_set, h1, h1_l]
    refine kont_haxNC [6] cx_ok hb 200 mixed [(0, true), (1, true), (2, true), (3, true), (4, true), (5, true), (6, false), (7, true), (8, true), (9, false)] [] (by kernel_rfl) (by kernel_rfl) ?_
    simp only [go_sem, simprocAttr, hgetA, hgetL, hgetLk, hsetA, hsetL, hsetLk, List.length_append, List.length_set, List.append_assoc, List.set_set, h1, h1_l]
    refine AX_callH hb fn200 rfl ?_ (change_ok (wo_do (wo_ok 500000 (by decide)) a k) (by decide) t _ (A.is.app _) A.nd (by omega) (by rw [A.list]; exact A.sorted) (fun e => by rw [hc] at e; cases e) (fun p hp => by cases hp)) rfl fun d h6 hR => ?_
    · simp only [go_sem, simprocAttr, argEq_self]
    obtain ⟨t', rfl, u⟩ := hR
    rw [chgL_del t (by rw [A.list]; exact A.sorted), A.list] at u
    have h2 := (u.under.keep tl h1_l A.out).trans A.o
    have h2_l := hlt h2
    refine AX_of_hax cx_ok hb ?_
    simp only [go_sem, simprocAttr, hgetA, hgetL, hgetLk, hsetA, hsetL, hsetLk, List.length_append, List.length_set, List.append_assoc, List.set_set, h2, h2_l]
    exact ⟨t', A.to u (delI_sorted A.sorted)⟩
section
variable {h : List Ob} {tl : Nat} {t : Tr} (ht : (h.map Ob.ro)[tl]? = some (rootO t).ro) (i : TrR h t)
include ht i
theorem alen_ok : RFn0 Tryz.prog 185 h [.ptr tl 0 0 0] (fun d => d = dint t.size) := by
  refine RFn0_hx cx_ok 200 Tryz.func185 rfl Tryz.ntmps185 Tryz.results185 rfl fun base w pl F hF hFl hb => ?_
  rw [← hF] at ht
  have ht_l := hlt ht
  simp only [go_sem, simprocAttr, hgetA, hgetL, hgetLk, hsetA, hsetL, hsetLk, List.length_append, List.length_set, List.append_assoc, List.set_set, ht, ht_l]
  refine kont_callR0 hb fn230 rfl ?_ (many_ok (i.more fun l o e => by have := ro_more (g := []) hF l o e; rwa [List.append_nil] at this)) rfl fun d hR => ?_
  · simp only [go_sem, simprocAttr, hgetA, hgetL, hgetLk, hsetA, hsetL, hsetLk, List.length_append, List.length_set, List.append_assoc, List.set_set, ht, ht_l]
  subst hR
  refine kont_of_hx cx_ok hb 200 ?_
  simp only [go_sem, simprocAttr, hgetA, hgetL, hgetLk, hsetA, hsetL, hsetLk, List.length_append, List.length_set, List.append_assoc, List.set_set, ht, ht_l]
  exact ⟨[], by simp⟩
theorem aleast_ok : RFn0 Tryz.prog 142 h [.ptr tl 0 0 0] (fun d => d = optI t.list.head?) := by
  have i2 : ∀ {F : List Ob}, F = h.map Ob.ro → ∀ g, TrR (F ++ g) t := fun hF g => i.more (ro_more hF)
  have ht2 : ∀ {F : List Ob}, F = h.map Ob.ro → ∀ g, ((F ++ g).map Ob.ro)[tl]? = some (rootO t).ro := fun hF g => ro_more hF _ _ ht
  by_cases hn : t = .nil
  · subst hn
    refine RFn0_hx cx_ok 200 Tryz.func142 rfl Tryz.ntmps142 Tryz.results142 rfl fun base w pl F hF hFl hb => ?_
    rw [← hF] at ht
    have ht_l := hlt ht
    simp only [go_sem, simprocAttr, hgetA, hgetL, hgetLk, hsetA, hsetL, hsetLk, List.length_append, List.length_set, List.append_assoc, List.set_set, ht, ht_l]
    refine kont_callR0 hb fn185 rfl ?_ (alen_ok (ht2 hF _) (i2 hF _)) rfl fun d hR => ?_
    · simp only [go_sem, simprocAttr, hgetA, hgetL, hgetLk, hsetA, hsetL, hsetLk, List.length_append, List.length_set, List.append_assoc, List.set_set, ht, ht_l, Tr.size]
    subst hR
    refine kont_of_hx cx_ok hb 200 ?_
    simp only [go_sem, simprocAttr, hgetA, hgetL, hgetLk, hsetA, hsetL, hsetLk, List.length_append, List.length_set, List.append_assoc, List.set_set, ht, ht_l, Tr.size]
    exact ⟨_, rfl, rfl⟩
  · rw [Tr.leftm_eq t hn]
    have hsz : t.size ≠ 0 := by cases t with
      | nil => exact absurd rfl hn
      | node a b c d => simp only [Tr.size]; omega
    have d0 : ((t.size : Int) == 0) = false := by simpa using hsz
    refine RFn0_hx cx_ok 200 Tryz.func142 rfl Tryz.ntmps142 Tryz.results142 rfl fun base w pl F hF hFl hb => ?_
    rw [← hF] at ht
    have ht_l := hlt ht
    simp only [go_sem, simprocAttr, hgetA, hgetL, hgetLk, hsetA, hsetL, hsetLk, List.length_append, List.length_set, List.append_assoc, List.set_set, ht, ht_l]
    refine kont_callR0 hb fn185 rfl ?_ (alen_ok (ht2 hF _) (i2 hF _)) rfl fun d hR => ?_
    · simp only [go_sem, simprocAttr, hgetA, hgetL, hgetLk, hsetA, hsetL, hsetLk, List.length_append, List.length_set, List.append_assoc, List.set_set, ht, ht_l, d0]
    subst hR
    refine kont_of_hx cx_ok hb 200 ?_
    simp only [go_sem, simprocAttr, hgetA, hgetL, hgetLk, hsetA, hsetL, hsetLk, List.length_append, List.length_set, List.append_assoc, List.set_set, ht, ht_l, d0]
    refine kont_for (fun j st => ∃ s : Tr, s.size + j ≤ t.size ∧ s ≠ .nil ∧ TrR h s ∧ s.leftm = t.leftm ∧ st = ⟨[(2, .ptr F.length 0 0 0), (4, s.ptr)], F ++ [⟨.one, 0, 4, 1, fun _ => [u64 0, dint 0, u64 0, dint 0]⟩]⟩) t.size (s0 := ⟨[(2, .ptr F.length 0 0 0), (4, t.ptr)], F ++ [⟨.one, 0, 4, 1, fun _ => [u64 0, dint 0, u64 0, dint 0]⟩]⟩) (Weak.frame (by simp only [go_sem, simprocAttr])) ⟨t, by omega, hn, i, rfl, rfl⟩ ?_
    rintro j _ hj ⟨s, hsj, hsn, is, hf, rfl⟩
    rcases s with _ | ⟨ls, im, sl, sr⟩
    · exact absurd rfl hsn
    have h3 := is.1
    rw [← hF] at h3
    have h3_l := hlt h3
    rcases sl with _ | ⟨a1, a2, a3, a4⟩
    · refine kont_of_hx cx_ok hb 200 ?_
      simp only [go_sem, simprocAttr, hgetA, hgetL, hgetLk, hsetA, hsetL, hsetLk, List.length_append, List.length_set, List.append_assoc, List.set_set, h3, h3_l]
      refine kont_of_hx cx_ok hb 200 ?_
      simp only [go_sem, simprocAttr, hgetA, hgetL, hgetLk, hsetA, hsetL, hsetLk, List.length_append, List.length_set, List.append_assoc, List.set_set, h3, h3_l]
      rw [← hf]
      exact ⟨_, rfl, rfl⟩
    · refine kont_of_hx cx_ok hb 200 ?_
      simp only [go_sem, simprocAttr, hgetA, hgetL, hgetLk, hsetA, hsetL, hsetLk, List.length_append, List.length_set, List.append_assoc, List.set_set, h3, h3_l]
      refine ⟨by simp only [Tr.size] at hsj; omega, _, Weak.frame (by simp only [go_sem, simprocAttr]), .node a1 a2 a3 a4, by simp only [Tr.size] at hsj ⊢; omega, by simp, is.2.1, by rw [← hf]; rfl, rfl⟩
omit ht i in
theorem has_right {n loc : Nat} {it : It} {l r : Tr} (h : (Tr.node loc it l r).hasB n = true) (hl : l.hasB n = false) (hi : ¬ it.va ≤ n) : r.hasB n = true := by
  rw [Tr.hasB_iff] at h ⊢
  obtain ⟨x, hx, hv⟩ := h
  simp only [Tr.list, List.mem_append, List.mem_cons] at hx
  rcases hx with hx | rfl | hx
  · have := (Tr.hasB_iff n l).2 ⟨x, hx, hv⟩
    rw [hl] at this; cases this
  · exact absurd hv hi
  · exact ⟨x, hx, hv⟩
theorem afirst_ok (n : Nat) : RFn0 Tryz.prog 157 h [.ptr tl 0 0 0, u64 n] (fun d => d = optI (t.list.find? fun x => decide (x.va ≤ n))) := by
  have i2 : ∀ {F : List Ob}, F = h.map Ob.ro → ∀ g, TrR (F ++ g) t := fun hF g => i.more (ro_more hF)
  rw [← Tr.first_eq]
  cases hB : t.hasB n with
  | false =>
    have hno : t.first n = none := by
      rw [Tr.first_eq, List.find?_eq_none]
      intro x hx hv
      have := (Tr.hasB_iff n t).2 ⟨x, hx, by simpa using hv⟩
      rw [hB] at this; cases this
    rw [hno]
    refine RFn0_hx cx_ok 200 Tryz.func157 rfl Tryz.ntmps157 Tryz.results157 rfl fun base w pl F hF hFl hb => ?_
    rw [← hF] at ht
    have ht_l := hlt ht
    simp only [go_sem, simprocAttr, hgetA, hgetL, hgetLk, hsetA, hsetL, hsetLk, List.length_append, List.length_set, List.append_assoc, List.set_set, ht, ht_l]
    refine kont_callR0 hb fn195 rfl ?_ (has_ok (i2 hF _) n) rfl fun d hR => ?_
    · simp only [go_sem, simprocAttr, hgetA, hgetL, hgetLk, hsetA, hsetL, hsetLk, List.length_append, List.length_set, List.append_assoc, List.set_set, ht, ht_l, hB]
    subst hR
    refine kont_of_hx cx_ok hb 200 ?_
    simp only [go_sem, simprocAttr, hgetA, hgetL, hgetLk, hsetA, hsetL, hsetLk, List.length_append, List.length_set, List.append_assoc, List.set_set, ht, ht_l, hB]
    exact ⟨_, rfl, rfl⟩
  | true =>
    refine RFn0_hx cx_ok 200 Tryz.func157 rfl Tryz.ntmps157 Tryz.results157 rfl fun base w pl F hF hFl hb => ?_
    rw [← hF] at ht
    have ht_l := hlt ht
    simp only [go_sem, simprocAttr, hgetA, hgetL, hgetLk, hsetA, hsetL, hsetLk, List.length_append, List.length_set, List.append_assoc, List.set_set, ht, ht_l]
    refine kont_callR0 hb fn195 rfl ?_ (has_ok (i2 hF _) n) rfl fun d hR => ?_
    · simp only [go_sem, simprocAttr, hgetA, hgetL, hgetLk, hsetA, hsetL, hsetLk, List.length_append, List.length_set, List.append_assoc, List.set_set, ht, ht_l, hB]
    subst hR
    refine kont_of_hx cx_ok hb 200 ?_
    simp only [go_sem, simprocAttr, hgetA, hgetL, hgetLk, hsetA, hsetL, hsetLk, List.length_append, List.length_set, List.append_assoc, List.set_set, ht, ht_l, hB]
    have hn : t ≠ .nil := by rintro rfl; simp [Tr.hasB] at hB
    refine kont_for (fun j st => ∃ s : Tr, s.size + j ≤ t.size ∧ s ≠ .nil ∧ TrR h s ∧ s.hasB n = true ∧ s.first n = t.first n ∧ st = ⟨[(1, u64 n), (4, .ptr F.length 0 0 0), (6, s.ptr)], F ++ [⟨.one, 0, 4, 1, fun _ => [u64 0, dint 0, u64 0, dint 0]⟩]⟩) t.size (s0 := ⟨[(1, u64 n), (4, .ptr F.length 0 0 0), (6, t.ptr)], F ++ [⟨.one, 0, 4, 1, fun _ => [u64 0, dint 0, u64 0, dint 0]⟩]⟩) (Weak.frame (by simp only [go_sem, simprocAttr])) ⟨t, by omega, hn, i, hB, rfl, rfl⟩ ?_
    rintro j _ hj ⟨s, hsj, hsn, is, hsB, hf, rfl⟩
    rcases s with _ | ⟨ls, im, sl, sr⟩
    · exact absurd rfl hsn
    have h3 := is.1
    rw [← hF] at h3
    have h3_l := hlt h3
    rw [Tr.first] at hf
    refine kont_of_hx cx_ok hb 200 ?_
    simp only [go_sem, simprocAttr, hgetA, hgetL, hgetLk, hsetA, hsetL, hsetLk, List.length_append, List.length_set, List.append_assoc, List.set_set, h3, h3_l]
    refine kont_callR0 hb fn195 rfl ?_ (has_ok (is.2.1.more (ro_more hF)) n) rfl fun d hR => ?_
    · simp only [go_sem, simprocAttr, hgetA, hgetL, hgetLk, hsetA, hsetL, hsetLk, List.length_append, List.length_set, List.append_assoc, List.set_set, h3, h3_l]
    subst hR
    refine kont_of_hx cx_ok hb 200 ?_
    simp only [go_sem, simprocAttr, hgetA, hgetL, hgetLk, hsetA, hsetL, hsetLk, List.length_append, List.length_set, List.append_assoc, List.set_set, h3, h3_l]
    cases hL : sl.hasB n with
    | true =>
      rw [hL, if_pos rfl] at hf
      simp only [go_sem, simprocAttr, hgetA, hgetL, hgetLk, hsetA, hsetL, hsetLk, List.length_append, List.length_set, List.append_assoc, List.set_set, hL, h3, h3_l]
      refine ⟨by simp only [Tr.size] at hsj; omega, _, Weak.frame (by simp only [go_sem, simprocAttr]), sl, by simp only [Tr.size] at hsj; omega, by rintro rfl; simp [Tr.hasB] at hL, is.2.1, hL, hf, rfl⟩
    | false =>
      rw [hL, if_neg (by decide)] at hf
      simp only [go_sem, simprocAttr, hgetA, hgetL, hgetLk, hsetA, hsetL, hsetLk, List.length_append, List.length_set, List.append_assoc, List.set_set, hL, h3, h3_l]
      by_cases hv : im.va ≤ n
      · have d1 := decide_eq_true hv
        rw [if_pos hv] at hf
        simp only [go_sem, simprocAttr, hgetA, hgetL, hgetLk, hsetA, hsetL, hsetLk, List.length_append, List.length_set, List.append_assoc, List.set_set, d1, h3, h3_l]
        rw [← hf]
        exact ⟨_, rfl, rfl⟩
      · have d1 := decide_eq_false hv
        rw [if_neg hv] at hf
        simp only [go_sem, simprocAttr, hgetA, hgetL, hgetLk, hsetA, hsetL, hsetLk, List.length_append, List.length_set, List.append_assoc, List.set_set, d1, h3, h3_l]
        have hR := has_right hsB hL hv
        refine ⟨by simp only [Tr.size] at hsj; omega, _, Weak.frame (by simp only [go_sem, simprocAttr]), sr, by simp only [Tr.size] at hsj; omega, by rintro rfl; simp [Tr.hasB] at hR, is.2.2, hR, hf, rfl⟩
end
end Go.Fg.X
/- The best item of those whose key is there: walked. No conditions. -/
namespace Go.Fg.X
set_option linter.unusedVariables false
open Go.Proofs Go.Fg
set_option maxRecDepth 100000
set_option linter.unusedSimpArgs false
set_option maxHeartbeats 4000000
@[go_sem] def outO (o : Option It) : Ob := ⟨.one, 0, 4, 1, fun _ => (o.getD default).cells⟩
@[go_sem] def metO (o : Option It) : Ob := ⟨.one, 0, 1, 1, fun _ => [dbool o.isSome]⟩
theorem better_self (x : It) : better x x = x := by rw [better_eq, if_neg (bLt_irrefl x)]
/-- An item taken: the closure's two variables change. -/
theorem take_ok {h : List Ob} {lm lo : Nat} {o : Option It} (hm : h[lm]? = some (metO o)) (ho : h[lo]? = some (outO o)) (hne : lm ≠ lo) (x : It) :
    MFn Tryz.prog 186 h [.agg x.cells, .ptr lm 0 0 0, .ptr lo 0 0 0] (fun _ h' => ∃ g, h' = (h.set lm (metO (takeI o x))).set lo (outO (takeI o x)) ++ g) := by
  have hne' := Ne.symm hne
  cases o with
  | none =>
    have cb := better_ok x x
    rw [better_self] at cb
    refine MFn_hx cx_ok 200 Tryz.func186 rfl Tryz.ntmps186 Tryz.results186 rfl fun base w pl hb => ?_
    have hm_l := hlt hm
    have ho_l := hlt ho
    simp only [go_sem, simprocAttr, hgetA, hgetL, hgetLk, hsetA, hsetL, hsetLk, List.length_append, List.length_set, List.append_assoc, List.set_set, hm, hm_l, ho, ho_l, hgetN hne, hgetN hne', Option.isSome_none, Option.isSome_some, Option.getD_some, Option.getD_none, takeI, hgetS hm_l, hgetS ho_l]
    refine kont_call hb fn187 rfl ?_ cb (Ret.flat rfl) rfl fun d h hR => ?_
    · simp only [go_sem, simprocAttr, hgetA, hgetL, hgetLk, hsetA, hsetL, hsetLk, List.length_append, List.length_set, List.append_assoc, List.set_set, hm, hm_l, ho, ho_l, hgetN hne, hgetN hne', Option.isSome_none, Option.isSome_some, Option.getD_some, Option.getD_none, takeI, hgetS hm_l, hgetS ho_l]
    obtain ⟨rfl, rfl⟩ := hR
    refine kont_of_hx cx_ok hb 200 ?_
    simp only [go_sem, simprocAttr, hgetA, hgetL, hgetLk, hsetA, hsetL, hsetLk, List.length_append, List.length_set, List.append_assoc, List.set_set, hm, hm_l, ho, ho_l, hgetN hne, hgetN hne', Option.isSome_none, Option.isSome_some, Option.getD_some, Option.getD_none, takeI, hgetS hm_l, hgetS ho_l]
    rw [List.set_comm _ _ hne', List.set_set]
    exact ⟨_, rfl⟩
  | some y =>
    have cb := better_ok y x
    refine MFn_hx cx_ok 200 Tryz.func186 rfl Tryz.ntmps186 Tryz.results186 rfl fun base w pl hb => ?_
    have hm_l := hlt hm
    have ho_l := hlt ho
    simp only [go_sem, simprocAttr, hgetA, hgetL, hgetLk, hsetA, hsetL, hsetLk, List.length_append, List.length_set, List.append_assoc, List.set_set, hm, hm_l, ho, ho_l, hgetN hne, hgetN hne', Option.isSome_none, Option.isSome_some, Option.getD_some, Option.getD_none, takeI, hgetS hm_l, hgetS ho_l]
    refine kont_call hb fn187 rfl ?_ cb (Ret.flat rfl) rfl fun d h hR => ?_
    · simp only [go_sem, simprocAttr, hgetA, hgetL, hgetLk, hsetA, hsetL, hsetLk, List.length_append, List.length_set, List.append_assoc, List.set_set, hm, hm_l, ho, ho_l, hgetN hne, hgetN hne', Option.isSome_none, Option.isSome_some, Option.getD_some, Option.getD_none, takeI, hgetS hm_l, hgetS ho_l]
    obtain ⟨rfl, rfl⟩ := hR
    refine kont_of_hx cx_ok hb 200 ?_
    simp only [go_sem, simprocAttr, hgetA, hgetL, hgetLk, hsetA, hsetL, hsetLk, List.length_append, List.length_set, List.append_assoc, List.set_set, hm, hm_l, ho, ho_l, hgetN hne, hgetN hne', Option.isSome_none, Option.isSome_some, Option.getD_some, Option.getD_none, takeI, hgetS hm_l, hgetS ho_l]
    exact ⟨_, rfl⟩
theorem Tr.bel_node (n loc : Nat) (it : It) (l r : Tr) (o : Option It) : (Tr.node loc it l r).bel n o = if n < it.ka then l.bel n o else r.bel n (match l with
    | .nil => takeI o it
    | .node a b c d => takeI (takeI o it) (Tr.node a b c d).least) := by cases l <;> rfl
def belSt (F g : List Ob) (n : Nat) (s : Tr) (o : Option It) : St :=
  ⟨[(1, u64 n), (4, .ptr F.length 0 0 0), (6, .ptr (F.length + 1) 0 0 0), (7, .ptr (F.length + 2) 0 0 0), (8, .clo 186 0 [.ptr (F.length + 2) 0 0 0, .ptr (F.length + 1) 0 0 0]), (9, s.ptr)],
    F ++ (⟨.one, 0, 4, 1, fun _ => [u64 0, dint 0, u64 0, dint 0]⟩ :: outO o :: metO o :: g)⟩
section
variable {h : List Ob} {tl : Nat} {t : Tr} (ht : (h.map Ob.ro)[tl]? = some (rootO t).ro) (i : TrR h t)
include ht i
theorem abelow_ok (n : Nat) : RFn0 Tryz.prog 143 h [.ptr tl 0 0 0, u64 n] (fun d => d = optI (t.bel n none)) := by
  refine RFn0_hx cx_ok 200 Tryz.func143 rfl Tryz.ntmps143 Tryz.results143 rfl fun base w pl F hF hFl hb => ?_
  rw [← hF] at ht
  have ht_l := hlt ht
  simp only [go_sem, simprocAttr, hgetA, hgetL, hgetLk, hsetA, hsetL, hsetLk, List.length_append, List.length_set, List.append_assoc, List.set_set, ht, ht_l]
  refine kont_for (fun j st => ∃ (s : Tr) (o : Option It) (g : List Ob), s.size + j ≤ t.size ∧ TrR h s ∧ s.bel n o = t.bel n none ∧ st = belSt F g n s o) t.size (s0 := belSt F [] n t none) ?_ ⟨t, none, [], by omega, i, rfl, rfl⟩ ?_
  · simp only [belSt]
    exact Weak.frame (by simp only [go_sem, simprocAttr])
  rintro j _ hj ⟨s, o, g, hsj, is, hf, rfl⟩
  rcases s with _ | ⟨ls, im, sl, sr⟩
  · simp only [belSt]
    refine kont_of_hx cx_ok hb 200 ?_
    simp only [go_sem, simprocAttr, hgetA, hgetL, hgetLk, hsetA, hsetL, hsetLk, List.length_append, List.length_set, List.append_assoc, List.set_set]
    refine kont_of_hx cx_ok hb 200 ?_
    simp only [go_sem, simprocAttr, hgetA, hgetL, hgetLk, hsetA, hsetL, hsetLk, List.length_append, List.length_set, List.append_assoc, List.set_set]
    refine kont_haxF cx_ok hb 200 mixed [(0, true)] [1, 2, 3] (by kernel_rfl) (by kernel_rfl) ?_
    simp only [go_sem, simprocAttr, hgetA, hgetL, hgetLk, hsetA, hsetL, hsetLk, List.length_append, List.length_set, List.append_assoc, List.set_set]
    have hf2 : o = t.bel n none := hf
    subst hf2
    refine ⟨⟨_, rfl, rfl⟩, ⟨_, rfl, rfl⟩⟩
  have h3 := is.1
  rw [← hF] at h3
  have h3_l := hlt h3
  rw [Tr.bel_node] at hf
  by_cases hv : n < im.ka
  · have d1 := decide_eq_true hv
    rw [if_pos hv] at hf
    simp only [belSt]
    refine kont_of_hx cx_ok hb 200 ?_
    simp only [go_sem, simprocAttr, hgetA, hgetL, hgetLk, hsetA, hsetL, hsetLk, List.length_append, List.length_set, List.append_assoc, List.set_set, h3, h3_l, d1]
    refine ⟨by simp only [Tr.size] at hsj; omega, belSt F g n sl o, ?_, sl, o, g, by simp only [Tr.size] at hsj; omega, is.2.1, hf, rfl⟩
    simp only [belSt]
    exact Weak.frame (by simp only [go_sem, simprocAttr])
  · have d1 := decide_eq_false hv
    rw [if_neg hv] at hf
    simp only [belSt]
    refine kont_of_hx cx_ok hb 200 ?_
    simp only [go_sem, simprocAttr, hgetA, hgetL, hgetLk, hsetA, hsetL, hsetLk, List.length_append, List.length_set, List.append_assoc, List.set_set, h3, h3_l, d1]
    refine kont_callH hb fn186 rfl ?_ (take_ok (lm := F.length + 2) (lo := F.length + 1) (o := o) (hgetLk rfl) (hgetLk rfl) (by omega) im) rfl fun d h6 hR => ?_
    · simp only [go_sem, simprocAttr]
    obtain ⟨g2, rfl⟩ := hR
    simp only [go_sem, simprocAttr, hgetA, hgetL, hgetLk, hsetA, hsetL, hsetLk, List.length_append, List.length_set, List.append_assoc, List.set_set]
    cases sl with
    | nil =>
      refine kont_of_hx cx_ok hb 200 ?_
      simp only [go_sem, simprocAttr, hgetA, hgetL, hgetLk, hsetA, hsetL, hsetLk, List.length_append, List.length_set, List.append_assoc, List.set_set, h3, h3_l]
      refine ⟨by simp only [Tr.size] at hsj; omega, belSt F (g ++ g2) n sr (takeI o im), ?_, sr, _, _, by simp only [Tr.size] at hsj; omega, is.2.2, hf, rfl⟩
      simp only [belSt]
      exact Weak.frame (by simp only [go_sem, simprocAttr])
    | node a b c e =>
      have h4 := is.2.1.1
      rw [← hF] at h4
      have h4_l := hlt h4
      refine kont_of_hx cx_ok hb 200 ?_
      simp only [go_sem, simprocAttr, hgetA, hgetL, hgetLk, hsetA, hsetL, hsetLk, List.length_append, List.length_set, List.append_assoc, List.set_set, h3, h3_l, h4, h4_l]
      refine kont_callH hb fn186 rfl ?_ (take_ok (lm := F.length + 2) (lo := F.length + 1) (o := takeI o im) (hgetLk rfl) (hgetLk rfl) (by omega) (Tr.node a b c e).least) rfl fun d h6 hR => ?_
      · simp only [go_sem, simprocAttr]
      obtain ⟨g3, rfl⟩ := hR
      simp only [go_sem, simprocAttr, hgetA, hgetL, hgetLk, hsetA, hsetL, hsetLk, List.length_append, List.length_set, List.append_assoc, List.set_set]
      refine kont_of_hx cx_ok hb 200 ?_
      simp only [go_sem, simprocAttr, hgetA, hgetL, hgetLk, hsetA, hsetL, hsetLk, List.length_append, List.length_set, List.append_assoc, List.set_set, h3, h3_l]
      refine ⟨by simp only [Tr.size] at hsj; omega, belSt F (g ++ (g2 ++ g3)) n sr (takeI (takeI o im) (Tr.node a b c e).least), ?_, sr, _, _, by simp only [Tr.size] at hsj; omega, is.2.2, hf, rfl⟩
      simp only [belSt]
      exact Weak.frame (by simp only [go_sem, simprocAttr])
end
end Go.Fg.X
/- Maps by numbers: their entries, whatever their order. Plain laws. No conditions. -/
namespace Go.Fg.X
set_option linter.unusedVariables false
open Go.Proofs Go.Fg
set_option maxRecDepth 100000
set_option linter.unusedSimpArgs false
def entP (e : Ent) : Int × D := (e.k, e.v)
/-- The entries of a map are these. -/
structure MapP (es : List Ent) (P : List (Int × D)) : Prop where
  perm : (es.map entP).Perm P
  nd : (P.map Prod.fst).Nodup
theorem MapP.keysNd {es : List Ent} {P : List (Int × D)} (M : MapP es P) : KeysNd es := by
  have h1 : es.map (·.k) = (es.map entP).map Prod.fst := by simp [entP, Function.comp_def]
  unfold KeysNd
  rw [h1, (M.perm.map Prod.fst).nodup_iff]
  exact M.nd
theorem alookP : ∀ {es : List Ent}, KeysNd es → ∀ {k : Int} {v : D}, alook es k = some v ↔ (k, v) ∈ es.map entP
  | [], _, k, v => by simp [alook]
  | e :: es, hn, k, v => by
    have hn2 : KeysNd es := by unfold KeysNd at hn ⊢; simp only [List.map_cons, List.nodup_cons] at hn; exact hn.2
    simp only [alook]
    by_cases h : e.k = k
    · rw [if_pos h]
      constructor
      · rintro ⟨rfl⟩; simp [entP, h]
      · intro hm
        simp only [List.map_cons, List.mem_cons] at hm
        rcases hm with hm | hm
        · simp only [entP, Prod.mk.injEq] at hm; rw [hm.2]
        · exfalso
          obtain ⟨e', he', hh⟩ := List.mem_map.1 hm
          simp only [entP, Prod.mk.injEq] at hh
          unfold KeysNd at hn
          simp only [List.map_cons, List.nodup_cons, List.mem_map, not_exists, not_and] at hn
          exact hn.1 e' he' (by rw [hh.1, h])
    · rw [if_neg h, alookP hn2]
      simp only [List.map_cons, List.mem_cons]
      constructor
      · exact fun h => .inr h
      · rintro (hm | hm)
        · simp only [entP, Prod.mk.injEq] at hm; exact absurd hm.1.symm h
        · exact hm
/-- What a map holds at a key. -/
def look (P : List (Int × D)) (k : Int) : Option D := (P.find? fun p => p.1 == k).map Prod.snd
theorem look_iff : ∀ {P : List (Int × D)}, (P.map Prod.fst).Nodup → ∀ {k : Int} {v : D}, look P k = some v ↔ (k, v) ∈ P
  | [], _, k, v => by simp [look]
  | p :: P, hn, k, v => by
    simp only [List.map_cons, List.nodup_cons] at hn
    have ih := look_iff hn.2 (k := k) (v := v)
    unfold look at ih ⊢
    rw [List.find?_cons]
    by_cases h : p.1 = k
    · rw [beq_iff_eq.2 h]
      simp only [Option.map_some, Option.some.injEq, List.mem_cons]
      constructor
      · rintro rfl; exact .inl (by rw [← h])
      · rintro (hm | hm)
        · rw [← hm]
        · exact absurd (List.mem_map.2 ⟨_, hm, rfl⟩) (by rw [← h]; exact hn.1)
    · have hb : (p.1 == k) = false := by simpa using h
      rw [hb, ih, List.mem_cons]
      constructor
      · exact fun h => .inr h
      · rintro (hm | hm)
        · exact absurd (by rw [← hm]) h
        · exact hm
theorem MapP.look {es : List Ent} {P : List (Int × D)} (M : MapP es P) (k : Int) : alook es k = look P k := by
  cases hf : X.look P k with
  | some v =>
    rw [alookP M.keysNd, M.perm.mem_iff]
    exact (look_iff M.nd).1 hf
  | none =>
    cases ha : alook es k with
    | none => rfl
    | some v =>
      rw [alookP M.keysNd, M.perm.mem_iff] at ha
      rw [(look_iff M.nd).2 ha] at hf; cases hf
theorem MapP.len {es : List Ent} {P : List (Int × D)} (M : MapP es P) : es.length = P.length := by
  have := M.perm.length_eq
  rwa [List.length_map] at this
def delP (P : List (Int × D)) (k : Int) : List (Int × D) := P.filter fun p => p.1 != k
def putP (P : List (Int × D)) (k : Int) (v : D) : List (Int × D) := (k, v) :: delP P k
theorem delP_nd {P : List (Int × D)} (k : Int) (h : (P.map Prod.fst).Nodup) : ((delP P k).map Prod.fst).Nodup := by
  unfold delP
  exact List.Nodup.sublist (List.Sublist.map _ List.filter_sublist) h
theorem putP_nd {P : List (Int × D)} (k : Int) (v : D) (h : (P.map Prod.fst).Nodup) : ((putP P k v).map Prod.fst).Nodup := by
  rw [putP, List.map_cons, List.nodup_cons]
  refine ⟨fun hm => ?_, delP_nd k h⟩
  obtain ⟨p, hp, e⟩ := List.mem_map.1 hm
  simp only [delP, List.mem_filter, bne_iff_ne, ne_eq] at hp
  exact hp.2 e
theorem aputP : ∀ {es : List Ent} (k : Int) (v : D), KeysNd es → (∃ u, alook es k = some u) → ((aput es k v).map entP).Perm ((k, v) :: (es.map entP).filter fun p => p.1 != k)
  | [], k, v, _, h => by obtain ⟨u, hu⟩ := h; cases hu
  | e :: es, k, v, hn, h => by
    have hn2 : KeysNd es ∧ ∀ e' ∈ es, e'.k ≠ e.k := by
      unfold KeysNd at hn ⊢
      simp only [List.map_cons, List.nodup_cons, List.mem_map, not_exists, not_and] at hn
      exact ⟨hn.2, hn.1⟩
    simp only [aput]
    by_cases he : e.k = k
    · rw [if_pos he, List.map_cons, List.map_cons]
      have h1 : (entP e).1 = k := he
      rw [List.filter_cons, show ((entP e).1 != k) = false by rw [h1]; simp]
      simp only [Bool.false_eq_true, if_false]
      rw [List.filter_eq_self.2]
      · exact List.Perm.refl _
      · intro p hp
        obtain ⟨e', he', rfl⟩ := List.mem_map.1 hp
        have := hn2.2 e' he'
        simpa [entP, ← he] using this
    · rw [if_neg he, List.map_cons, List.map_cons, List.filter_cons]
      have h1 : ((entP e).1 != k) = true := by simpa [entP] using he
      rw [h1, if_pos rfl]
      have h2 : ∃ u, alook es k = some u := by
        obtain ⟨u, hu⟩ := h
        simp only [alook, if_neg he] at hu
        exact ⟨u, hu⟩
      exact (List.Perm.cons _ (aputP k v hn2.1 h2)).trans (List.Perm.swap _ _ _)
theorem MapP.set {es : List Ent} {P : List (Int × D)} (M : MapP es P) (q : IntKind) (c : Nat) (k : Int) (v : D) : ∃ c' es', mset q c es k v = mapOb q c' es' ∧ MapP es' (putP P k v) := by
  unfold mset
  cases ha : alook es k with
  | some u =>
    refine ⟨c, aput es k v, rfl, ?_, putP_nd k v M.nd⟩
    exact (aputP k v M.keysNd ⟨u, ha⟩).trans (List.Perm.cons _ (M.perm.filter _))
  | none =>
    refine ⟨c + 1, es ++ [⟨k, v, c⟩], rfl, ?_, putP_nd k v M.nd⟩
    rw [List.map_append, putP]
    have hd : delP P k = P := by
      unfold delP
      rw [List.filter_eq_self]
      intro p hp
      rw [bne_iff_ne]
      intro e
      have := (look_iff M.nd (k := k) (v := p.2)).2 (by rw [← e]; exact hp)
      rw [← M.look, ha] at this; cases this
    rw [hd]
    exact (List.perm_append_comm.trans (List.Perm.cons _ M.perm))
theorem adelP : ∀ {es : List Ent} (k : Int), KeysNd es → ((adel es k).map entP) = ((es.map entP).filter fun p => p.1 != k)
  | [], _, _ => rfl
  | e :: es, k, hn => by
    have hn2 : KeysNd es ∧ ∀ e' ∈ es, e'.k ≠ e.k := by
      unfold KeysNd at hn ⊢
      simp only [List.map_cons, List.nodup_cons, List.mem_map, not_exists, not_and] at hn
      exact ⟨hn.2, hn.1⟩
    simp only [adel]
    by_cases he : e.k = k
    · rw [if_pos he, List.map_cons, List.filter_cons, show ((entP e).1 != k) = false by simpa [entP] using he]
      simp only [Bool.false_eq_true, if_false]
      rw [List.filter_eq_self.2]
      intro p hp
      obtain ⟨e', he', rfl⟩ := List.mem_map.1 hp
      have := hn2.2 e' he'
      simpa [entP, ← he] using this
    · rw [if_neg he, List.map_cons, List.map_cons, List.filter_cons, show ((entP e).1 != k) = true by simpa [entP] using he, if_pos rfl, adelP k hn2.1]
theorem MapP.del {es : List Ent} {P : List (Int × D)} (M : MapP es P) (k : Int) : MapP (adel es k) (delP P k) := by
  refine ⟨?_, delP_nd k M.nd⟩
  rw [adelP k M.keysNd]
  exact M.perm.filter _
theorem MapP.nil : MapP [] [] := ⟨by simp, by simp⟩
theorem MapP.to {es : List Ent} {P Q : List (Int × D)} (M : MapP es P) (h : P.Perm Q) : MapP es Q := ⟨M.perm.trans h, ((h.map Prod.fst).nodup_iff).1 M.nd⟩
/-- What is told of a heap: objects that are not owned stay. -/
structure Step (S : Nat → Prop) (h h' : List Ob) : Prop where
  keep : ∀ l, l < h.length → ¬ S l → h'[l]? = h[l]?
  len : h.length ≤ h'.length
def more (S : Nat → Prop) (h : List Ob) : Nat → Prop := fun l => S l ∨ h.length ≤ l
theorem Step.trans {S : Nat → Prop} {h h' h'' : List Ob} (a : Step S h h') (b : Step (more S h) h' h'') : Step S h h'' :=
  ⟨fun l hl hn => by rw [b.keep l (Nat.lt_of_lt_of_le hl a.len) (fun h1 => h1.elim hn (by omega)), a.keep l hl hn], Nat.le_trans a.len b.len⟩
theorem Step.refl (S : Nat → Prop) (h : List Ob) : Step S h h := ⟨fun _ _ _ => rfl, Nat.le_refl _⟩
theorem Step.app (S : Nat → Prop) (h g : List Ob) : Step S h (h ++ g) := ⟨fun l hl _ => hgetA hl, by simp⟩
end Go.Fg.X
/- Tables of children by their virtual times: walked. No conditions. -/
namespace Go.Fg.X
set_option linter.unusedVariables false
open Go.Proofs Go.Fg
set_option maxRecDepth 100000
set_option linter.unusedSimpArgs false
set_option maxHeartbeats 4000000
@[go_sem] def tabO (a m : Nat) : Ob := ⟨.one, 0, 2, 1, fun _ => [.ptr a 0 0 0, .mref m 0]⟩
def itP (x : It) : Int × D := (x.ki, .agg x.cells)
/-- A table of items by numbers, and by keys. -/
structure TabAt (S : Nat → Prop) (h : List Ob) (p a m : Nat) (t : Tr) (c : Nat) (es : List Ent) (L : List It) : Prop where
  o : h[p]? = some (tabO a m)
  av : AvlIs h a t L
  mo : h[m]? = some (mapOb .i64 c es)
  mp : MapP es (L.map itP)
  vi : ∀ x ∈ L, x.vi = x.ki
  pa : p ≠ a
  pm : p ≠ m
  am : a ≠ m
  pt : p ∉ t.locs
  mt : m ∉ t.locs
  sp : S p
  sa : S a
  sm : S m
  st : ∀ l ∈ t.locs, S l
def TabIs (S : Nat → Prop) (h : List Ob) (p : Nat) (L : List It) : Prop := ∃ a m t c es, TabAt S h p a m t c es L
theorem itP_look {L : List It} (id : Int) : look (L.map itP) id = (L.find? fun x => x.ki == id).map fun x => .agg x.cells := by
  unfold look
  rw [List.find?_map, Option.map_map]
  rfl
def rmI (id : Int) (L : List It) : List It := L.filter fun x => x.ki != id
def setI (id : Int) (vt fit : Nat) (L : List It) : List It := insI ⟨vt, id, fit, id⟩ (rmI id L)
theorem TabAt.ids {S : Nat → Prop} {h : List Ob} {p a m : Nat} {t : Tr} {c : Nat} {es : List Ent} {L : List It} (T : TabAt S h p a m t c es L) : (L.map It.ki).Nodup := by
  have := T.mp.nd
  rwa [List.map_map] at this
theorem rm_eq {L : List It} (hn : (L.map It.ki).Nodup) {x : It} (hx : x ∈ L) : delI x.ka x.ki L = rmI x.ki L := by
  unfold delI rmI
  apply List.filter_congr
  intro y hy
  by_cases h : y.ki = x.ki
  · have hxy : y = x := by
      have : ∀ {l : List It}, (l.map It.ki).Nodup → ∀ {u v : It}, u ∈ l → v ∈ l → u.ki = v.ki → u = v := by
        intro l
        induction l with
        | nil => intro _ u v hu; cases hu
        | cons a l ih =>
          intro hn u v hu hv e
          simp only [List.map_cons, List.nodup_cons, List.mem_map, not_exists, not_and] at hn
          rcases List.mem_cons.1 hu with h1 | h1 <;> rcases List.mem_cons.1 hv with h2 | h2
          · rw [h1, h2]
          · exact absurd (by rw [← e, h1]) (hn.1 v h2)
          · exact absurd (by rw [e, h2]) (hn.1 u h1)
          · exact ih hn.2 h1 h2 e
      exact this hn hy hx h
    subst hxy
    simp [keyIs]
  · have hb : (y.ki == x.ki) = false := by simpa using h
    simp [keyIs, hb, bne]
theorem rm_none {L : List It} {id : Int} (h : (L.find? fun x => x.ki == id) = none) : rmI id L = L := by
  unfold rmI
  rw [List.filter_eq_self]
  intro x hx
  have := List.find?_eq_none.1 h x hx
  simpa using this
theorem rm_find (L : List It) (a : Nat) (id : Int) : findT a id (rmI id L) = none := by
  unfold findT rmI
  rw [List.find?_eq_none]
  intro x hx hk
  simp only [List.mem_filter, bne_iff_ne, ne_eq] at hx
  exact hx.2 (keyIs_iff.1 hk).2
theorem insI_perm (y : It) : ∀ L : List It, (insI y L).Perm (y :: L)
  | [] => List.Perm.refl _
  | z :: L => by
    simp only [insI]
    split
    · exact (List.Perm.cons _ (insI_perm y L)).trans (List.Perm.swap _ _ _)
    · exact List.Perm.refl _
theorem delP_map (id : Int) (L : List It) : delP (L.map itP) id = (rmI id L).map itP := by
  unfold delP rmI
  rw [List.filter_map]
  rfl
theorem insI_len (y : It) (L : List It) : (insI y L).length = L.length + 1 := (insI_perm y L).length_eq
theorem AvlIs.set {h : List Ob} {tl : Nat} {t : Tr} {L : List It} (A : AvlIs h tl t L) {m : Nat} (o : Ob) (h1 : m ≠ tl) (h2 : m ∉ t.locs) : AvlIs (h.set m o) tl t L := ⟨(hgetN h1).trans A.o, A.is.set o h2, A.list, A.nd, A.out, A.sorted⟩
theorem putP_set {id : Int} {vt fit : Nat} {L : List It} : (putP (L.map itP) id (.agg (It.mk vt id fit id).cells)).Perm ((setI id vt fit L).map itP) := by
  unfold putP setI
  rw [delP_map]
  exact ((insI_perm ⟨vt, id, fit, id⟩ (rmI id L)).map itP).symm
theorem rm_len (id : Int) (L : List It) : (rmI id L).length ≤ L.length := List.length_filter_le _ _
theorem rm_sorted {id : Int} {L : List It} (h : SortedI L) : SortedI (rmI id L) := List.Pairwise.filter _ h
/-- A table whose map and tree were changed. -/
theorem TabAt.fin {S : Nat → Prop} {h H H2 h8 : List Ob} {p a m c c' : Nat} {t t' t'' : Tr} {es es' : List Ent} {L L2 : List It} (T : TabAt S h p a m t c es L) (s0 : Step S h H)
    (hp : H[p]? = some (tabO a m)) (hm : m < H.length) (hH : H2 = H.set m (mapOb .i64 c' es')) (mt : m ∉ t'.locs) (pt : p ∉ t'.locs) (st : ∀ l ∈ t'.locs, more S h l) (hes : MapP es' (L2.map itP)) (hvi : ∀ x ∈ L2, x.vi = x.ki)
    (A : AvlTo H2 a t' L2 h8 t'') : TabIs (more S h) h8 p L2 ∧ Step S h h8 := by
  have e2 : H2.length = H.length := by rw [hH, List.length_set]
  have hl := s0.len
  have hp2 : H2[p]? = some (tabO a m) := by rw [hH, hgetN (Ne.symm T.pm)]; exact hp
  have hm2 : H2[m]? = some (mapOb .i64 c' es') := by rw [hH, hgetS hm]
  have hnew : ∀ l, H2.length ≤ l → h.length ≤ l := fun l h1 => by omega
  have hpl := hlt T.o
  have hml := hlt T.mo
  refine ⟨⟨a, m, t'', c', es', ?_, A.is, ?_, hes, hvi, T.pa, T.pm, T.am, ?_, ?_, .inl T.sp, .inl T.sa, .inl T.sm, ?_⟩, ⟨fun l h1 h2 => ?_, by have := A.len; omega⟩⟩
  · rw [A.keep p (by omega) T.pa pt]; exact hp2
  · rw [A.keep m (by omega) (Ne.symm T.am) mt]; exact hm2
  · intro h1
    rcases A.mem p h1 with h2 | h2
    · exact pt h2
    · omega
  · intro h1
    rcases A.mem m h1 with h2 | h2
    · exact mt h2
    · omega
  · intro l h1
    rcases A.mem l h1 with h2 | h2
    · exact st l h2
    · exact .inr (hnew l h2)
  · have na : l ≠ a := by rintro rfl; exact h2 T.sa
    have nm : l ≠ m := by rintro rfl; exact h2 T.sm
    have nt : l ∉ t'.locs := fun h3 => by
      rcases st l h3 with h4 | h4
      · exact h2 h4
      · omega
    rw [A.keep l (by omega) na nt, hH, hgetN (Ne.symm nm)]
    exact s0.keep l h1 h2
theorem TabAt.done {S : Nat → Prop} {h H H2 h8 : List Ob} {p a m c c' : Nat} {t t' t'' : Tr} {es es' : List Ent} {L : List It} {id : Int} {vt fit : Nat} (T : TabAt S h p a m t c es L) (s0 : Step S h H)
    (hp : H[p]? = some (tabO a m)) (hm : m < H.length) (hH : H2 = H.set m (mapOb .i64 c' es')) (mt : m ∉ t'.locs) (pt : p ∉ t'.locs) (st : ∀ l ∈ t'.locs, more S h l) (hes : MapP es' (putP (L.map itP) id (.agg (It.mk vt id fit id).cells)))
    (A : AvlTo H2 a t' (setI id vt fit L) h8 t'') : TabIs (more S h) h8 p (setI id vt fit L) ∧ Step S h h8 :=
  T.fin s0 hp hm hH mt pt st (hes.to putP_set) (fun x hx => by
    rcases mem_insI.1 hx with rfl | hx
    · rfl
    · exact T.vi x (List.mem_filter.1 hx).1) A
theorem vset_ok {S : Nat → Prop} {h : List Ob} {p : Nat} {L : List It} (T : TabIs S h p L) (id : Int) (vt fit : Nat) (hs : L.length < 400000) :
    MFn Tryz.prog 118 h [.ptr p 0 0 0, dint id, u64 vt, u64 fit] (fun d h' => TabIs (more S h) h' p (setI id vt fit L) ∧ Step S h h') := by
  obtain ⟨a, m, t, c, es, T⟩ := T
  have ho := T.o
  have hmo := T.mo
  have ha := T.av.o
  have hk := T.mp.look id
  rw [itP_look] at hk
  cases hf : L.find? fun x => x.ki == id with
  | none =>
    rw [hf, Option.map_none] at hk
    have hrm := rm_none hf
    obtain ⟨c', es', e1, M'⟩ := T.mp.set .i64 c id (.agg (It.mk vt id fit id).cells)
    have e2 : mset .i64 c es id (.agg [.raw (.int .u64 vt), .raw (.int .i64 id), .raw (.int .u64 fit), .raw (.int .i64 id)]) = mapOb .i64 c' es' := e1
    refine MFn_hx cx_ok 200 Tryz.func118 rfl Tryz.ntmps118 Tryz.results118 rfl fun base w pl hb => ?_
    have ho_l := hlt ho
    have hmo_l := hlt hmo
    simp only [go_sem, simprocAttr, hgetA, hgetL, hgetLk, hsetA, hsetL, hsetLk, List.length_append, List.length_set, List.append_assoc, List.set_set, ho, ho_l, hmo, hmo_l, hk]
    refine kont_hax cx_ok hb 200 mixed [(0, true), (1, true), (2, true), (3, true), (4, true), (5, true), (6, false)] (by kernel_rfl) (by kernel_rfl) ?_
    simp only [go_sem, simprocAttr, hgetA, hgetL, hgetLk, hsetA, hsetL, hsetLk, List.length_append, List.length_set, List.append_assoc, List.set_set, ho, ho_l, hmo, hmo_l]
    simp only [e2]
    refine kont_haxNC [8] cx_ok hb 200 mixed [(0, true), (1, true), (2, true), (3, true), (4, true), (5, true), (6, true), (7, true), (8, false), (9, true)] [] (by kernel_rfl) (by kernel_rfl) ?_
    simp only [go_sem, simprocAttr, hgetA, hgetL, hgetLk, hsetA, hsetL, hsetLk, List.length_append, List.length_set, List.append_assoc, List.set_set, ho, ho_l, hmo, hmo_l, hgetN (Ne.symm T.pm)]
    refine AX_callH hb fn163 rfl ?_ (insert_ok (tl := a) (t := t) (L := rmI id L) (by rw [hrm]; exact (T.av.set _ (Ne.symm T.am) T.mt).app _) ⟨vt, id, fit, id⟩ (rm_find L vt id) (by have := rm_len id L; omega)) rfl fun d h8 hR => ?_
    · simp only [go_sem, simprocAttr]
    obtain ⟨rfl, t'', A8⟩ := hR
    refine AX_of_hax cx_ok hb ?_
    simp only [go_sem, simprocAttr, hgetA, hgetL, hgetLk, hsetA, hsetL, hsetLk, List.length_append, List.length_set, List.append_assoc, List.set_set]
    exact T.done (H := h ++ _) (Step.app S h _) (hgetA ho_l |>.trans ho) (by simp; omega) (hsetA hmo_l).symm T.mt T.pt (fun l hl => .inl (T.st l hl)) M' A8
  | some x =>
    rw [hf, Option.map_some] at hk
    obtain ⟨c', es', e1, M'⟩ := T.mp.set .i64 c id (.agg (It.mk vt id fit id).cells)
    have e2 : mset .i64 c es id (.agg [.raw (.int .u64 vt), .raw (.int .i64 id), .raw (.int .u64 fit), .raw (.int .i64 id)]) = mapOb .i64 c' es' := e1
    refine MFn_hx cx_ok 200 Tryz.func118 rfl Tryz.ntmps118 Tryz.results118 rfl fun base w pl hb => ?_
    have ho_l := hlt ho
    have hmo_l := hlt hmo
    simp only [go_sem, simprocAttr, hgetA, hgetL, hgetLk, hsetA, hsetL, hsetLk, List.length_append, List.length_set, List.append_assoc, List.set_set, ho, ho_l, hmo, hmo_l, hk]
    refine kont_haxNC [6] cx_ok hb 200 mixed [(0, true), (1, true), (2, true), (3, true), (4, true), (5, true), (6, false)] [] (by kernel_rfl) (by kernel_rfl) ?_
    simp only [go_sem, simprocAttr, hgetA, hgetL, hgetLk, hsetA, hsetL, hsetLk, List.length_append, List.length_set, List.append_assoc, List.set_set, ho, ho_l]
    have hmem : x ∈ L := List.mem_of_find?_eq_some hf
    have hid : x.ki = id := by have := List.find?_some hf; simpa using this
    have hdel : delI x.ka id L = rmI id L := by rw [← hid]; exact rm_eq T.ids hmem
    have hne : findT x.ka id L ≠ none := fun e => by
      unfold findT at e
      have := List.find?_eq_none.1 e x hmem
      exact this (keyIs_iff.2 ⟨rfl, hid⟩)
    have hlt_t : ∀ l ∈ t.locs, l < h.length := T.av.is.lt
    have ha_l := hlt ha
    refine AX_callH hb fn164 rfl ?_ (delete_ok (tl := a) (t := t) (L := L) (T.av.app _) x.ka id hne (by omega)) rfl fun d h6 hR => ?_
    · simp only [go_sem, simprocAttr, hid]
    obtain ⟨rfl, t', A6⟩ := hR
    rw [hdel] at A6
    have hlen6 : h.length + 2 ≤ h6.length := by have := A6.len; simpa using this
    have k6 : ∀ l, l < h.length → l ≠ a → l ∉ t.locs → h6[l]? = h[l]? := fun l h1 h2 h3 => (A6.keep l (by simp; omega) h2 h3).trans (hgetA h1)
    have hp6 : h6[p]? = _ := (k6 p ho_l T.pa T.pt).trans ho
    have hm6 : h6[m]? = _ := (k6 m hmo_l (Ne.symm T.am) T.mt).trans hmo
    have hx6 := (A6.keep h.length (by simp) (by omega) (fun h1 => by have := hlt_t _ h1; omega)).trans (hgetL rfl)
    have hp6_l := hlt hp6
    have hm6_l := hlt hm6
    have hx6_l := hlt hx6
    have mt6 : m ∉ t'.locs := fun h1 => by
      rcases A6.mem m h1 with h2 | h2
      · exact T.mt h2
      · simp only [List.length_append] at h2; omega
    have pt6 : p ∉ t'.locs := fun h1 => by
      rcases A6.mem p h1 with h2 | h2
      · exact T.pt h2
      · simp only [List.length_append] at h2; omega
    have hne2 : m ≠ h.length := by omega
    refine AX_of_hax cx_ok hb ?_
    simp only [go_sem, simprocAttr, hgetA, hgetL, hgetLk, hsetA, hsetL, hsetLk, List.length_append, List.length_set, List.append_assoc, List.set_set]
    refine kont_hax cx_ok hb 200 mixed [(0, true), (1, true), (2, true), (3, true), (4, true), (5, true), (6, false)] (by kernel_rfl) (by kernel_rfl) ?_
    simp only [go_sem, simprocAttr, hgetA, hgetL, hgetLk, hsetA, hsetL, hsetLk, List.length_append, List.length_set, List.append_assoc, List.set_set, hp6, hp6_l, hm6, hm6_l, hx6, hx6_l]
    simp only [e2]
    refine kont_haxNC [8] cx_ok hb 200 mixed [(0, true), (1, true), (2, true), (3, true), (4, true), (5, true), (6, true), (7, true), (8, false), (9, true)] [] (by kernel_rfl) (by kernel_rfl) ?_
    simp only [go_sem, simprocAttr, hgetA, hgetL, hgetLk, hsetA, hsetL, hsetLk, List.length_append, List.length_set, List.append_assoc, List.set_set, hp6, hp6_l, hm6, hm6_l, hx6, hx6_l, hgetN (Ne.symm T.pm), hgetN hne2]
    refine AX_callH hb fn163 rfl ?_ (insert_ok (tl := a) (t := t') (L := rmI id L) (A6.is.set _ (Ne.symm T.am) mt6) ⟨vt, id, fit, id⟩ (rm_find L vt id) (by have := rm_len id L; omega)) rfl fun d h8 hR => ?_
    · simp only [go_sem, simprocAttr]
    obtain ⟨rfl, t'', A8⟩ := hR
    refine AX_of_hax cx_ok hb ?_
    simp only [go_sem, simprocAttr, hgetA, hgetL, hgetLk, hsetA, hsetL, hsetLk, List.length_append, List.length_set, List.append_assoc, List.set_set]
    refine T.done (H := h6) ⟨fun l h1 h2 => k6 l h1 (by rintro rfl; exact h2 T.sa) (fun h3 => h2 (T.st l h3)), by omega⟩ hp6 hm6_l rfl mt6 pt6 (fun l hl => ?_) M' A8
    rcases A6.mem l hl with h1 | h1
    · exact .inl (T.st l h1)
    · simp only [List.length_append] at h1; exact .inr (by omega)
end Go.Fg.X
/- Tables of children: taken out, read: walked. No conditions. -/
namespace Go.Fg.X
set_option linter.unusedVariables false
open Go.Proofs Go.Fg
set_option maxRecDepth 100000
set_option linter.unusedSimpArgs false
set_option maxHeartbeats 4000000
theorem ro_same {h F : List Ob} (hF : F = h.map Ob.ro) (l : Nat) (o : Ob) (e : (h.map Ob.ro)[l]? = some o) : (F.map Ob.ro)[l]? = some o := by
  have := ro_more (g := []) hF l o e
  rwa [List.append_nil] at this
structure TabRd (h : List Ob) (p a m : Nat) (t : Tr) (c : Nat) (es : List Ent) (L : List It) : Prop where
  o : (h.map Ob.ro)[p]? = some (tabO a m).ro
  ao : (h.map Ob.ro)[a]? = some (rootO t).ro
  is : TrR h t
  list : t.list = L
  sorted : SortedI L
  mo : (h.map Ob.ro)[m]? = some (mapOb .i64 c es).ro
  mp : MapP es (L.map itP)
/-- A table, to be read. -/
def TabR (h : List Ob) (p : Nat) (L : List It) : Prop := ∃ a m t c es, TabRd h p a m t c es L
theorem TabIs.toR {S : Nat → Prop} {h : List Ob} {p : Nat} {L : List It} : TabIs S h p L → TabR h p L := fun ⟨a, m, t, c, es, T⟩ =>
  ⟨a, m, t, c, es, ro_get T.o, ro_get T.av.o, T.av.is.toR, T.av.list, T.av.sorted, ro_get T.mo, T.mp⟩
theorem TabR.more {h h' : List Ob} {p : Nat} {L : List It} (e : ∀ (l : Nat) (o : Ob), (h.map Ob.ro)[l]? = some o → (h'.map Ob.ro)[l]? = some o) : TabR h p L → TabR h' p L := fun ⟨a, m, t, c, es, T⟩ =>
  ⟨a, m, t, c, es, e _ _ T.o, e _ _ T.ao, T.is.more e, T.list, T.sorted, e _ _ T.mo, T.mp⟩
theorem TabIs.frame {S : Nat → Prop} {h h' : List Ob} {p : Nat} {L : List It} (e : ∀ l, S l → l < h.length → h'[l]? = h[l]?) : TabIs S h p L → TabIs S h' p L := fun ⟨a, m, t, c, es, T⟩ =>
  have k : ∀ l o, S l → h[l]? = some o → h'[l]? = some o := fun l o h1 h2 => (e l h1 (hlt h2)).trans h2
  ⟨a, m, t, c, es, k _ _ T.sp T.o, ⟨k _ _ T.sa T.av.o, T.av.is.frame fun l hl => e l (T.st l hl) (T.av.is.lt l hl), T.av.list, T.av.nd, T.av.out, T.av.sorted⟩, k _ _ T.sm T.mo, T.mp, T.vi, T.pa, T.pm, T.am, T.pt, T.mt, T.sp, T.sa, T.sm, T.st⟩
theorem TabIs.mono {S S' : Nat → Prop} {h : List Ob} {p : Nat} {L : List It} (e : ∀ l, S l → S' l) : TabIs S h p L → TabIs S' h p L := fun ⟨a, m, t, c, es, T⟩ =>
  ⟨a, m, t, c, es, T.o, T.av, T.mo, T.mp, T.vi, T.pa, T.pm, T.am, T.pt, T.mt, e _ T.sp, e _ T.sa, e _ T.sm, fun l hl => e l (T.st l hl)⟩
section
variable {h : List Ob} {p : Nat} {L : List It} (T : TabR h p L)
include T
theorem vpick_ok (now : Nat) : RFn0 Tryz.prog 103 h [.ptr p 0 0 0, u64 now] (fun d => d = .tup [dint ((L.find? fun x => decide (x.va ≤ min now 9223372036854775807)).getD default).ki, dbool (L.find? fun x => decide (x.va ≤ min now 9223372036854775807)).isSome]) := by
  obtain ⟨a, m, t, c, es, T⟩ := T
  obtain ⟨ho, ha, is, hl, hs, hm, mp⟩ := T
  have e1 : min (now : Int) 9223372036854775807 = ((min now 9223372036854775807 : Nat) : Int) := by omega
  have ha0 := ha
  refine RFn0_hx cx_ok 200 Tryz.func103 rfl Tryz.ntmps103 Tryz.results103 rfl fun base w pl F hF hFl hb => ?_
  rw [← hF] at ho ha
  have ho_l := hlt ho
  have ha_l := hlt ha
  simp only [go_sem, simprocAttr, hgetA, hgetL, hgetLk, hsetA, hsetL, hsetLk, List.length_append, List.length_set, List.append_assoc, List.set_set, ho, ho_l, ha, ha_l, e1]
  refine kont_callR0 hb fn157 rfl ?_ (afirst_ok (ro_same hF _ _ ha0) (is.more (ro_same hF)) (min now 9223372036854775807)) rfl fun d hR => ?_
  · simp only [go_sem, simprocAttr, hgetA, hgetL, hgetLk, hsetA, hsetL, hsetLk, List.length_append, List.length_set, List.append_assoc, List.set_set, ho, ho_l]
  subst hR
  refine kont_of_hx cx_ok hb 200 ?_
  simp only [go_sem, simprocAttr, hgetA, hgetL, hgetLk, hsetA, hsetL, hsetLk, List.length_append, List.length_set, List.append_assoc, List.set_set, ho, ho_l]
  subst hl
  exact ⟨_, rfl, rfl⟩
theorem vlow_ok : RFn0 Tryz.prog 121 h [.ptr p 0 0 0] (fun d => d = .tup [u64 (L.head?.getD default).ka, dbool L.head?.isSome]) := by
  obtain ⟨a, m, t, c, es, T⟩ := T
  obtain ⟨ho, ha, is, hl, hs, hm, mp⟩ := T
  have ha0 := ha
  refine RFn0_hx cx_ok 200 Tryz.func121 rfl Tryz.ntmps121 Tryz.results121 rfl fun base w pl F hF hFl hb => ?_
  rw [← hF] at ho ha
  have ho_l := hlt ho
  have ha_l := hlt ha
  simp only [go_sem, simprocAttr, hgetA, hgetL, hgetLk, hsetA, hsetL, hsetLk, List.length_append, List.length_set, List.append_assoc, List.set_set, ho, ho_l, ha, ha_l]
  refine kont_callR0 hb fn142 rfl ?_ (aleast_ok (ro_same hF _ _ ha0) (is.more (ro_same hF))) rfl fun d hR => ?_
  · simp only [go_sem, simprocAttr, hgetA, hgetL, hgetLk, hsetA, hsetL, hsetLk, List.length_append, List.length_set, List.append_assoc, List.set_set, ho, ho_l]
  subst hR
  refine kont_of_hx cx_ok hb 200 ?_
  simp only [go_sem, simprocAttr, hgetA, hgetL, hgetLk, hsetA, hsetL, hsetLk, List.length_append, List.length_set, List.append_assoc, List.set_set, ho, ho_l]
  subst hl
  exact ⟨_, rfl, rfl⟩
theorem vlen_ok : RFn0 Tryz.prog 117 h [.ptr p 0 0 0] (fun d => d = dint L.length) := by
  obtain ⟨a, m, t, c, es, T⟩ := T
  obtain ⟨ho, ha, is, hl, hs, hm, mp⟩ := T
  have e1 : es.length = L.length := by rw [mp.len, List.length_map]
  refine RFn0_hx cx_ok 200 Tryz.func117 rfl Tryz.ntmps117 Tryz.results117 rfl fun base w pl F hF hFl hb => ?_
  rw [← hF] at ho ha hm
  have ho_l := hlt ho
  have ha_l := hlt ha
  have hm_l := hlt hm
  simp only [go_sem, simprocAttr, hgetA, hgetL, hgetLk, hsetA, hsetL, hsetLk, List.length_append, List.length_set, List.append_assoc, List.set_set, ho, ho_l, ha, ha_l, hm, hm_l, e1]
  exact ⟨[], by simp⟩
def never : Nat := 9223372036854775808
/-- The least tick of a table's items. -/
def leastV (L : List It) : Nat := L.foldl (fun o x => min o x.va) never
omit T in
theorem foldMin_le : ∀ (L : List It) (o : Nat), L.foldl (fun o x => min o x.va) o ≤ o ∧ (∀ x ∈ L, L.foldl (fun o x => min o x.va) o ≤ x.va) ∧ (L.foldl (fun o x => min o x.va) o = o ∨ ∃ x ∈ L, L.foldl (fun o x => min o x.va) o = x.va)
  | [], o => ⟨Nat.le_refl _, by simp, .inl rfl⟩
  | y :: L, o => by
    obtain ⟨h1, h2, h3⟩ := foldMin_le L (min o y.va)
    simp only [List.foldl_cons]
    refine ⟨by omega, fun x hx => ?_, ?_⟩
    · rcases List.mem_cons.1 hx with rfl | hx
      · omega
      · exact h2 x hx
    · rcases h3 with h3 | ⟨x, hx, h3⟩
      · rw [h3]
        by_cases hle : o ≤ y.va
        · exact .inl (Nat.min_eq_left hle)
        · exact .inr ⟨y, by simp, Nat.min_eq_right (by omega)⟩
      · exact .inr ⟨x, by simp [hx], h3⟩
omit T in
theorem leastV_eq {x : It} {L : List It} (h : IsLeast x L) : leastV L = min x.va never := by
  obtain ⟨h1, h2, h3⟩ := foldMin_le L never
  unfold leastV
  have h4 := h2 x h.mem
  rcases h3 with h3 | ⟨y, hy, h3⟩
  · omega
  · have := h.va hy
    omega
theorem vfit_ok (hk : ∀ x ∈ L, x.ka ≤ 18446744073709551615) : RFn0 Tryz.prog 82 h [.ptr p 0 0 0] (fun d => d = u64 (leastV L)) := by
  have T0 := T
  obtain ⟨a, m, t, c, es, T⟩ := T
  obtain ⟨ho, ha, is, hl, hs, hm, mp⟩ := T
  have ha0 := ha
  by_cases hn : L = []
  · have d0 : ((L.length : Int) == 0) = true := by simp [hn]
    refine RFn0_hx cx_ok 200 Tryz.func82 rfl Tryz.ntmps82 Tryz.results82 rfl fun base w pl F hF hFl hb => ?_
    rw [← hF] at ho ha
    have ho_l := hlt ho
    have ha_l := hlt ha
    simp only [go_sem, simprocAttr, hgetA, hgetL, hgetLk, hsetA, hsetL, hsetLk, List.length_append, List.length_set, List.append_assoc, List.set_set, ho, ho_l, ha, ha_l]
    refine kont_callR0 hb fn117 rfl ?_ (vlen_ok (T0.more (ro_same hF))) rfl fun d hR => ?_
    · simp only [go_sem, simprocAttr, hgetA, hgetL, hgetLk, hsetA, hsetL, hsetLk, List.length_append, List.length_set, List.append_assoc, List.set_set, ho, ho_l, d0]
    subst hR
    refine kont_of_hx cx_ok hb 200 ?_
    simp only [go_sem, simprocAttr, hgetA, hgetL, hgetLk, hsetA, hsetL, hsetLk, List.length_append, List.length_set, List.append_assoc, List.set_set, ho, ho_l, d0]
    subst hn
    exact ⟨[], by simp [leastV, never]⟩
  · have d0 : ((L.length : Int) == 0) = false := by simp [hn]
    refine RFn0_hx cx_ok 200 Tryz.func82 rfl Tryz.ntmps82 Tryz.results82 rfl fun base w pl F hF hFl hb => ?_
    rw [← hF] at ho ha
    have ho_l := hlt ho
    have ha_l := hlt ha
    simp only [go_sem, simprocAttr, hgetA, hgetL, hgetLk, hsetA, hsetL, hsetLk, List.length_append, List.length_set, List.append_assoc, List.set_set, ho, ho_l, ha, ha_l]
    refine kont_callR0 hb fn117 rfl ?_ (vlen_ok (T0.more (ro_same hF))) rfl fun d hR => ?_
    · simp only [go_sem, simprocAttr, hgetA, hgetL, hgetLk, hsetA, hsetL, hsetLk, List.length_append, List.length_set, List.append_assoc, List.set_set, ho, ho_l, d0]
    subst hR
    refine kont_of_hx cx_ok hb 200 ?_
    simp only [go_sem, simprocAttr, hgetA, hgetL, hgetLk, hsetA, hsetL, hsetLk, List.length_append, List.length_set, List.append_assoc, List.set_set, ho, ho_l, d0]
    refine kont_of_hx cx_ok hb 200 ?_
    simp only [go_sem, simprocAttr, hgetA, hgetL, hgetLk, hsetA, hsetL, hsetLk, List.length_append, List.length_set, List.append_assoc, List.set_set, ho, ho_l]
    refine kont_callR0 hb fn143 rfl ?_ (abelow_ok (ro_same hF _ _ ha0) (is.more (ro_same hF)) 18446744073709551615) rfl fun d hR => ?_
    · simp only [go_sem, simprocAttr, hgetA, hgetL, hgetLk, hsetA, hsetL, hsetLk, List.length_append, List.length_set, List.append_assoc, List.set_set, ho, ho_l]
    subst hR
    refine kont_of_hx cx_ok hb 200 ?_
    simp only [go_sem, simprocAttr, hgetA, hgetL, hgetLk, hsetA, hsetL, hsetLk, List.length_append, List.length_set, List.append_assoc, List.set_set, ho, ho_l]
    have hb2 := Tr.bel_is 18446744073709551615 t none [] (by rw [hl]; exact hs) rfl
    rw [hl, List.nil_append, List.filter_eq_self.2 (fun x hx => by simpa using hk x hx)] at hb2
    refine ⟨_, rfl, ?_⟩
    cases hbel : t.bel 18446744073709551615 none with
    | none => rw [hbel] at hb2; exact absurd hb2 hn
    | some x =>
      rw [hbel] at hb2
      rw [leastV_eq hb2]
      simp only [Option.getD_some, never]
      congr 2
      omega
end
def hasI (id : Int) (L : List It) : Bool := (L.find? fun x => x.ki == id).isSome
theorem vdrop_ok {S : Nat → Prop} {h : List Ob} {p : Nat} {L : List It} (T : TabIs S h p L) (id : Int) (hs : L.length < 400000) :
    MFn Tryz.prog 116 h [.ptr p 0 0 0, dint id] (fun d h' => d = dint (if hasI id L then 0 else 6) ∧ TabIs (more S h) h' p (rmI id L) ∧ Step S h h') := by
  have T0 := T
  obtain ⟨a, m, t, c, es, T⟩ := T
  have ho := T.o
  have hmo := T.mo
  have ha := T.av.o
  have hk := T.mp.look id
  rw [itP_look] at hk
  unfold hasI
  cases hf : L.find? fun x => x.ki == id with
  | none =>
    rw [hf, Option.map_none] at hk
    refine MFn_hx cx_ok 200 Tryz.func116 rfl Tryz.ntmps116 Tryz.results116 rfl fun base w pl hb => ?_
    have ho_l := hlt ho
    have hmo_l := hlt hmo
    simp only [go_sem, simprocAttr, hgetA, hgetL, hgetLk, hsetA, hsetL, hsetLk, List.length_append, List.length_set, List.append_assoc, List.set_set, ho, ho_l, hmo, hmo_l, hk]
    rw [rm_none hf]
    exact ⟨rfl, (T0.frame fun l h1 h2 => hgetA h2).mono fun l hl => .inl hl, Step.app S h _⟩
  | some x =>
    rw [hf, Option.map_some] at hk
    have hmem : x ∈ L := List.mem_of_find?_eq_some hf
    have hid : x.ki = id := by have := List.find?_some hf; simpa using this
    have hdel : delI x.ka id L = rmI id L := by rw [← hid]; exact rm_eq T.ids hmem
    have hne : findT x.ka id L ≠ none := fun e => by
      unfold findT at e
      have := List.find?_eq_none.1 e x hmem
      exact this (keyIs_iff.2 ⟨rfl, hid⟩)
    have hlt_t : ∀ l ∈ t.locs, l < h.length := T.av.is.lt
    have ha_l := hlt ha
    have M' := T.mp.del id
    rw [delP_map] at M'
    refine MFn_hx cx_ok 200 Tryz.func116 rfl Tryz.ntmps116 Tryz.results116 rfl fun base w pl hb => ?_
    have ho_l := hlt ho
    have hmo_l := hlt hmo
    simp only [go_sem, simprocAttr, hgetA, hgetL, hgetLk, hsetA, hsetL, hsetLk, List.length_append, List.length_set, List.append_assoc, List.set_set, ho, ho_l, hmo, hmo_l, hk]
    refine kont_haxNC [6] cx_ok hb 200 mixed [(0, true), (1, true), (2, true), (3, true), (4, true), (5, true), (6, false), (7, true)] [] (by kernel_rfl) (by kernel_rfl) ?_
    simp only [go_sem, simprocAttr, hgetA, hgetL, hgetLk, hsetA, hsetL, hsetLk, List.length_append, List.length_set, List.append_assoc, List.set_set, ho, ho_l, hmo, hmo_l, hgetN (Ne.symm T.pm)]
    refine AX_callH hb fn164 rfl ?_ (delete_ok (tl := a) (t := t) (L := L) ((T.av.set _ (Ne.symm T.am) T.mt).app _) x.ka id hne (by omega)) rfl fun d h6 hR => ?_
    · simp only [go_sem, simprocAttr, hid]
    obtain ⟨rfl, t', A6⟩ := hR
    rw [hdel] at A6
    refine AX_of_hax cx_ok hb ?_
    simp only [go_sem, simprocAttr, hgetA, hgetL, hgetLk, hsetA, hsetL, hsetLk, List.length_append, List.length_set, List.append_assoc, List.set_set]
    exact ⟨rfl, T.fin (H := h ++ _) (Step.app S h _) ((hgetA ho_l).trans ho) (by simp; omega) (hsetA hmo_l).symm T.mt T.pt (fun l hl => .inl (T.st l hl)) M' (fun y hy => T.vi y (List.mem_filter.1 hy).1) A6⟩
theorem anew_ok (h : List Ob) : MFn Tryz.prog 100 h [] (fun d h' => d = .ptr h.length 0 0 0 ∧ h' = h ++ [rootO .nil]) := by
  refine MFn_hx cx_ok 200 Tryz.func100 rfl Tryz.ntmps100 Tryz.results100 rfl fun base w pl hb => ?_
  simp only [go_sem, simprocAttr, hgetA, hgetL, hgetLk, hsetA, hsetL, hsetLk, List.length_append, List.length_set, List.append_assoc, List.set_set]
theorem tab_new (h : List Ob) (c : Nat) : TabIs (fun l => h.length ≤ l) (h ++ [rootO .nil, mapOb .i64 c [], tabO h.length (h.length + 1)]) (h.length + 2) [] :=
  ⟨h.length, h.length + 1, .nil, c, [], hgetLk rfl, ⟨hgetL rfl, trivial, rfl, by simp [Tr.locs], by simp [Tr.locs], by simp [SortedI]⟩, hgetLk rfl, MapP.nil, by simp, by omega, by omega, by omega, by simp [Tr.locs], by simp [Tr.locs], by show h.length ≤ _; omega, Nat.le_refl _, by show h.length ≤ _; omega, by simp [Tr.locs]⟩
theorem vnew_ok (h : List Ob) : MFn Tryz.prog 50 h [] (fun d h' => d = .ptr (h.length + 2) 0 0 0 ∧ TabIs (fun l => h.length ≤ l) h' (h.length + 2) [] ∧ ∃ g, h' = h ++ g ∧ g.length = 3) := by
  refine MFn_hx cx_ok 200 Tryz.func50 rfl Tryz.ntmps50 Tryz.results50 rfl fun base w pl hb => ?_
  simp only [go_sem, simprocAttr, hgetA, hgetL, hgetLk, hsetA, hsetL, hsetLk, List.length_append, List.length_set, List.append_assoc, List.set_set]
  refine kont_callH hb fn100 rfl ?_ (anew_ok h) rfl fun d h hR => ?_
  · simp only [go_sem, simprocAttr, hgetA, hgetL, hgetLk, hsetA, hsetL, hsetLk, List.length_append, List.length_set, List.append_assoc, List.set_set]
  obtain ⟨rfl, rfl⟩ := hR
  refine kont_of_hx cx_ok hb 200 ?_
  simp only [go_sem, simprocAttr, hgetA, hgetL, hgetLk, hsetA, hsetL, hsetLk, List.length_append, List.length_set, List.append_assoc, List.set_set]
  exact ⟨tab_new h 0, _, rfl, rfl⟩
end Go.Fg.X
/- Tables of leaves by their ticks: walked. No conditions. -/
namespace Go.Fg.X
set_option linter.unusedVariables false
open Go.Proofs Go.Fg
set_option maxRecDepth 100000
set_option linter.unusedSimpArgs false
set_option maxHeartbeats 4000000
theorem edrop_ok {S : Nat → Prop} {h : List Ob} {p : Nat} {L : List It} (T : TabIs S h p L) (id : Int) (hs : L.length < 400000) :
    MFn Tryz.prog 113 h [.ptr p 0 0 0, dint id] (fun d h' => d = dint (if hasI id L then 0 else 6) ∧ TabIs (more S h) h' p (rmI id L) ∧ Step S h h') := by
  have T0 := T
  obtain ⟨a, m, t, c, es, T⟩ := T
  have ho := T.o
  have hmo := T.mo
  have ha := T.av.o
  have hk := T.mp.look id
  rw [itP_look] at hk
  unfold hasI
  cases hf : L.find? fun x => x.ki == id with
  | none =>
    rw [hf, Option.map_none] at hk
    refine MFn_hx cx_ok 200 Tryz.func113 rfl Tryz.ntmps113 Tryz.results113 rfl fun base w pl hb => ?_
    have ho_l := hlt ho
    have hmo_l := hlt hmo
    simp only [go_sem, simprocAttr, hgetA, hgetL, hgetLk, hsetA, hsetL, hsetLk, List.length_append, List.length_set, List.append_assoc, List.set_set, ho, ho_l, hmo, hmo_l, hk]
    rw [rm_none hf]
    exact ⟨rfl, (T0.frame fun l h1 h2 => hgetA h2).mono fun l hl => .inl hl, Step.app S h _⟩
  | some x =>
    rw [hf, Option.map_some] at hk
    have hmem : x ∈ L := List.mem_of_find?_eq_some hf
    have hid : x.ki = id := by have := List.find?_some hf; simpa using this
    have hdel : delI x.ka id L = rmI id L := by rw [← hid]; exact rm_eq T.ids hmem
    have hne : findT x.ka id L ≠ none := fun e => by
      unfold findT at e
      have := List.find?_eq_none.1 e x hmem
      exact this (keyIs_iff.2 ⟨rfl, hid⟩)
    have hlt_t : ∀ l ∈ t.locs, l < h.length := T.av.is.lt
    have ha_l := hlt ha
    have M' := T.mp.del id
    rw [delP_map] at M'
    refine MFn_hx cx_ok 200 Tryz.func113 rfl Tryz.ntmps113 Tryz.results113 rfl fun base w pl hb => ?_
    have ho_l := hlt ho
    have hmo_l := hlt hmo
    simp only [go_sem, simprocAttr, hgetA, hgetL, hgetLk, hsetA, hsetL, hsetLk, List.length_append, List.length_set, List.append_assoc, List.set_set, ho, ho_l, hmo, hmo_l, hk]
    refine kont_haxNC [6] cx_ok hb 200 mixed [(0, true), (1, true), (2, true), (3, true), (4, true), (5, true), (6, false), (7, true)] [] (by kernel_rfl) (by kernel_rfl) ?_
    simp only [go_sem, simprocAttr, hgetA, hgetL, hgetLk, hsetA, hsetL, hsetLk, List.length_append, List.length_set, List.append_assoc, List.set_set, ho, ho_l, hmo, hmo_l, hgetN (Ne.symm T.pm)]
    refine AX_callH hb fn164 rfl ?_ (delete_ok (tl := a) (t := t) (L := L) ((T.av.set _ (Ne.symm T.am) T.mt).app _) x.ka id hne (by omega)) rfl fun d h6 hR => ?_
    · simp only [go_sem, simprocAttr, hid]
    obtain ⟨rfl, t', A6⟩ := hR
    rw [hdel] at A6
    refine AX_of_hax cx_ok hb ?_
    simp only [go_sem, simprocAttr, hgetA, hgetL, hgetLk, hsetA, hsetL, hsetLk, List.length_append, List.length_set, List.append_assoc, List.set_set]
    exact ⟨rfl, T.fin (H := h ++ _) (Step.app S h _) ((hgetA ho_l).trans ho) (by simp; omega) (hsetA hmo_l).symm T.mt T.pt (fun l hl => .inl (T.st l hl)) M' (fun y hy => T.vi y (List.mem_filter.1 hy).1) A6⟩
theorem enew_ok (h : List Ob) : MFn Tryz.prog 49 h [] (fun d h' => d = .ptr (h.length + 2) 0 0 0 ∧ TabIs (fun l => h.length ≤ l) h' (h.length + 2) [] ∧ ∃ g, h' = h ++ g ∧ g.length = 3) := by
  refine MFn_hx cx_ok 200 Tryz.func49 rfl Tryz.ntmps49 Tryz.results49 rfl fun base w pl hb => ?_
  simp only [go_sem, simprocAttr, hgetA, hgetL, hgetLk, hsetA, hsetL, hsetLk, List.length_append, List.length_set, List.append_assoc, List.set_set]
  refine kont_callH hb fn100 rfl ?_ (anew_ok h) rfl fun d h hR => ?_
  · simp only [go_sem, simprocAttr, hgetA, hgetL, hgetLk, hsetA, hsetL, hsetLk, List.length_append, List.length_set, List.append_assoc, List.set_set]
  obtain ⟨rfl, rfl⟩ := hR
  refine kont_of_hx cx_ok hb 200 ?_
  simp only [go_sem, simprocAttr, hgetA, hgetL, hgetLk, hsetA, hsetL, hsetLk, List.length_append, List.length_set, List.append_assoc, List.set_set]
  exact ⟨tab_new h 0, _, rfl, rfl⟩
section
variable {h : List Ob} {p : Nat} {L : List It} (T : TabR h p L)
include T
theorem elen_ok : RFn0 Tryz.prog 141 h [.ptr p 0 0 0] (fun d => d = dint L.length) := by
  obtain ⟨a, m, t, c, es, T⟩ := T
  obtain ⟨ho, ha, is, hl, hs, hm, mp⟩ := T
  have e1 : es.length = L.length := by rw [mp.len, List.length_map]
  refine RFn0_hx cx_ok 200 Tryz.func141 rfl Tryz.ntmps141 Tryz.results141 rfl fun base w pl F hF hFl hb => ?_
  rw [← hF] at ho ha hm
  have ho_l := hlt ho
  have ha_l := hlt ha
  have hm_l := hlt hm
  simp only [go_sem, simprocAttr, hgetA, hgetL, hgetLk, hsetA, hsetL, hsetLk, List.length_append, List.length_set, List.append_assoc, List.set_set, ho, ho_l, ha, ha_l, hm, hm_l, e1]
  exact ⟨[], by simp⟩
theorem epick_ok (now : Nat) : RFn0 Tryz.prog 102 h [.ptr p 0 0 0, u64 now] (fun d => ∃ o, LeastO o (L.filter fun x => decide (x.ka ≤ min now 9223372036854775807)) ∧ d = .tup [dint (o.getD default).ki, dbool o.isSome]) := by
  obtain ⟨a, m, t, c, es, T⟩ := T
  obtain ⟨ho, ha, is, hl, hs, hm, mp⟩ := T
  have e1 : min (now : Int) 9223372036854775807 = ((min now 9223372036854775807 : Nat) : Int) := by omega
  have ha0 := ha
  have hb2 := Tr.bel_is (min now 9223372036854775807) t none [] (by rw [hl]; exact hs) rfl
  rw [hl, List.nil_append] at hb2
  refine RFn0.mono (R := fun d => d = .tup [dint ((t.bel (min now 9223372036854775807) none).getD default).ki, dbool (t.bel (min now 9223372036854775807) none).isSome]) ?_ (fun d hd => ⟨_, hb2, hd⟩)
  refine RFn0_hx cx_ok 200 Tryz.func102 rfl Tryz.ntmps102 Tryz.results102 rfl fun base w pl F hF hFl hb => ?_
  rw [← hF] at ho ha
  have ho_l := hlt ho
  have ha_l := hlt ha
  simp only [go_sem, simprocAttr, hgetA, hgetL, hgetLk, hsetA, hsetL, hsetLk, List.length_append, List.length_set, List.append_assoc, List.set_set, ho, ho_l, ha, ha_l, e1]
  refine kont_callR0 hb fn143 rfl ?_ (abelow_ok (ro_same hF _ _ ha0) (is.more (ro_same hF)) (min now 9223372036854775807)) rfl fun d hR => ?_
  · simp only [go_sem, simprocAttr, hgetA, hgetL, hgetLk, hsetA, hsetL, hsetLk, List.length_append, List.length_set, List.append_assoc, List.set_set, ho, ho_l]
  subst hR
  refine kont_of_hx cx_ok hb 200 ?_
  simp only [go_sem, simprocAttr, hgetA, hgetL, hgetLk, hsetA, hsetL, hsetLk, List.length_append, List.length_set, List.append_assoc, List.set_set, ho, ho_l]
  exact ⟨_, rfl⟩
theorem enext_ok : RFn0 Tryz.prog 81 h [.ptr p 0 0 0] (fun d => d = u64 (match L.head? with | some x => min x.ka never | none => never)) := by
  have T0 := T
  obtain ⟨a, m, t, c, es, T⟩ := T
  obtain ⟨ho, ha, is, hl, hs, hm, mp⟩ := T
  have ha0 := ha
  cases hL : L with
  | nil =>
    have d0 : ((L.length : Int) == 0) = true := by simp [hL]
    refine RFn0_hx cx_ok 200 Tryz.func81 rfl Tryz.ntmps81 Tryz.results81 rfl fun base w pl F hF hFl hb => ?_
    rw [← hF] at ho ha
    have ho_l := hlt ho
    have ha_l := hlt ha
    simp only [go_sem, simprocAttr, hgetA, hgetL, hgetLk, hsetA, hsetL, hsetLk, List.length_append, List.length_set, List.append_assoc, List.set_set, ho, ho_l, ha, ha_l]
    refine kont_callR0 hb fn141 rfl ?_ (elen_ok (T0.more (ro_same hF))) rfl fun d hR => ?_
    · simp only [go_sem, simprocAttr, hgetA, hgetL, hgetLk, hsetA, hsetL, hsetLk, List.length_append, List.length_set, List.append_assoc, List.set_set, ho, ho_l, d0]
    subst hR
    refine kont_of_hx cx_ok hb 200 ?_
    simp only [go_sem, simprocAttr, hgetA, hgetL, hgetLk, hsetA, hsetL, hsetLk, List.length_append, List.length_set, List.append_assoc, List.set_set, ho, ho_l, d0]
    exact ⟨[], by simp [never]⟩
  | cons x M =>
    have d0 : ((L.length : Int) == 0) = false := by simp [hL]; omega
    refine RFn0_hx cx_ok 200 Tryz.func81 rfl Tryz.ntmps81 Tryz.results81 rfl fun base w pl F hF hFl hb => ?_
    rw [← hF] at ho ha
    have ho_l := hlt ho
    have ha_l := hlt ha
    simp only [go_sem, simprocAttr, hgetA, hgetL, hgetLk, hsetA, hsetL, hsetLk, List.length_append, List.length_set, List.append_assoc, List.set_set, ho, ho_l, ha, ha_l]
    refine kont_callR0 hb fn141 rfl ?_ (elen_ok (T0.more (ro_same hF))) rfl fun d hR => ?_
    · simp only [go_sem, simprocAttr, hgetA, hgetL, hgetLk, hsetA, hsetL, hsetLk, List.length_append, List.length_set, List.append_assoc, List.set_set, ho, ho_l, d0]
    subst hR
    refine kont_of_hx cx_ok hb 200 ?_
    simp only [go_sem, simprocAttr, hgetA, hgetL, hgetLk, hsetA, hsetL, hsetLk, List.length_append, List.length_set, List.append_assoc, List.set_set, ho, ho_l, d0]
    refine kont_of_hx cx_ok hb 200 ?_
    simp only [go_sem, simprocAttr, hgetA, hgetL, hgetLk, hsetA, hsetL, hsetLk, List.length_append, List.length_set, List.append_assoc, List.set_set, ho, ho_l]
    refine kont_callR0 hb fn142 rfl ?_ (aleast_ok (ro_same hF _ _ ha0) (is.more (ro_same hF))) rfl fun d hR => ?_
    · simp only [go_sem, simprocAttr, hgetA, hgetL, hgetLk, hsetA, hsetL, hsetLk, List.length_append, List.length_set, List.append_assoc, List.set_set, ho, ho_l]
    subst hR
    refine kont_of_hx cx_ok hb 200 ?_
    simp only [go_sem, simprocAttr, hgetA, hgetL, hgetLk, hsetA, hsetL, hsetLk, List.length_append, List.length_set, List.append_assoc, List.set_set, ho, ho_l]
    refine ⟨_, rfl, ?_⟩
    rw [hl, hL]
    congr 2
    show min (x.ka : Int) 9223372036854775808 = ((min x.ka never : Nat) : Int)
    simp only [never]
    omega
end
theorem eset_ok {S : Nat → Prop} {h : List Ob} {p : Nat} {L : List It} (T : TabIs S h p L) (id : Int) (vt fit : Nat) (hs : L.length < 400000) :
    MFn Tryz.prog 112 h [.ptr p 0 0 0, dint id, u64 vt, u64 fit] (fun d h' => TabIs (more S h) h' p (setI id vt fit L) ∧ Step S h h') := by
  have T0 := T
  obtain ⟨a, m, t, c, es, T⟩ := T
  have ho := T.o
  refine MFn_hx cx_ok 200 Tryz.func112 rfl Tryz.ntmps112 Tryz.results112 rfl fun base w pl hb => ?_
  have ho_l := hlt ho
  simp only [go_sem, simprocAttr, hgetA, hgetL, hgetLk, hsetA, hsetL, hsetLk, List.length_append, List.length_set, List.append_assoc, List.set_set, ho, ho_l]
  refine kont_callH hb fn113 rfl ?_ (edrop_ok T0 id hs) rfl fun d h2 hR => ?_
  · simp only [go_sem, simprocAttr]
  obtain ⟨rfl, T2, s2⟩ := hR
  obtain ⟨a, m, t, c, es, T⟩ := T2
  have ho := T.o
  have hmo := T.mo
  have ha := T.av.o
  have ho_l := hlt ho
  have hmo_l := hlt hmo
  have hrm : rmI id (rmI id L) = rmI id L := by unfold rmI; rw [List.filter_filter]; simp
  obtain ⟨c', es', e1, M'⟩ := T.mp.set .i64 c id (.agg (It.mk vt id fit id).cells)
  have e2 : mset .i64 c es id (.agg [.raw (.int .u64 vt), .raw (.int .i64 id), .raw (.int .u64 fit), .raw (.int .i64 id)]) = mapOb .i64 c' es' := e1
  refine kont_of_hx cx_ok hb 200 ?_
  simp only [go_sem, simprocAttr, hgetA, hgetL, hgetLk, hsetA, hsetL, hsetLk, List.length_append, List.length_set, List.append_assoc, List.set_set, ho, ho_l, hmo, hmo_l]
  refine kont_hax cx_ok hb 200 mixed [(0, true), (1, true), (2, true), (3, true), (4, true), (5, true), (6, false)] (by kernel_rfl) (by kernel_rfl) ?_
  simp only [go_sem, simprocAttr, hgetA, hgetL, hgetLk, hsetA, hsetL, hsetLk, List.length_append, List.length_set, List.append_assoc, List.set_set, ho, ho_l, hmo, hmo_l]
  simp only [e2]
  refine kont_haxNC [8] cx_ok hb 200 mixed [(0, true), (1, true), (2, true), (3, true), (4, true), (5, true), (6, true), (7, true), (8, false), (9, true)] [] (by kernel_rfl) (by kernel_rfl) ?_
  simp only [go_sem, simprocAttr, hgetA, hgetL, hgetLk, hsetA, hsetL, hsetLk, List.length_append, List.length_set, List.append_assoc, List.set_set, ho, ho_l, hmo, hmo_l, hgetN (Ne.symm T.pm)]
  refine AX_callH hb fn163 rfl ?_ (insert_ok (tl := a) (t := t) (L := rmI id L) ((T.av.set _ (Ne.symm T.am) T.mt).app _) ⟨vt, id, fit, id⟩ (rm_find L vt id) (by have := rm_len id L; omega)) rfl fun d h8 hR => ?_
  · simp only [go_sem, simprocAttr]
  obtain ⟨rfl, t'', A8⟩ := hR
  refine AX_of_hax cx_ok hb ?_
  simp only [go_sem, simprocAttr, hgetA, hgetL, hgetLk, hsetA, hsetL, hsetLk, List.length_append, List.length_set, List.append_assoc, List.set_set]
  have hset : setI id vt fit (rmI id L) = setI id vt fit L := by unfold setI; rw [hrm]
  have hD := T.done (H := h2 ++ _) (h8 := h8) (t'' := t'') (Step.app _ h2 _) ((hgetA ho_l).trans ho) (by simp; omega) (hsetA hmo_l).symm T.mt T.pt (fun l hl => .inl (T.st l hl)) M' (by rw [hset]; exact A8)
  rw [hset] at hD
  have hl2 := s2.len
  exact ⟨hD.1.mono fun l hl => hl.elim (fun h3 => h3) fun h3 => .inr (by omega), s2.trans hD.2⟩
end Go.Fg.X
namespace Go.Fg
set_option linter.unusedSimpArgs false
set_option linter.unusedVariables false
open Go.RowKit (Below)
section
variable {P : Program} {L : Lay} {base nt : Nat} {s : St} {o : Oper} {t : TypeId} {x i : Operand}
theorem insert_ok (hL : LayOk P L) {v : Operand} (ho : o.op = .insert t x i v) {p : Prop} {h' : List Ob} (h : pupd L s.h t (evalO s.fr x) (evalO s.fr i) (evalO s.fr v) = some (p, h')) (hp : p) : ∀ (Z : Nat → Prop) pl a w, Rel Z base nt s pl a w → base ≤ w.heap.size → ∃ v w' pl', ((execOp a.eval o).run P w = .ok (.value v) w' ∨ ((execOp a.eval o).run P w = .ok .skip w' ∧ v = Go.undef)) ∧ Tr s.h pl w h' pl' w' ∧ RelO Z base h' pl' w' ∧ RelV Z h' pl' w' .undef v ∧ Below base w w' ∧ ExtC w w' := by
  have h1 := upd_okC (P := P) (base := base) (nt := nt) (o := ⟨o.dst, .mapUpdate t x i v, o.type, o.pos, o.after, o.guard⟩) hL rfl h hp
  intro Z pl a w r hb
  obtain ⟨u, w', pl', h2, h3⟩ := h1 Z pl a w r hb
  have e : execOp a.eval ⟨o.dst, .mapUpdate t x i v, o.type, o.pos, o.after, o.guard⟩ = execOp a.eval o := by simp [execOp, ho]
  rw [e] at h2
  exact ⟨u, w', pl', h2, h3⟩
end
section
variable {P : Program} {base nt : Nat} {w0 : Start} {Q : Exit → St → Prop} {k : List Item} {s : St} {X : Cx}
theorem AX_insert {L : Lay} (hL : LayOk P L) (hbase : base ≤ w0.w.heap.size) {K : St → Prop} {ty : TypeId} {pos : String} {after : Array Edge} {gd : Option (Nat × Bool)} {r : List (Bool × Oper × G)} {t : TypeId} {x i v : Operand} {p : Prop} {h' : List Ob}
    (h : pupd L s.h t (evalO s.fr x) (evalO s.fr i) (evalO s.fr v) = some (p, h')) (hp : p) (hk : AX P base nt w0 K r ⟨s.fr, h'⟩) : AX P base nt w0 K ((false, ⟨none, .insert t x i v, ty, pos, after, gd⟩, none) :: r) s := by
  simp only [AX, AXo, lateT]
  intro Z z pl a w rr b
  obtain ⟨u, w', pl', hrun, hT, hO, hv, hb, hC⟩ := insert_ok (P := P) (base := base) (nt := nt) (o := ⟨none, .insert t x i v, ty, pos, after, gd⟩) hL rfl h hp Z pl a w rr (Nat.le_trans hbase b.1.size)
  unfold Oper.wp
  rcases hrun with hrun | ⟨hrun, hu⟩
  · rw [hrun]
    simp only [Oper.upon_value]
    exact ⟨hC, .undef, _, pl', u, hk, rr.to' hT hO u, b.step hT hb, hT, rfl⟩
  · rw [hrun]
    simp only [Oper.upon_skip]
    exact ⟨hC, .undef, _, pl', _, hk, rr.to' hT hO _, b.step hT hb, hT, rfl⟩
theorem AX_insertM {L : Lay} (hL : LayOk P L) (hbase : base ≤ w0.w.heap.size) {K : St → Prop} {ty0 : TypeId} {pos : String} {after : Array Edge} {gd : Option (Nat × Bool)} {r : List (Bool × Oper × G)} {t kt et a b a' b' : Nat} {zt zt' : List Value} {x i v : Operand} {q : IntKind} {l c : Nat} {es : List Ent} {n : Int}
    (ht : ty L t = some ⟨.map kt et, a, b, zt⟩) (hkt : ty L kt = some ⟨.int q, a', b', zt'⟩) (hx : evalO s.fr x = .mref l 0) (hi : evalO s.fr i = .raw (.int q n)) (ho : s.h[l]? = some (mapOb q c es))
    (hk : AX P base nt w0 K r ⟨s.fr, s.h.set l (mset q c es n (evalO s.fr v))⟩) : AX P base nt w0 K ((false, ⟨none, .insert t x i v, ty0, pos, after, gd⟩, none) :: r) s := by
  refine AX_insert hL hbase (h' := s.h.set l (mset q c es n (evalO s.fr v))) (p := IsMap q (mapOb q c es) ∧ q = q ∧ 0 = 0 ∧ (mapOb q c es).kd.ro = false) ?_ ⟨?_, rfl, rfl, rfl⟩ hk
  · rw [hx, hi]
    simp only [pupd, ht, hkt, ho]
    rw [clockOf_map, entsOf_map]
  · exact (IsMap_map q c es).mpr trivial
theorem kont_haxFJ (s1 : St) {id : Nat} {ops : Array Oper} (hX : CxOk P X) (hb : base ≤ w0.w.heap.size) (hm : P.follows .mixedOrders = true) (l : List (Nat × Bool)) (R : List Nat) (hB : orderF [] X.L ops l R = true) (hU : undB ops s.fr = true)
    (hfin : ∀ s, Weak w0 s s1 → kont P base nt w0 Q k .normal s) (h : hax P base w0 X nt (hxF P base w0 X nt (fun s => Weak w0 s s1) R.length (pickR [] ops R) (l.map (·.1))) (pickO [] ops l) s) : kont P base nt w0 Q (.code (.region id ops true) :: k) .normal s := by
  have hR : R.Nodup := by
    simp only [orderF, Bool.and_eq_true] at hB
    exact (leftB_ok hB.1.2).1
  exact kont_anyF hX.L hb hm l R hB hU (AX.mono (fun s hs => hxF_ok hX hb (fun s hs => hfin s hs) _ _ _ s hR hs) _ _ (haxK_ok hX hb _ _ h))
end
section
variable {P : Program} {L : Lay} {base nt : Nat} {w0 : Start} {Q : Exit → St → Prop}
theorem app_nn_ok (hL : LayOk P L) {s : St} {o : Oper} {t e : TypeId} {x0 x : Operand} {a b : Nat} {zt : List Value} {y : Ty} (ho : o.op = .call ⟨.builtin .append, #[x0, x], #[t, t]⟩) (hx0 : evalO s.fr x0 = .nil) (hx : evalO s.fr x = .nil) (ht : ty L t = some ⟨.slice e, a, b, zt⟩) (hye : ty L e = some y) : PureOk P base nt o s .nil := by
  intro Z pl ac w r
  have h0 := r.eval x0
  have h1 := r.eval x
  rw [hx0] at h0
  rw [hx] at h1
  obtain ⟨a0, e0⟩ := inv_nil h0
  obtain ⟨a1, e1⟩ := inv_nil h1
  refine ⟨.slice a0 0 0, .cl _ _ (.nil _), fun w' _ => ?_⟩
  rw [run_builtin ho]
  have : (Array.map ac.eval #[x0, x]) = #[.slice a0 0 0, .slice a1 0 0] := by simp [e0, e1]
  rw [this]
  have := run_append_none (ty := o.type) (under_slice (hL _ _ ht) rfl) (hL _ _ hye) w' a0 a1 0
  simp only [builtin, Sem.run_bind, this, Result.andThen_ok, Sem.run_pure]
theorem kont_app_nn (hL : LayOk P L) {k : List Item} {dst : Option Nat} {tyd : TypeId} {pos : String} {after : Array Edge} {gd : Option (Nat × Bool)} {r : List (Oper × G)} {s : St} {t e a b : Nat} {x0 x : Operand} {zt : List Value} {y : Ty}
    (hx0 : evalO s.fr x0 = .nil) (hx : evalO s.fr x = .nil) (ht : ty L t = some ⟨.slice e, a, b, zt⟩) (hye : ty L e = some y) (hd : okO nt dst = true) (h3 : kont P base nt w0 Q (.ops r :: k) .normal ⟨putO s.fr dst .nil, s.h⟩) :
    kont P base nt w0 Q (.ops ((⟨dst, .call ⟨.builtin .append, #[x0, x], #[t, t]⟩, tyd, pos, after, gd⟩, none) :: r) :: k) .normal s := by
  simp only [kont] at h3 ⊢
  exact AG_pure (app_nn_ok hL rfl hx0 hx ht hye) hd h3
end
end Go.Fg
/- A scheduler without classes: how it is made. No conditions. -/
namespace Go.Fg.X
open Go.Proofs Go.Fg
set_option maxRecDepth 100000
set_option maxHeartbeats 4000000
set_option linter.unusedSimpArgs false
set_option linter.unusedVariables false
section
variable (h : List Ob) (t m c : Nat) {es : List Ent} {L : List Kls} (T : TreeIs es L) (hlen : L.length < 1000000)
  (ht : (h.map Ob.ro)[t]? = some ⟨.rone, 0, 1, 1, fun _ => [.mref m 0]⟩) (hm : (h.map Ob.ro)[m]? = some (mapOb .i64 c es).ro)
include T ht hm hlen
theorem hids_ok : RFn Tryz.prog 21 h [.ptr t 0 0 0] (fun d g => SlcH h.length (h ++ g) d (L.map (·.iD))) := by
  refine RFn_hx cx_ok 200 Tryz.func21 rfl Tryz.ntmps21 Tryz.results21 rfl fun base w pl F hF hFl hb => ?_
  rw [← hF] at ht hm
  have ht_l := hlt ht
  have hm_l := hlt hm
  simp only [go_sem, simprocAttr, hgetA, hgetL, hgetLk, hsetA, hsetL, hsetLk, List.length_append, List.length_set, List.append_assoc, List.set_set, ht, ht_l, hm, hm_l]
  have hT : Tells (F.map Ob.ro) 76 0 [] (fun x => true) := fun h' x hx' => by
    refine RFn0_hx cx_ok 200 Tryz.func76 rfl Tryz.ntmps76 Tryz.results76 rfl fun base w pl F hF hFl hb => ?_
    simp only [go_sem, simprocAttr, hgetA, hgetL, hgetLk, hsetA, hsetL, hsetLk, List.length_append, List.length_set, List.append_assoc, List.set_set]
    exact ⟨_, rfl⟩
  refine kont_callR hb fn75 rfl ?_ (hwhich_ok _ t m c T hlen (ro_get ht) (roro_get hm) (.raw (.func (.func 76) ⟨[]⟩ ⟨[]⟩)) 76 0 [] fn76 rfl _ hT) rfl fun d g hs => ?_
  · simp only [go_sem, simprocAttr]
  refine kont_of_hx cx_ok hb 200 ?_
  simp only [go_sem, simprocAttr, hgetA, hgetL, hgetLk, hsetA, hsetL, hsetLk, List.length_append, List.length_set, List.append_assoc, List.set_set]
  rw [show L.filter (fun x => true) = L from List.filter_eq_self.2 fun _ _ => rfl] at hs
  exact SlcH.done hFl ⟨_, rfl⟩ hs
end
theorem active0_ok (h : List Ob) (t m c : Nat) (ht : h[t]? = some ⟨.one, 0, 1, 1, fun _ => [.mref m 0]⟩) (hm : h[m]? = some (mapOb .i64 c [])) :
    MFn Tryz.prog 51 h [.ptr t 0 0 0] (fun d h' => ∃ g k, h' = h ++ g ∧ d = .ptr k 0 0 0) := by
  refine MFn_hx cx_ok 200 Tryz.func51 rfl Tryz.ntmps51 Tryz.results51 rfl fun base w pl hb => ?_
  have ht_l := hlt ht
  have hm_l := hlt hm
  simp only [go_sem, simprocAttr, hgetA, hgetL, hgetLk, hsetA, hsetL, hsetLk, List.length_append, List.length_set, List.append_assoc, List.set_set, ht, ht_l, hm, hm_l]
  refine kont_callR hb fn21 rfl ?_ (hids_ok _ t m c TreeIs.nil (by decide) (ro_app ht) (ro_app hm)) rfl fun d g hs => ?_
  · simp only [go_sem, simprocAttr]
  rcases hs with ⟨rfl, _⟩ | ⟨lo, gn, off, row, rfl, hlo, ho, hr⟩
  · refine kont_of_hx cx_ok hb 200 ?_
    simp only [go_sem, simprocAttr, hgetA, hgetL, hgetLk, hsetA, hsetL, hsetLk, List.length_append, List.length_set, List.append_assoc, List.set_set]
    refine kont_turns 0 ?_
    refine kont_of_hx cx_ok hb 200 ?_
    simp only [go_sem, simprocAttr, hgetA, hgetL, hgetLk, hsetA, hsetL, hsetLk, List.length_append, List.length_set, List.append_assoc, List.set_set]
    refine kont_of_hx cx_ok hb 200 ?_
    simp only [go_sem, simprocAttr, hgetA, hgetL, hgetLk, hsetA, hsetL, hsetLk, List.length_append, List.length_set, List.append_assoc, List.set_set]
    exact ⟨_, _, rfl, rfl⟩
  · refine kont_of_hx cx_ok hb 200 ?_
    simp only [go_sem, simprocAttr, hgetA, hgetL, hgetLk, hsetA, hsetL, hsetLk, List.length_append, List.length_set, List.append_assoc, List.set_set]
    refine kont_turns 0 ?_
    refine kont_of_hx cx_ok hb 200 ?_
    simp only [go_sem, simprocAttr, hgetA, hgetL, hgetLk, hsetA, hsetL, hsetLk, List.length_append, List.length_set, List.append_assoc, List.set_set]
    refine kont_of_hx cx_ok hb 200 ?_
    simp only [go_sem, simprocAttr, hgetA, hgetL, hgetLk, hsetA, hsetL, hsetLk, List.length_append, List.length_set, List.append_assoc, List.set_set]
    exact ⟨_, _, rfl, rfl⟩
theorem anewR_ok (h : List Ob) : RFn Tryz.prog 100 h [] (fun d g => d = .ptr h.length 0 0 0 ∧ g = [rootO .nil]) := by
  refine RFn_hx cx_ok 200 Tryz.func100 rfl Tryz.ntmps100 Tryz.results100 rfl fun base w pl F hF hFl hb => ?_
  simp only [go_sem, simprocAttr, hgetA, hgetL, hgetLk, hsetA, hsetL, hsetLk, List.length_append, List.length_set, List.append_assoc, List.set_set]
  exact ⟨_, rfl, by rw [hFl], rfl⟩
theorem hnewR_ok (h : List Ob) : RFn Tryz.prog 48 h [] (fun d g => d = .ptr (h.length + 1) 0 0 0 ∧ g = [mapOb .i64 0 [], ⟨.one, 0, 1, 1, fun _ => [.mref h.length 0]⟩]) := by
  refine RFn_hx cx_ok 200 Tryz.func48 rfl Tryz.ntmps48 Tryz.results48 rfl fun base w pl F hF hFl hb => ?_
  simp only [go_sem, simprocAttr, hgetA, hgetL, hgetLk, hsetA, hsetL, hsetLk, List.length_append, List.length_set, List.append_assoc, List.set_set]
  exact ⟨_, rfl, by rw [hFl], by rw [hFl]⟩
theorem vnewR_ok (h : List Ob) : RFn Tryz.prog 50 h [] (fun d g => d = .ptr (h.length + 2) 0 0 0 ∧ g = [rootO .nil, mapOb .i64 0 [], tabO h.length (h.length + 1)]) := by
  refine RFn_hx cx_ok 200 Tryz.func50 rfl Tryz.ntmps50 Tryz.results50 rfl fun base w pl F hF hFl hb => ?_
  simp only [go_sem, simprocAttr, hgetA, hgetL, hgetLk, hsetA, hsetL, hsetLk, List.length_append, List.length_set, List.append_assoc, List.set_set]
  refine kont_callR hb fn100 rfl ?_ (anewR_ok F) rfl fun d h hR => ?_
  · simp only [go_sem, simprocAttr, hgetA, hgetL, hgetLk, hsetA, hsetL, hsetLk, List.length_append, List.length_set, List.append_assoc, List.set_set]
  obtain ⟨rfl, rfl⟩ := hR
  refine kont_of_hx cx_ok hb 200 ?_
  simp only [go_sem, simprocAttr, hgetA, hgetL, hgetLk, hsetA, hsetL, hsetLk, List.length_append, List.length_set, List.append_assoc, List.set_set]
  exact ⟨_, rfl, by rw [hFl], by rw [hFl]⟩
theorem enewR_ok (h : List Ob) : RFn Tryz.prog 49 h [] (fun d g => d = .ptr (h.length + 2) 0 0 0 ∧ g = [rootO .nil, mapOb .i64 0 [], tabO h.length (h.length + 1)]) := by
  refine RFn_hx cx_ok 200 Tryz.func49 rfl Tryz.ntmps49 Tryz.results49 rfl fun base w pl F hF hFl hb => ?_
  simp only [go_sem, simprocAttr, hgetA, hgetL, hgetLk, hsetA, hsetL, hsetLk, List.length_append, List.length_set, List.append_assoc, List.set_set]
  refine kont_callR hb fn100 rfl ?_ (anewR_ok F) rfl fun d h hR => ?_
  · simp only [go_sem, simprocAttr, hgetA, hgetL, hgetLk, hsetA, hsetL, hsetLk, List.length_append, List.length_set, List.append_assoc, List.set_set]
  obtain ⟨rfl, rfl⟩ := hR
  refine kont_of_hx cx_ok hb 200 ?_
  simp only [go_sem, simprocAttr, hgetA, hgetL, hgetLk, hsetA, hsetL, hsetLk, List.length_append, List.length_set, List.append_assoc, List.set_set]
  exact ⟨_, rfl, by rw [hFl], by rw [hFl]⟩
theorem coreNew_ok (h : List Ob) (t l : Int) (h1 : 1 ≤ t) (h2 : t ≤ 65536) (h3 : 1 ≤ l) (h4 : l ≤ 16384) :
    MFn Tryz.prog 13 h [.agg [dint t, dint l]] (fun d h' => ∃ g k, h' = h ++ g ∧ d = .tup [.ptr k 0 0 0, dint 0]) := by
  have d1 : decide (t < 1) = false := decide_eq_false (by omega)
  have d2 : decide (65536 < t) = false := decide_eq_false (by omega)
  have d3 : decide (l < 1) = false := decide_eq_false (by omega)
  have d4 : decide (16384 < l) = false := decide_eq_false (by omega)
  refine MFn_hx cx_ok 200 Tryz.func13 rfl Tryz.ntmps13 Tryz.results13 rfl fun base w pl hb => ?_
  simp only [go_sem, simprocAttr, hgetA, hgetL, hgetLk, hsetA, hsetL, hsetLk, List.length_append, List.length_set, List.append_assoc, List.set_set, d1, d2, d3, d4]
  refine kont_hax cx_ok hb 200 mixed [(0, true), (1, false), (3, false), (5, false), (4, false), (6, false), (7, true), (2, false), (8, true), (9, false), (10, true)] (by kernel_rfl) (by kernel_rfl) ?_
  simp only [go_sem, simprocAttr, hgetA, hgetL, hgetLk, hsetA, hsetL, hsetLk, List.length_append, List.length_set, List.append_assoc, List.set_set]
  refine AX_callR hb fn48 rfl ?_ (hnewR_ok _) rfl fun d h hR => ?_
  · simp only [go_sem, simprocAttr, hgetA, hgetL, hgetLk, hsetA, hsetL, hsetLk, List.length_append, List.length_set, List.append_assoc, List.set_set]
  obtain ⟨rfl, rfl⟩ := hR
  refine AX_of_hax cx_ok hb ?_
  simp only [go_sem, simprocAttr, hgetA, hgetL, hgetLk, hsetA, hsetL, hsetLk, List.length_append, List.length_set, List.append_assoc, List.set_set]
  refine AX_callR hb fn49 rfl ?_ (enewR_ok _) rfl fun d h hR => ?_
  · simp only [go_sem, simprocAttr, hgetA, hgetL, hgetLk, hsetA, hsetL, hsetLk, List.length_append, List.length_set, List.append_assoc, List.set_set]
  obtain ⟨rfl, rfl⟩ := hR
  refine AX_of_hax cx_ok hb ?_
  simp only [go_sem, simprocAttr, hgetA, hgetL, hgetLk, hsetA, hsetL, hsetLk, List.length_append, List.length_set, List.append_assoc, List.set_set]
  refine AX_callR hb fn50 rfl ?_ (vnewR_ok _) rfl fun d h hR => ?_
  · simp only [go_sem, simprocAttr, hgetA, hgetL, hgetLk, hsetA, hsetL, hsetLk, List.length_append, List.length_set, List.append_assoc, List.set_set]
  obtain ⟨rfl, rfl⟩ := hR
  refine AX_of_hax cx_ok hb ?_
  simp only [go_sem, simprocAttr, hgetA, hgetL, hgetLk, hsetA, hsetL, hsetLk, List.length_append, List.length_set, List.append_assoc, List.set_set]
  refine AX_insertM lay_ok hb rfl rfl rfl rfl (hgetLk (k := 9) rfl) ?_
  refine AX_of_hax cx_ok hb ?_
  simp only [go_sem, simprocAttr, hgetA, hgetL, hgetLk, hsetA, hsetL, hsetLk, List.length_append, List.length_set, List.append_assoc, List.set_set]
  have hw : ∀ (A B : List Ob) (x : Ob) (i : Nat), A = B → (h ++ A)[h.length + i]? = some x → (h ++ B)[h.length + i]? = some x := fun A B x i e hx => e ▸ hx
  obtain ⟨G, hG⟩ : ∃ G : List Ob, G = [⟨.one, 0, 2, 1, fun _ => [dint t, dint l]⟩, mapOb .i64 0 [], ⟨.one, 0, 1, 1, fun _ => [.mref (h.length + 1) 0]⟩, rootO .nil, mapOb .i64 0 [], tabO (h.length + 3) (h.length + 3 + 1), rootO .nil, mapOb .i64 0 [], tabO (h.length + 6) (h.length + 6 + 1), mset .i64 0 [] 0 (.ptr (h.length + 6 + 2) 0 0 0), mapOb .i64 0 [], ⟨.one, 0, 9, 1, fun _ => [dint t, dint l, .ptr (h.length + 1 + 1) 0 0 0, .mref (h.length + 10) 0, .raw (.pointer none), .ptr (h.length + 3 + 2) 0 0 0, .mref (h.length + 9) 0, u64 0, u64 0]⟩] := ⟨_, rfl⟩
  have ht : (h ++ G)[h.length + 1 + 1]? = some ⟨.one, 0, 1, 1, fun _ => [.mref (h.length + 1) 0]⟩ := by rw [hG]; exact hgetLk (k := 2) rfl
  have hm : (h ++ G)[h.length + 1]? = some (mapOb .i64 0 []) := by rw [hG]; exact hgetLk (k := 1) rfl
  have hs : (h ++ G)[h.length + 11]? = some ⟨.one, 0, 9, 1, fun _ => [dint t, dint l, .ptr (h.length + 1 + 1) 0 0 0, .mref (h.length + 10) 0, .raw (.pointer none), .ptr (h.length + 3 + 2) 0 0 0, .mref (h.length + 9) 0, u64 0, u64 0]⟩ := by rw [hG]; exact hgetLk (k := 11) rfl
  have hs_l := hlt hs
  have ha := active0_ok (h ++ G) _ _ _ ht hm
  rw [hG] at ha
  refine kont_callH hb fn51 rfl ?_ ha rfl fun d h' hR => ?_
  · simp only [go_sem, simprocAttr, hgetA, hgetL, hgetLk, hsetA, hsetL, hsetLk, List.length_append, List.length_set, List.append_assoc, List.set_set]
  rw [← hG] at hR
  obtain ⟨g, k, rfl, rfl⟩ := hR
  refine kont_of_hx cx_ok hb 200 ?_
  have hs2 : ((h ++ G) ++ g)[h.length + 11]? = _ := (hgetA hs_l).trans hs
  have hs2_l := hlt hs2
  simp only [go_sem, simprocAttr, hs2, hs2_l]
  obtain ⟨g2, h2⟩ := (((ExtF.refl h).app G).app g).set (lo := h.length + 11) (by omega) ⟨.one, 0, 9, 1, fun _ => [dint t, dint l, .ptr (h.length + 1 + 1) 0 0 0, .mref (h.length + 10) 0, .ptr k 0 0 0, .ptr (h.length + 3 + 2) 0 0 0, .mref (h.length + 9) 0, u64 0, u64 0]⟩
  exact ⟨g2, _, h2, rfl⟩
theorem linkNew_ok (h : List Ob) (t : Int) (h1 : 1 ≤ t) (h2 : t ≤ 65536) : MFn Tryz.prog 193 h [dint t] (fun d h' => ∃ g k, h' = h ++ g ∧ d = .tup [.ptr k 0 0 0, dint 0]) := by
  have d1 : decide (t < 1) = false := decide_eq_false (by omega)
  have d2 : decide (65536 < t) = false := decide_eq_false (by omega)
  refine MFn_hx cx_ok 200 Tryz.func193 rfl Tryz.ntmps193 Tryz.results193 rfl fun base w pl hb => ?_
  simp only [go_sem, simprocAttr, hgetA, hgetL, hgetLk, hsetA, hsetL, hsetLk, List.length_append, List.length_set, List.append_assoc, List.set_set, d1, d2]
  exact ⟨_, _, rfl, rfl⟩
theorem statsNew_ok (h : List Ob) : MFn Tryz.prog 194 h [] (fun d h' => ∃ g k, h' = h ++ g ∧ d = .ptr k 0 0 0) := by
  refine MFn_hx cx_ok 200 Tryz.func194 rfl Tryz.ntmps194 Tryz.results194 rfl fun base w pl hb => ?_
  simp only [go_sem, simprocAttr, hgetA, hgetL, hgetLk, hsetA, hsetL, hsetLk, List.length_append, List.length_set, List.append_assoc, List.set_set]
  exact ⟨_, _, rfl, rfl⟩
theorem cloneR_ok (h : List Ob) (l : List Rul) (hl : l.length < 1000000) : MFn Tryz.prog 147 h [.imm 9 l.length (Rul.rows l)] (fun d h' => (l = [] ∧ d = .nil ∧ h' = h) ∨ (∃ g row, d = .ref h.length g 0 l.length ∧ h' = h ++ [⟨.arr, g, 9, l.length, row⟩] ∧ ∀ i, i < l.length → row i = (l.getD i default).cells)) := by
  refine MFn_hx cx_ok 200 Tryz.func147 rfl Tryz.ntmps147 Tryz.results147 rfl fun base w pl hb => ?_
  simp only [go_sem, simprocAttr, hgetA, hgetL, hgetLk, hsetA, hsetL, hsetLk, List.length_append, List.length_set, List.append_assoc, List.set_set]
  refine kont_eqNil lay_ok (by simp only [go_sem, simprocAttr]; rfl) rfl rfl fun b hb0 => ?_
  cases b with
  | true =>
    have h0 := hb0 rfl
    simp only [go_sem, simprocAttr, lenI] at h0
    refine kont_of_hx cx_ok hb 200 ?_
    simp only [go_sem, simprocAttr, hgetA, hgetL, hgetLk, hsetA, hsetL, hsetLk, List.length_append, List.length_set, List.append_assoc, List.set_set]
    exact .inl (List.length_eq_zero_iff.1 h0)
  | false =>
    refine kont_of_hx cx_ok hb 200 ?_
    simp only [go_sem, simprocAttr, hgetA, hgetL, hgetLk, hsetA, hsetL, hsetLk, List.length_append, List.length_set, List.append_assoc, List.set_set]
    refine ⟨by omega, .inr ⟨_, _, rfl, rfl, fun i hi => ?_⟩⟩
    rw [appRow_ge (Nat.zero_le _)]; rfl
theorem cloneR0_ok (h : List Ob) : MFn Tryz.prog 147 h [.nil] (fun d h' => ([] = ([] : List Rul) ∧ d = .nil ∧ h' = h) ∨ (∃ g row, d = .ref h.length g 0 0 ∧ h' = h ++ [⟨.arr, g, 9, 0, row⟩] ∧ ∀ i, i < ([] : List Rul).length → row i = (([] : List Rul).getD i default).cells)) :=
  MFn.tellArgs (cloneR_ok h [] (by decide)) ⟨rfl, trivial⟩
theorem matchNew_ok (h : List Ob) : MFn Tryz.prog 91 h [.nil] (fun d h' => ∃ g k, h' = h ++ g ∧ d = .tup [.ptr k 0 0 0, dint 0]) := by
  refine MFn_hx cx_ok 200 Tryz.func91 rfl Tryz.ntmps91 Tryz.results91 rfl fun base w pl hb => ?_
  simp only [go_sem, simprocAttr, hgetA, hgetL, hgetLk, hsetA, hsetL, hsetLk, List.length_append, List.length_set, List.append_assoc, List.set_set]
  refine kont_callH hb fn147 rfl ?_ (cloneR0_ok _) rfl fun d h hR => ?_
  · simp only [go_sem, simprocAttr, hgetA, hgetL, hgetLk, hsetA, hsetL, hsetLk, List.length_append, List.length_set, List.append_assoc, List.set_set]
  obtain (⟨_, rfl, rfl⟩ | ⟨g, row, rfl, rfl, _⟩) := hR
  refine kont_of_hx cx_ok hb 200 ?_
  simp only [go_sem, simprocAttr, hgetA, hgetL, hgetLk, hsetA, hsetL, hsetLk, List.length_append, List.length_set, List.append_assoc, List.set_set]
  · refine kont_turns 0 ?_
    refine kont_of_hx cx_ok hb 200 ?_
    simp only [go_sem, simprocAttr, hgetA, hgetL, hgetLk, hsetA, hsetL, hsetLk, List.length_append, List.length_set, List.append_assoc, List.set_set]
    refine kont_of_hx cx_ok hb 200 ?_
    simp only [go_sem, simprocAttr, hgetA, hgetL, hgetLk, hsetA, hsetL, hsetLk, List.length_append, List.length_set, List.append_assoc, List.set_set]
    exact ⟨_, _, rfl, rfl⟩
  · refine kont_of_hx cx_ok hb 200 ?_
    simp only [go_sem, simprocAttr, hgetA, hgetL, hgetLk, hsetA, hsetL, hsetLk, List.length_append, List.length_set, List.append_assoc, List.set_set]
    refine kont_turns 0 ?_
    refine kont_of_hx cx_ok hb 200 ?_
    simp only [go_sem, simprocAttr, hgetA, hgetL, hgetLk, hsetA, hsetL, hsetLk, List.length_append, List.length_set, List.append_assoc, List.set_set]
    refine kont_of_hx cx_ok hb 200 ?_
    simp only [go_sem, simprocAttr, hgetA, hgetL, hgetLk, hsetA, hsetL, hsetLk, List.length_append, List.length_set, List.append_assoc, List.set_set]
    exact ⟨_, _, rfl, rfl⟩
theorem topNew_ok (h : List Ob) (t l : Int) (h1 : 1 ≤ t) (h2 : t ≤ 65536) (h3 : 1 ≤ l) (h4 : l ≤ 16384) :
    MFn Tryz.prog 155 h [.agg [dint t, dint l]] (fun d h' => ∃ k a b c e, d = .tup [.ptr k 0 0 0, dint 0] ∧ h.length ≤ k ∧ (∃ G, h' = h ++ G) ∧ h'[k]? = some ⟨.one, 0, 6, 1, fun _ => [.ptr a 0 0 0, .ptr b 0 0 0, .ptr c 0 0 0, .ptr e 0 0 0, u64 0, dint 0]⟩) := by
  refine MFn_hx cx_ok 200 Tryz.func155 rfl Tryz.ntmps155 Tryz.results155 rfl fun base w pl hb => ?_
  simp only [go_sem, simprocAttr, hgetA, hgetL, hgetLk, hsetA, hsetL, hsetLk, List.length_append, List.length_set, List.append_assoc, List.set_set]
  refine kont_callH hb fn13 rfl ?_ (coreNew_ok _ t l h1 h2 h3 h4) rfl fun d h hR => ?_
  · simp only [go_sem, simprocAttr, hgetA, hgetL, hgetLk, hsetA, hsetL, hsetLk, List.length_append, List.length_set, List.append_assoc, List.set_set]
  obtain ⟨g1, a, rfl, rfl⟩ := hR
  refine kont_of_hx cx_ok hb 200 ?_
  simp only [go_sem, simprocAttr, hgetA, hgetL, hgetLk, hsetA, hsetL, hsetLk, List.length_append, List.length_set, List.append_assoc, List.set_set]
  refine kont_callH hb fn193 rfl ?_ (linkNew_ok _ t h1 h2) rfl fun d h hR => ?_
  · simp only [go_sem, simprocAttr, hgetA, hgetL, hgetLk, hsetA, hsetL, hsetLk, List.length_append, List.length_set, List.append_assoc, List.set_set]
  obtain ⟨g2, b, rfl, rfl⟩ := hR
  refine kont_of_hx cx_ok hb 200 ?_
  simp only [go_sem, simprocAttr, hgetA, hgetL, hgetLk, hsetA, hsetL, hsetLk, List.length_append, List.length_set, List.append_assoc, List.set_set]
  refine kont_callH hb fn91 rfl ?_ (matchNew_ok _) rfl fun d h hR => ?_
  · simp only [go_sem, simprocAttr, hgetA, hgetL, hgetLk, hsetA, hsetL, hsetLk, List.length_append, List.length_set, List.append_assoc, List.set_set]
  obtain ⟨g3, c, rfl, rfl⟩ := hR
  refine kont_of_hx cx_ok hb 200 ?_
  simp only [go_sem, simprocAttr, hgetA, hgetL, hgetLk, hsetA, hsetL, hsetLk, List.length_append, List.length_set, List.append_assoc, List.set_set]
  refine kont_callH hb fn194 rfl ?_ (statsNew_ok _) rfl fun d h hR => ?_
  · simp only [go_sem, simprocAttr, hgetA, hgetL, hgetLk, hsetA, hsetL, hsetLk, List.length_append, List.length_set, List.append_assoc, List.set_set]
  obtain ⟨g4, e, rfl, rfl⟩ := hR
  refine kont_of_hx cx_ok hb 200 ?_
  simp only [go_sem, simprocAttr, hgetA, hgetL, hgetLk, hsetA, hsetL, hsetLk, List.length_append, List.length_set, List.append_assoc, List.set_set]
  refine ⟨_, a, b, c, e, rfl, by omega, ⟨_, rfl⟩, ?_⟩
  have key : ∀ (h : List Ob) (x y : Ob), (h ++ x :: (g1 ++ (g2 ++ (g3 ++ (g4 ++ [y])))))[h.length + (g1.length + (g2.length + (g3.length + g4.length)) + 1)]? = some y := fun h x y => by
    rw [show h ++ x :: (g1 ++ (g2 ++ (g3 ++ (g4 ++ [y])))) = (h ++ x :: (g1 ++ (g2 ++ (g3 ++ g4)))) ++ [y] by simp]
    rw [List.getElem?_append_right (by simp)]
    simp
  exact key _ _ _
/-- An operation of no kind that there is. -/
theorem doBad_ok (h : List Ob) (k a b c e : Nat) (x : Opn) (n : Nat) (hn : n < 1000000) (hk : h[k]? = some ⟨.one, 0, 6, 1, fun _ => [.ptr a 0 0 0, .ptr b 0 0 0, .ptr c 0 0 0, .ptr e 0 0 0, u64 0, dint n]⟩) (h1 : x.kind ≠ 1) (h2 : x.kind ≠ 2) (h3 : x.kind ≠ 3) (h4 : x.kind ≠ 4) :
    MFn Tryz.prog 34 h [.ptr k 0 0 0, .agg x.cells] (fun d h' => d = .tup [.agg [dint 1, dint 0, dint 0], .nil] ∧ (∀ l, l < h.length → l ≠ k → h'[l]? = h[l]?) ∧ h.length ≤ h'.length ∧ h'[k]? = some ⟨.one, 0, 6, 1, fun _ => [.ptr a 0 0 0, .ptr b 0 0 0, .ptr c 0 0 0, .ptr e 0 0 0, u64 0, dint (n + 1 : Nat)]⟩) := by
  have hwr := wrap_succ (show n < 4611686018427387904 by omega)
  refine MFn_hx cx_ok 200 Tryz.func34 rfl Tryz.ntmps34 Tryz.results34 rfl fun base w pl hb => ?_
  have hk_l := hlt hk
  simp only [go_sem, simprocAttr, hgetA, hgetL, hgetLk, hsetA, hsetL, hsetLk, List.length_append, List.length_set, List.append_assoc, List.set_set, hk, hk_l, beqF h1, beqF h2, beqF h3, beqF h4, hwr]
  have hk_l := hlt hk
  refine kont_haxF cx_ok hb 200 mixed [(0, true)] [1, 2, 3] (by kernel_rfl) (by kernel_rfl) ?_
  simp only [go_sem, simprocAttr, hgetA, hgetL, hgetLk, hsetA, hsetL, hsetLk, List.length_append, List.length_set, List.append_assoc, List.set_set]
  repeat' refine And.intro ?_ ?_
  all_goals first
    | (intro l h5 h6; rw [hgetA (by simp; exact h5), List.getElem?_set_ne (Ne.symm h6)])
    | (simp; done)
    | (rw [hgetA (by simp; exact hk_l)]; exact List.getElem?_set_self hk_l)
end Go.Fg.X
/- A run of one operation that is of no kind. No conditions. -/
namespace Go.Fg.X
open Go.Proofs Go.Fg
set_option maxRecDepth 100000
set_option maxHeartbeats 4000000
set_option linter.unusedSimpArgs false
set_option linter.unusedVariables false
def out1 : Outc := ⟨[⟨1, 0, 0⟩], []⟩
theorem run1_ok (f : Nat → List D) (hf : f 0 = (default : Opn).cells) : AFn Tryz.prog 98 [.agg [dint 1, dint 1, .imm 10 1 f]] (Ret (.tup [.agg out1.cells, dint 0])) := by
  refine freezeH (R := fun d hh => ∃ lo g row, hh[lo]? = some ⟨.arr, g, 3, 1, row⟩ ∧ d = .tup [.agg [.ref lo g 0 1, .nil], dint 0] ∧ row 0 = [dint 1, dint 0, dint 0]) _ rfl ?_ ?_
  · rintro d hh ⟨lo, g, row, h1, rfl, h2⟩
    refine .inr ⟨lo, g, 3, 1, row, h1, fun i hi => by rw [show i = 0 by omega, h2]; rfl, ?_⟩
    simp [D.fz, fzL, nat_ble]
    simp only [out1, Outc.cells, dLe_tup, dLe_agg, lLe_cons, lLe_nil, dLe_imm, dLe_nil_imm, rowFrom_at, Nat.zero_add, List.length_cons, List.length_nil, and_true, true_and]
    refine ⟨fun i hi => ?_, ?_⟩
    · rw [show i = 0 by omega, h2]; exact lLeOf_refl (dLe_refl _) _
    · rfl
  refine MFn_hx cx_ok 200 Tryz.func98 rfl Tryz.ntmps98 Tryz.results98 rfl fun base w pl hb => ?_
  simp only [go_sem, simprocAttr, hgetA, hgetL, hgetLk, hsetA, hsetL, hsetLk, List.length_append, List.length_set, List.append_assoc, List.set_set]
  have hf2 := hf
  simp only [go_sem, simprocAttr] at hf2
  obtain ⟨F, hF⟩ : ∃ F : List Ob, F = [⟨.one, 0, 3, 1, fun _ => [dint 1, dint 1, .imm 10 1 f]⟩, ⟨.one, 0, 2, 1, fun _ => [.nil, .nil]⟩] := ⟨_, rfl⟩
  have f0 : F[0]? = some ⟨.one, 0, 3, 1, fun _ => [dint 1, dint 1, .imm 10 1 f]⟩ := by rw [hF]; rfl
  have f1 : F[1]? = some ⟨.one, 0, 2, 1, fun _ => [.nil, .nil]⟩ := by rw [hF]; rfl
  have fl : F.length = 2 := by rw [hF]; rfl
  simp only [go_sem, simprocAttr] at hF
  rw [← hF]
  refine kont_callH hb fn155 rfl ?_ (topNew_ok F 1 1 (by decide) (by decide) (by decide) (by decide)) rfl fun d h' hR => ?_
  · simp only [go_sem, simprocAttr]
  obtain ⟨k, a, b, c, e, rfl, hkl, ⟨G, rfl⟩, hk⟩ := hR
  have g0 : (F ++ G)[0]? = _ := (hgetA (by omega)).trans f0
  have g1 : (F ++ G)[1]? = _ := (hgetA (by omega)).trans f1
  generalize F ++ G = H at *
  have g0_l := hlt g0
  have g1_l := hlt g1
  have hk_l := hlt hk
  refine kont_of_hx cx_ok hb 200 ?_
  simp only [go_sem, simprocAttr, hgetA, hgetL, hgetLk, hsetA, hsetL, hsetLk, List.length_append, List.length_set, List.append_assoc, List.set_set, hgetA, hgetL, hgetLk, hsetA, hsetL, hsetLk, List.length_append, List.length_set, List.append_assoc, List.set_set, hf2, g0, g1, g0_l, g1_l]
  refine kont_turns 1 ?_
  refine kont_of_hx cx_ok hb 200 ?_
  simp only [go_sem, simprocAttr, hgetA, hgetL, hgetLk, hsetA, hsetL, hsetLk, List.length_append, List.length_set, List.append_assoc, List.set_set, hgetA, hgetL, hgetLk, hsetA, hsetL, hsetLk, List.length_append, List.length_set, List.append_assoc, List.set_set, hf2, g0, g1, g0_l, g1_l]
  obtain ⟨H3, hH3⟩ : ∃ H3 : List Ob, H3 = H ++ [⟨.one, 0, 2, 1, fun _ => [.nil, .nil]⟩, ⟨.one, 0, 10, 1, fun _ => (default : Opn).cells⟩] := ⟨_, rfl⟩
  have hk3 : H3[k]? = some ⟨.one, 0, 6, 1, fun _ => [.ptr a 0 0 0, .ptr b 0 0 0, .ptr c 0 0 0, .ptr e 0 0 0, u64 0, dint (0 : Nat)]⟩ := by rw [hH3]; exact (hgetA hk_l).trans hk
  have o3 : H3[H.length]? = some ⟨.one, 0, 2, 1, fun _ => [.nil, .nil]⟩ := by rw [hH3]; exact hgetL rfl
  have g03 : H3[0]? = some ⟨.one, 0, 3, 1, fun _ => [dint 1, dint 1, .imm 10 1 f]⟩ := by rw [hH3]; exact (hgetA g0_l).trans g0
  have g13 : H3[1]? = some ⟨.one, 0, 2, 1, fun _ => [.nil, .nil]⟩ := by rw [hH3]; exact (hgetA g1_l).trans g1
  have l3 : H3.length = H.length + 2 := by rw [hH3]; simp
  simp only [go_sem, simprocAttr] at hH3
  rw [← hH3]
  have hd := doBad_ok H3 k a b c e default 0 (by decide) hk3 (by decide) (by decide) (by decide) (by decide)
  refine kont_callH hb fn34 rfl ?_ hd rfl fun d h' hR => ?_
  · simp only [go_sem, simprocAttr]
  obtain ⟨rfl, hold, hle, hk4⟩ := hR
  have o4 : h'[H.length]? = some ⟨.one, 0, 2, 1, fun _ => [.nil, .nil]⟩ := by rw [hold _ (by omega) (by omega)]; exact o3
  have g04 : h'[0]? = some ⟨.one, 0, 3, 1, fun _ => [dint 1, dint 1, .imm 10 1 f]⟩ := by rw [hold _ (by omega) (by omega)]; exact g03
  have g14 : h'[1]? = some ⟨.one, 0, 2, 1, fun _ => [.nil, .nil]⟩ := by rw [hold _ (by omega) (by omega)]; exact g13
  clear hd hold hk4 hk3 o3 g03 g13 hH3
  have o4_l := hlt o4
  have g04_l := hlt g04
  have g14_l := hlt g14
  obtain ⟨q, hq⟩ : ∃ q, q = H.length := ⟨_, rfl⟩
  rw [← hq] at o4 o4_l ⊢
  have hq1 : q ≠ 1 := by omega
  refine kont_of_hx cx_ok hb 200 ?_
  simp only [go_sem, simprocAttr, hgetA, hgetL, hgetLk, hsetA, hsetL, hsetLk, List.length_append, List.length_set, List.append_assoc, List.set_set, hgetA, hgetL, hgetLk, hsetA, hsetL, hsetLk, List.length_append, List.length_set, List.append_assoc, List.set_set, hf2, o4, o4_l, g04, g14, g04_l, g14_l, hgetS o4_l, hgetN hq1]
  refine kont_app_nn lay_ok rfl rfl rfl rfl rfl ?_
  have w1 : IntKind.i64.wrap 1 = 1 := rfl
  refine kont_of_hx cx_ok hb 200 ?_
  simp only [go_sem, simprocAttr, hgetA, hgetL, hgetLk, hsetA, hsetL, hsetLk, List.length_append, List.length_set, List.append_assoc, List.set_set, hgetA, hgetL, hgetLk, hsetA, hsetL, hsetLk, List.length_append, List.length_set, List.append_assoc, List.set_set, hf2, o4, o4_l, g04, g14, g04_l, g14_l, hgetS o4_l, hgetN hq1, w1]
  refine kont_of_hx cx_ok hb 200 ?_
  simp only [go_sem, simprocAttr, hgetA, hgetL, hgetLk, hsetA, hsetL, hsetLk, List.length_append, List.length_set, List.append_assoc, List.set_set, hgetA, hgetL, hgetLk, hsetA, hsetL, hsetLk, List.length_append, List.length_set, List.append_assoc, List.set_set, hf2, o4, o4_l, g04, g14, g04_l, g14_l, hgetS o4_l, hgetN hq1, w1]
  have g1s : ∀ A B : Ob, ((h'.set q A).set 1 B)[1]? = some B := fun A B => List.getElem?_set_self (by simp; exact g14_l)
  refine kont_of_hx cx_ok hb 200 ?_
  simp only [go_sem, simprocAttr, hgetA, hgetL, hgetLk, hsetA, hsetL, hsetLk, List.length_append, List.length_set, List.append_assoc, List.set_set, hgetA, hgetL, hgetLk, hsetA, hsetL, hsetLk, List.length_append, List.length_set, List.append_assoc, List.set_set, hf2, o4, o4_l, g04, g14, g04_l, g14_l, hgetS o4_l, hgetN hq1, w1, g1s]
  refine ⟨h'.length + 2, 0, fun _ => [dint 1, dint 0, dint 0], ?_, rfl, rfl⟩
  have kk : ∀ (X : List Ob) (x y z : Ob), X.length = h'.length → (X ++ [x, y, z])[h'.length + 2]? = some z := fun X x y z e => by
    rw [List.getElem?_append_right (by omega), e]; simp
  exact kk _ _ _ _ (by simp)
theorem first1_ok (f : Nat → List D) (hf : f 0 = (default : Opn).cells) : AFn Tryz.prog 84 [.agg [dint 1, dint 1, .imm 10 2 f], dint 1] (Ret (.tup [.agg out1.cells, dint 0])) := by
  refine AFn_hxk 0 cx_ok 200 Tryz.func84 rfl Tryz.ntmps84 Tryz.results84 rfl fun base w hb => ?_
  simp only [go_sem, simprocAttr]
  refine kont_callM hb [] fn98 rfl ?_ (run1_ok (fun i => f i) hf) rfl fun d h hR => ?_
  · simp only [go_sem, simprocAttr]
  obtain ⟨rfl, rfl⟩ := hR
  simp only [go_sem, simprocAttr]
  refine kont_of_hx cx_ok hb 200 ?_
  simp only [go_sem, simprocAttr]
end Go.Fg.X
/- An object's rows told in other words. No conditions. -/
namespace Go.Fg
set_option linter.unusedSimpArgs false
set_option linter.unusedVariables false
theorem Kd.like_self (k : Kd) : k.like k := by cases k <;> simp [Kd.like, Kd.ty]
theorem obLe_self (o : Ob) : obLe o o := ⟨rfl, rfl, rfl, Kd.like_self _, fun _ _ => rfl⟩
theorem obsLe_self : ∀ h : List Ob, obsLe h h
  | [] => trivial
  | o :: r => ⟨obLe_self o, obsLe_self r⟩
theorem obsLe_set : ∀ {h : List Ob} {l : Nat} {o : Ob} (row' : Nat → List D), h[l]? = some o → (∀ i, i < o.n → o.row i = row' i) → obsLe h (h.set l ⟨o.kd, o.gen, o.sz, o.n, row'⟩)
  | [], l, o, row', e, _ => by simp at e
  | x :: r, 0, o, row', e, he => by
    simp only [List.getElem?_cons_zero, Option.some.injEq] at e
    subst e
    exact ⟨⟨rfl, rfl, rfl, Kd.like_self _, fun i hi => (he i hi).symm⟩, obsLe_self r⟩
  | x :: r, l + 1, o, row', e, he => ⟨obLe_self x, obsLe_set (h := r) row' (by simpa using e) he⟩
theorem Weak.rows {w0 : Start} {fr : List (Nat × D)} {h : List Ob} (l : Nat) {o : Ob} (row' : Nat → List D) (ho : h[l]? = some o) (he : ∀ i, i < o.n → o.row i = row' i) : Weak w0 ⟨fr, h⟩ ⟨fr, h.set l ⟨o.kd, o.gen, o.sz, o.n, row'⟩⟩ := (Wk.obs (obsLe_set row' ho he)).up
end Go.Fg
/- The closed example of layer 39. No conditions. -/
namespace Go.Fg.X
open Go.Proofs Go.Fg
set_option maxRecDepth 100000
set_option maxHeartbeats 4000000
set_option linter.unusedSimpArgs false
set_option linter.unusedVariables false
def res0 (e : Int) : Res := ⟨e, 0, 0⟩
def ev0 (op : Int) : Ev := ⟨op, false, false, 0, 0, 0, 0, 0, 0, 0, 0, 0⟩
def o39 : Outc := ⟨[res0 0, res0 1, res0 0], [ev0 0, ev0 2, ev0 2]⟩
def a39 : Outc := ⟨[res0 0, res0 1], [ev0 0]⟩
theorem small39 : o39.Small := ⟨by decide, by decide⟩
theorem smallA : a39.Small := ⟨by decide, by decide⟩
theorem ahead39 : aheadV o39 2 = a39 := rfl
theorem differ39 : differV o39 a39 = some 2 := by decide
theorem differ39s : differV o39 o39 = none := by decide
def ncells : List D := [dint 0, .nil, .nil, .raw (.int .u64 0), dint 0, .raw (.int .u16 0), .raw (.int .u16 0), .raw (.int .u16 0), .raw (.int .u16 0), .raw (.int .u64 0)]
theorem ncells_le (k : Nat) : lLeOf (dLe (k + 1)) ncells (default : Opn).cells := ⟨rfl, rfl, rfl, rfl, rfl, rfl, rfl, rfl, rfl, rfl, trivial⟩
theorem first1n_ok (f : Nat → List D) (h0 : f 0 = ncells) (h1 : f 1 = ncells) : AFn Tryz.prog 84 [.agg [dint 1, dint 1, .imm 10 2 f], dint 1] (Ret (.tup [.agg out1.cells, dint 0])) := by
  refine MFn.tellArgs (first1_ok (Opn.rows [default, default]) rfl) ⟨⟨rfl, rfl, ⟨rfl, rfl, fun i hi => ?_⟩, trivial⟩, rfl, trivial⟩
  obtain rfl | rfl : i = 0 ∨ i = 1 := by omega
  · rw [h0]; exact ncells_le _
  · rw [h1]; exact ncells_le _
theorem two39_ok : AFn Tryz.prog 28 [] (Ret (dbool true)) := by
  have c1 := ahead_ok o39 2 small39
  have c2 := differ_ok o39 a39 small39 smallA
  have c3 := differ_ok o39 o39 small39 small39
  rw [ahead39] at c1
  rw [differ39] at c2
  rw [differ39s] at c3
  refine AFn_hxk 0 cx_ok 19 Tryz.func28 rfl Tryz.ntmps28 Tryz.results28 rfl fun base w hb => ?_
  simp only [go_sem, simprocAttr]
  refine kont_weak_code (Weak.rows 0 (Res.rows o39.results) (by exact rfl) ?_) ?_
  · intro i hi; dsimp only at hi ⊢; (match i, hi with | 0, _ => rfl | 1, _ => rfl | 2, _ => rfl | i + 3, h => exact absurd h (by show ¬(i + 3 < 3); omega))
  simp only [go_sem, simprocAttr]
  refine kont_weak_code (Weak.rows 1 (Ev.rows o39.events) (by exact rfl) ?_) ?_
  · intro i hi; dsimp only at hi ⊢; (match i, hi with | 0, _ => rfl | 1, _ => rfl | 2, _ => rfl | i + 3, h => exact absurd h (by show ¬(i + 3 < 3); omega))
  simp only [go_sem, simprocAttr]
  refine kont_weak_code (Weak.freeze rfl 0 rfl rfl (fun i hi => by simp only [go_sem, simprocAttr])) ?_
  simp only [go_sem, simprocAttr]
  refine kont_weak_code (Weak.freeze rfl 1 rfl rfl (fun i hi => by simp only [go_sem, simprocAttr])) ?_
  simp only [go_sem, simprocAttr]
  refine kont_of_hx cx_ok hb 200 ?_
  simp only [go_sem, simprocAttr, hgetA, hgetL, hgetLk, hsetA, hsetL, hsetLk, List.length_append, List.length_set, List.append_assoc, List.set_set]
  refine kont_callM hb [] fn29 rfl ?_ c1 rfl fun d h hR => ?_
  · simp only [go_sem, simprocAttr]; rfl
  obtain ⟨rfl, rfl⟩ := hR
  simp only [go_sem, simprocAttr]
  refine kont_of_hx cx_ok hb 200 ?_
  simp only [go_sem, simprocAttr, hgetA, hgetL, hgetLk, hsetA, hsetL, hsetLk, List.length_append, List.length_set, List.append_assoc, List.set_set]
  refine kont_callM hb [] fn32 rfl ?_ c2 rfl fun d h hR => ?_
  · simp only [go_sem, simprocAttr]; rfl
  obtain ⟨rfl, rfl⟩ := hR
  simp only [go_sem, simprocAttr]
  refine kont_of_hx cx_ok hb 200 ?_
  simp only [go_sem, simprocAttr, hgetA, hgetL, hgetLk, hsetA, hsetL, hsetLk, List.length_append, List.length_set, List.append_assoc, List.set_set]
  refine kont_callM hb [] fn32 rfl ?_ c3 rfl fun d h hR => ?_
  · simp only [go_sem, simprocAttr]; exact ⟨rfl, rfl⟩
  obtain ⟨rfl, rfl⟩ := hR
  simp only [go_sem, simprocAttr]
  refine kont_of_hx cx_ok hb 200 ?_
  simp only [go_sem, simprocAttr, hgetA, hgetL, hgetLk, hsetA, hsetL, hsetLk, List.length_append, List.length_set, List.append_assoc, List.set_set]
  refine kont_weak_ops (Weak.rows 4 (fun _ => ncells) (by exact rfl) ?_) ?_
  · intro i hi; dsimp only at hi ⊢; (match i, hi with | 0, _ => rfl | 1, _ => rfl | i + 2, h => exact absurd h (by show ¬(i + 2 < 2); omega))
  simp only [go_sem, simprocAttr]
  refine kont_weak_ops (Weak.freeze rfl 4 rfl rfl (fun i hi => rfl)) ?_
  simp only [go_sem, simprocAttr]
  refine kont_callM hb [] fn84 rfl ?_ (first1n_ok (fun _ => ncells) rfl rfl) rfl fun d h hR => ?_
  · simp only [go_sem, simprocAttr]
  obtain ⟨rfl, rfl⟩ := hR
  have l1 : a39.results.length = 2 := rfl
  have l2 : a39.events.length = 1 := rfl
  have l3 : out1.results.length = 1 := rfl
  have l4 : (out1.results.getD 0 default).err = 1 := rfl
  have l5 : ∀ n : Nat, ((n : Int) == (n : Int)) = true := fun n => beq_self_eq_true _
  simp only [go_sem, simprocAttr]
  refine kont_of_hx cx_ok hb 200 ?_
  simp only [go_sem, simprocAttr, hgetA, hgetL, hgetLk, hsetA, hsetL, hsetLk, List.length_append, List.length_set, List.append_assoc, List.set_set, l1, l2, l3, l4, Option.getD_some, Option.isSome_some, Option.isSome_none, Go.undef]
end Go.Fg.X
/- The statements ReplayAhead and ReplayDiffers: walked. Conditions: what may be read. -/
namespace Go.Fg.X
open Go.Proofs Go.Fg
set_option maxRecDepth 100000
set_option maxHeartbeats 4000000
set_option linter.unusedSimpArgs false
set_option linter.unusedVariables false
theorem aheadV_small {o : Outc} (h : o.Small) (n : Int) : (aheadV o n).Small := by
  refine ⟨?_, ?_⟩
  · have := h.r; simp only [aheadV, List.length_take]; omega
  · have := h.e
    have := List.length_filter_le (fun e : Ev => decide (e.op < n)) o.events
    simp only [aheadV, evBef]; omega
theorem replayAhead_ok (o : Outc) (n m : Int) : AFn Tryz.prog 7 [.agg o.cells, dint n, dint m] (Ret (dbool true)) := by
  by_cases h1 : 500 < o.results.length
  · have d1 : decide (500 < o.results.length) = true := decide_eq_true h1
    have d1' : decide ((500 : Int) < (o.results.length : Int)) = true := decide_eq_true (by omega)
    refine AFn_hxk 0 cx_ok 200 Tryz.func7 rfl Tryz.ntmps7 Tryz.results7 rfl fun base w hb => ?_
    simp only [go_sem, simprocAttr]
    simp only [go_sem, simprocAttr, d1', Go.undef]
    refine kont_call hb fn28 rfl ?_ two39_ok (Ret.flat rfl) rfl fun d h hR => ?_
    · simp only [go_sem, simprocAttr]
    obtain ⟨rfl, rfl⟩ := hR
    refine kont_of_hx cx_ok hb 200 ?_
    simp only [go_sem, simprocAttr]
  · have d1' : decide ((500 : Int) < (o.results.length : Int)) = false := decide_eq_false (by omega)
    by_cases h2 : 500 < o.events.length
    · have d2' : decide ((500 : Int) < (o.events.length : Int)) = true := decide_eq_true (by omega)
      refine AFn_hxk 0 cx_ok 200 Tryz.func7 rfl Tryz.ntmps7 Tryz.results7 rfl fun base w hb => ?_
      simp only [go_sem, simprocAttr]
      simp only [go_sem, simprocAttr, d1', d2', Go.undef]
      refine kont_call hb fn28 rfl ?_ two39_ok (Ret.flat rfl) rfl fun d h hR => ?_
      · simp only [go_sem, simprocAttr]
      obtain ⟨rfl, rfl⟩ := hR
      refine kont_of_hx cx_ok hb 200 ?_
      simp only [go_sem, simprocAttr]
    · have d2' : decide ((500 : Int) < (o.events.length : Int)) = false := decide_eq_false (by omega)
      have hs : o.Small := ⟨by omega, by omega⟩
      have c1 := ahead_ok o n hs
      have c2 := rahead_ok o n hs
      have c3 := ralike_ok (aheadV o n) (aheadV_small hs n)
      have c4 := ahead_ok (aheadV o n) m (aheadV_small hs n)
      have c5 := ahead_ok o (min n m) hs
      have c6 := ralike_ok (aheadV o (min n m)) (aheadV_small hs _)
      rw [aheadV_twice] at c4
      generalize aheadV o (min n m) = z at *
      generalize aheadV o n = y at *
      refine AFn_hxk 0 cx_ok 200 Tryz.func7 rfl Tryz.ntmps7 Tryz.results7 rfl fun base w hb => ?_
      simp only [go_sem, simprocAttr]
      simp only [go_sem, simprocAttr, d1', d2', Go.undef]
      refine kont_callM hb [] fn29 rfl ?_ c1 rfl fun d h hR => ?_
      · simp only [go_sem, simprocAttr]
      obtain ⟨rfl, rfl⟩ := hR
      simp only [go_sem, simprocAttr]
      refine kont_of_hx cx_ok hb 200 ?_
      simp only [go_sem, simprocAttr]
      refine kont_hax cx_ok hb 200 mixed [(0, true), (1, true), (2, true), (3, false), (4, false), (5, true), (6, true), (7, true), (9, true), (10, true), (11, true), (12, true), (8, false), (13, false), (14, false), (15, true), (16, true), (17, false), (18, true), (19, true)] (by kernel_rfl) (by kernel_rfl) ?_
      simp only [go_sem, simprocAttr, Go.undef]
      refine AX_callC hb fn31 rfl ?_ c2 rfl fun d h hR => ?_
      · simp only [go_sem, simprocAttr, Go.undef]
      obtain ⟨rfl, rfl⟩ := hR
      simp only [go_sem, simprocAttr, Go.undef]
      refine AX_of_hax cx_ok hb ?_
      simp only [go_sem, simprocAttr, Go.undef]
      refine AX_callC hb fn30 rfl ?_ c3 rfl fun d h hR => ?_
      · simp only [go_sem, simprocAttr, Go.undef]
      obtain ⟨rfl, rfl⟩ := hR
      simp only [go_sem, simprocAttr, Go.undef]
      refine AX_of_hax cx_ok hb ?_
      simp only [go_sem, simprocAttr, Go.undef]
      refine AX_callC hb fn29 rfl ?_ c4 rfl fun d h hR => ?_
      · simp only [go_sem, simprocAttr, Go.undef]
      obtain ⟨rfl, rfl⟩ := hR
      simp only [go_sem, simprocAttr, Go.undef]
      refine AX_of_hax cx_ok hb ?_
      simp only [go_sem, simprocAttr, Go.undef]
      refine AX_callC hb fn29 rfl ?_ c5 rfl fun d h hR => ?_
      · simp only [go_sem, simprocAttr, Go.undef]
      obtain ⟨rfl, rfl⟩ := hR
      simp only [go_sem, simprocAttr, Go.undef]
      refine AX_of_hax cx_ok hb ?_
      simp only [go_sem, simprocAttr, Go.undef]
      refine AX_callC hb fn30 rfl ?_ c6 rfl fun d h hR => ?_
      · simp only [go_sem, simprocAttr, Go.undef]
      obtain ⟨rfl, rfl⟩ := hR
      simp only [go_sem, simprocAttr, Go.undef]
      refine AX_of_hax cx_ok hb ?_
      simp only [go_sem, simprocAttr, Go.undef]
      refine AX_call hb fn28 rfl ?_ two39_ok (Ret.flat rfl) rfl fun d h hR => ?_
      · simp only [go_sem, simprocAttr, Go.undef]
      obtain ⟨rfl, rfl⟩ := hR
      refine AX_of_hax cx_ok hb ?_
      simp only [go_sem, simprocAttr, Go.undef]
theorem replayDiffers_ok (a b : Outc) : AFn Tryz.prog 8 [.agg a.cells, .agg b.cells] (Ret (dbool true)) := by
  by_cases h1 : 80 < a.results.length
  · have d1 : decide ((80 : Int) < (a.results.length : Int)) = true := decide_eq_true (by omega)
    refine AFn_hxk 0 cx_ok 200 Tryz.func8 rfl Tryz.ntmps8 Tryz.results8 rfl fun base w hb => ?_
    simp only [go_sem, simprocAttr]
    simp only [go_sem, simprocAttr, d1, Go.undef]
    refine kont_call hb fn28 rfl ?_ two39_ok (Ret.flat rfl) rfl fun d h hR => ?_
    · simp only [go_sem, simprocAttr]
    obtain ⟨rfl, rfl⟩ := hR
    refine kont_of_hx cx_ok hb 200 ?_
    simp only [go_sem, simprocAttr]
  have d1 : decide ((80 : Int) < (a.results.length : Int)) = false := decide_eq_false (by omega)
  by_cases h2 : 80 < b.results.length
  · have d2 : decide ((80 : Int) < (b.results.length : Int)) = true := decide_eq_true (by omega)
    refine AFn_hxk 0 cx_ok 200 Tryz.func8 rfl Tryz.ntmps8 Tryz.results8 rfl fun base w hb => ?_
    simp only [go_sem, simprocAttr]
    simp only [go_sem, simprocAttr, d1, d2, Go.undef]
    refine kont_call hb fn28 rfl ?_ two39_ok (Ret.flat rfl) rfl fun d h hR => ?_
    · simp only [go_sem, simprocAttr]
    obtain ⟨rfl, rfl⟩ := hR
    refine kont_of_hx cx_ok hb 200 ?_
    simp only [go_sem, simprocAttr]
  have d2 : decide ((80 : Int) < (b.results.length : Int)) = false := decide_eq_false (by omega)
  by_cases h3 : 300 < a.events.length
  · have d3 : decide ((300 : Int) < (a.events.length : Int)) = true := decide_eq_true (by omega)
    refine AFn_hxk 0 cx_ok 200 Tryz.func8 rfl Tryz.ntmps8 Tryz.results8 rfl fun base w hb => ?_
    simp only [go_sem, simprocAttr]
    simp only [go_sem, simprocAttr, d1, d2, d3, Go.undef]
    refine kont_call hb fn28 rfl ?_ two39_ok (Ret.flat rfl) rfl fun d h hR => ?_
    · simp only [go_sem, simprocAttr]
    obtain ⟨rfl, rfl⟩ := hR
    refine kont_of_hx cx_ok hb 200 ?_
    simp only [go_sem, simprocAttr]
  have d3 : decide ((300 : Int) < (a.events.length : Int)) = false := decide_eq_false (by omega)
  by_cases h4 : 300 < b.events.length
  · have d4 : decide ((300 : Int) < (b.events.length : Int)) = true := decide_eq_true (by omega)
    refine AFn_hxk 0 cx_ok 200 Tryz.func8 rfl Tryz.ntmps8 Tryz.results8 rfl fun base w hb => ?_
    simp only [go_sem, simprocAttr]
    simp only [go_sem, simprocAttr, d1, d2, d3, d4, Go.undef]
    refine kont_call hb fn28 rfl ?_ two39_ok (Ret.flat rfl) rfl fun d h hR => ?_
    · simp only [go_sem, simprocAttr]
    obtain ⟨rfl, rfl⟩ := hR
    refine kont_of_hx cx_ok hb 200 ?_
    simp only [go_sem, simprocAttr]
  have d4 : decide ((300 : Int) < (b.events.length : Int)) = false := decide_eq_false (by omega)
  have ha : a.Small := ⟨by omega, by omega⟩
  have hb0 : b.Small := ⟨by omega, by omega⟩
  have c1 := differ_ok a b ha hb0
  have c2 := differ_ok b a hb0 ha
  rw [differV_symm b a] at c2
  have eM : max (a.results.length : Int) (b.results.length : Int) = ((max a.results.length b.results.length : Nat) : Int) := by omega
  obtain ⟨M, hM⟩ : ∃ M, M = max a.results.length b.results.length := ⟨_, rfl⟩
  rw [← hM] at eM
  obtain ⟨D, hD⟩ : ∃ D, D = differV a b := ⟨_, rfl⟩
  rw [← hD] at c1 c2
  have b1 : ∀ i : Int, (i != i) = false := fun i => by simp
  have b2 : ∀ i : Bool, (i != i) = false := fun i => by cases i <;> rfl
  have hfirst : ∀ k, k < M → (∀ j, j < k → apartV a b j = false) → apartV a b k = true → D = some k := fun k hk hno h => by
    rw [hD, differV, ← hM, List.find?_range_eq_some]
    exact ⟨h, by simpa using hk, fun j hj => by simpa using hno j hj⟩
  refine AFn_hxk 0 cx_ok 200 Tryz.func8 rfl Tryz.ntmps8 Tryz.results8 rfl fun base w hb => ?_
  simp only [go_sem, simprocAttr]
  simp only [go_sem, simprocAttr, d1, d2, d3, d4, Go.undef]
  refine kont_call hb fn32 rfl ?_ c1 (Ret.flat rfl) rfl fun d h hR => ?_
  · simp only [go_sem, simprocAttr]
  obtain ⟨rfl, rfl⟩ := hR
  refine kont_of_hx cx_ok hb 200 ?_
  simp only [go_sem, simprocAttr]
  refine kont_call hb fn32 rfl ?_ c2 (Ret.flat rfl) rfl fun d h hR => ?_
  · simp only [go_sem, simprocAttr, b1, b2, eM, Go.undef]
  obtain ⟨rfl, rfl⟩ := hR
  refine kont_of_hx cx_ok hb 200 ?_
  simp only [go_sem, simprocAttr, b1, b2, eM, Go.undef]
  refine kont_for (fun k s => (∀ j, j < k → apartV a b j = false) ∧ s = ⟨[(2, .ptr 0 0 0 0), (3, .ptr 1 0 0 0), (5, dint (D.getD 0)), (6, dbool D.isSome), (59, dint M), (60, dint k)], [⟨.one, 0, 2, 1, fun _ => a.cells⟩, ⟨.one, 0, 2, 1, fun _ => b.cells⟩]⟩) M (Weak.frame (by simp only [go_sem, simprocAttr])) ⟨fun j hj => by omega, rfl⟩ ?_
  rintro k s hk ⟨hno, rfl⟩
  have hwr := wrap_succ (show k < 4611686018427387904 by omega)
  refine kont_of_hx cx_ok hb 200 ?_
  simp only [go_sem, simprocAttr]
  first | refine hite_lt hk (fun hk1 => ?_) (fun hk1 => ?_) | refine hite_ltI hk (fun hk1 => ?_) (fun hk1 => ?_)
  · simp only [go_sem, simprocAttr, hk1]
    refine kont_call hb fn33 rfl ?_ (rapart_ok a b k ha hb0 (by omega)) (Ret.flat rfl) rfl fun d h hR => ?_
    · simp only [go_sem, simprocAttr]
    obtain ⟨rfl, rfl⟩ := hR
    refine kont_of_hx cx_ok hb 200 ?_
    simp only [go_sem, simprocAttr]
    cases hap : apartV a b k
    · simp only [go_sem, simprocAttr]
      refine ⟨hk1, _, Weak.to 2 ⟨?_, by simp only [go_sem, simprocAttr], ?_, ?_⟩, fun j hj => ?_, rfl⟩
      · simp only [go_sem, simprocAttr, hwr]
      · simp only [go_sem, simprocAttr]
      · simp only [go_sem, simprocAttr]
      · rcases Nat.lt_succ_iff_lt_or_eq.1 hj with h5 | rfl
        · exact hno j h5
        · exact hap
    · rw [hfirst k hk1 hno hap]
      have e5 : ((k : Int) == (k : Int)) = true := beq_self_eq_true _
      simp only [go_sem, simprocAttr, Option.getD_some, Option.isSome_some, e5, Go.undef]
      refine kont_call hb fn28 rfl ?_ two39_ok (Ret.flat rfl) rfl fun d h hR => ?_
      · simp only [go_sem, simprocAttr]
      obtain ⟨rfl, rfl⟩ := hR
      refine kont_of_hx cx_ok hb 200 ?_
      simp only [go_sem, simprocAttr]
  · subst hk1
    have hnone : D = none := by
      rw [hD, differV, ← hM, List.find?_range_eq_none]
      intro j hj
      simpa using hno j hj
    rw [hnone]
    have e6 : (((none : Option Nat).getD 0 : Nat) : Int) = 0 := rfl
    refine kont_of_hx cx_ok hb 200 ?_
    simp only [go_sem, simprocAttr, Option.isSome_none, e6, Go.undef]
    refine kont_call hb fn28 rfl ?_ two39_ok (Ret.flat rfl) rfl fun d h hR => ?_
    · simp only [go_sem, simprocAttr]
    obtain ⟨rfl, rfl⟩ := hR
    refine kont_of_hx cx_ok hb 200 ?_
    simp only [go_sem, simprocAttr]
end Go.Fg.X
