/- Walks of the functions that the statement reaches. No conditions: contracts and laws. -/
import Derived.WalkKit
import Derived.WalkLawsBesides
import Derived.WalkSpells
namespace Go.Fg
set_option linter.unusedSimpArgs false
set_option linter.unusedVariables false
open Go.RowKit (Below)

/-- An abstract value. -/
inductive D where
  | raw (v : Value)
  | nil
  | undef
  | imm (sz n : Nat) (row : Nat → List D)
  | ip (cells : List D)
  | ref (l g off len : Nat)
  | ptr (l g i j : Nat)
  | mref (l g : Nat)
  | clo (f : FuncId) (first : Nat) (caps : List D)
  | agg (cs : List D)
  | tup (cs : List D)

def nth (cs : List D) (i : Nat) : D := cs.getD i .undef
def nthV (vs : List Value) (i : Nat) : Value := vs.getD i Go.undef

/-- What an object is: one variable (a single row), an array, a map (each row is a key and a value). -/
inductive Kd where
  | one
  | arr
  | map
  | iter
  | rone
  | rarr
  | rmap
  | riter
def Kd.isOne : Kd → Bool
  | .one => true
  | .rone => true
  | _ => false
def Kd.ty : Kd → Nat
  | .one => 0
  | .arr => 0
  | .map => 1
  | .iter => 2
  | .rone => 0
  | .rarr => 0
  | .rmap => 1
  | .riter => 2
/-- An object that is lent to be read alone. -/
def Kd.ro : Kd → Bool
  | .one => false
  | .arr => false
  | .map => false
  | .iter => false
  | _ => true
def Kd.toRo : Kd → Kd
  | .one => .rone
  | .arr => .rarr
  | .map => .rmap
  | .iter => .riter
  | k => k
theorem Kd.toRo_ty (k : Kd) : k.toRo.ty = k.ty := by cases k <;> rfl
theorem Kd.toRo_ro (k : Kd) : k.toRo.ro = true := by cases k <;> rfl
/-- What points to such an object: a map, or an iterator's pointer. -/
def mval : Nat → Nat → Value
  | 1, b => .map (some b)
  | _, b => .pointer (some ⟨b, 0, none⟩)
def MOk (t b : Nat) (v : Value) : Prop := t ≠ 0 ∧ v = mval t b
/-- An object of the call's own: rows of cells. -/
structure Ob where
  kd : Kd
  gen : Nat
  sz : Nat
  n : Nat
  row : Nat → List D

/-- Where an object lies: block and first cell; 'none': nowhere (it has no rows). -/
abbrev Pl := Option (Nat × Nat)

/-- A block in which no object lies. -/
def away (pl : List Pl) (b : Nat) : Prop := ∀ l q : Nat, pl[l]? ≠ some (some (b, q))
/-- A block on which a closed value may lean: let in by Z, and no object's. -/
def free (Z : Nat → Prop) (pl : List Pl) (b : Nat) : Prop := Z b ∧ away pl b
variable {Z : Nat → Prop}

/-- A closed value: it leans on blocks of N alone. -/
inductive Cl (N : Nat → Prop) (w : World) : D → Value → Prop
  | raw (v : Value) : Cl N w (.raw v) v
  | undef (v : Value) : Cl N w .undef v
  | nil (a : Option Addr) : Cl N w .nil (.slice a 0 0)
  | imm (sz n : Nat) (row : Nat → List D) (a : Option Addr) (cap b o : Nat) (vs : Nat → Nat → Value)
      (ha : 0 < n → a = some ⟨b, o, none⟩) (hl : n ≤ cap) (hs : ∀ i, i < n → (row i).length = sz)
      (hc : ∀ i j, i < n → j < sz → N b ∧ w.cell? ⟨b, o + (i * sz + j), none⟩ = some (vs i j))
      (hr : ∀ i j, i < n → j < sz → Cl N w (nth (row i) j) (vs i j)) : Cl N w (.imm sz n row) (.slice a n cap)
  | ip (cells : List D) (b o : Nat) (vs : Nat → Value)
      (hc : ∀ j, j < cells.length → N b ∧ w.cell? ⟨b, o + j, none⟩ = some (vs j))
      (hr : ∀ j, j < cells.length → Cl N w (nth cells j) (vs j)) : Cl N w (.ip cells) (.pointer (some ⟨b, o, none⟩))
  | clo (f : FuncId) (nf : Nat) (cs : List D) (vs : List Value) (hl : vs.length = cs.length) (hr : ∀ i, i < cs.length → Cl N w (nth cs i) (nthV vs i)) : Cl N w (.clo f nf cs) (.func (.func f) (vs.take nf).toArray (vs.drop nf).toArray)
  | agg (cs : List D) (vs : List Value) (hl : vs.length = cs.length) (hr : ∀ i, i < cs.length → Cl N w (nth cs i) (nthV vs i)) : Cl N w (.agg cs) (.agg vs.toArray)
  | tup (cs : List D) (vs : List Value) (hl : vs.length = cs.length) (hr : ∀ i, i < cs.length → Cl N w (nth cs i) (nthV vs i)) : Cl N w (.tup cs) (.tuple vs.toArray)

theorem Cl.mono {N N' : Nat → Prop} {w w' : World} {d : D} {v : Value} (h : Cl N w d v)
    (hk : ∀ b, N b → b < w.heap.size → N' b ∧ w'.heap[b]? = w.heap[b]?) : Cl N' w' d v := by
  have key : ∀ (b o : Nat) (u : Value), N b ∧ w.cell? ⟨b, o, none⟩ = some u → N' b ∧ w'.cell? ⟨b, o, none⟩ = some u := by
    rintro b o u ⟨hn, hc⟩
    obtain ⟨h1, h2⟩ := hk b hn (block_lt_of_cell hc)
    exact ⟨h1, by rw [World.cell?_of_block (w := w) (a := ⟨b, o, none⟩) h2]; exact hc⟩
  induction h with
  | raw v => exact .raw v
  | undef v => exact .undef v
  | nil a => exact .nil a
  | imm sz n row a cap b o vs ha hl hs hc hr ih => exact .imm sz n row a cap b o vs ha hl hs (fun i j hi hj => key _ _ _ (hc i j hi hj)) ih
  | ip cells b o vs hc hr ih => exact .ip cells b o vs (fun j hj => key _ _ _ (hc j hj)) ih
  | clo f nf cs vs hl hr ih => exact .clo f nf cs vs hl ih
  | agg cs vs hl hr ih => exact .agg cs vs hl ih
  | tup cs vs hl hr ih => exact .tup cs vs hl ih

/-- How a slice over an object lies. -/
def SliceAt (w : World) (sz : Nat) (p : Pl) (off len : Nat) (a : Option Addr) (cap : Nat) : Prop :=
  (len = 0 ∧ cap = 0) ∨ ∃ b q c el, p = some (b, q) ∧ a = some ⟨b, q + off * sz, none⟩ ∧ w.heap[b]? = some (.cells c el (0, 0)) ∧ q + (off + cap) * sz ≤ c.size ∧ len ≤ cap

inductive RelV (Z : Nat → Prop) (h : List Ob) (pl : List Pl) (w : World) : D → Value → Prop
  | cl (d : D) (v : Value) (hc : Cl (free Z pl) w d v) : RelV Z h pl w d v
  | ref (l g off len : Nat) (o : Ob) (p : Pl) (a : Option Addr) (cap : Nat) (ho : h[l]? = some o) (hp : pl[l]? = some p) (hk : o.kd.ty = 0) (hg : g ≤ o.gen)
      (hs : g = o.gen → SliceAt w o.sz p off len a cap) : RelV Z h pl w (.ref l g off len) (.slice a len cap)
  | ptr (l g i j : Nat) (o : Ob) (p : Pl) (a : Addr) (ho : h[l]? = some o) (hp : pl[l]? = some p) (hk : o.kd.ty = 0) (hg : g ≤ o.gen)
      (hs : g = o.gen → ∃ b q, p = some (b, q) ∧ a = ⟨b, q + (i * o.sz + j), none⟩) : RelV Z h pl w (.ptr l g i j) (.pointer (some a))
  | mref (l g : Nat) {v : Value} (o : Ob) (p : Pl) (b : Nat) (ho : h[l]? = some o) (hp : pl[l]? = some p) (hk : MOk o.kd.ty b v) (hg : g ≤ o.gen)
      (hs : g = o.gen → p = some (b, 0)) : RelV Z h pl w (.mref l g) v
  | clo (f : FuncId) (nf : Nat) (cs : List D) (vs : List Value) (hl : vs.length = cs.length) (hr : ∀ i, i < cs.length → RelV Z h pl w (nth cs i) (nthV vs i)) : RelV Z h pl w (.clo f nf cs) (.func (.func f) (vs.take nf).toArray (vs.drop nf).toArray)
  | agg (cs : List D) (vs : List Value) (hl : vs.length = cs.length) (hr : ∀ i, i < cs.length → RelV Z h pl w (nth cs i) (nthV vs i)) : RelV Z h pl w (.agg cs) (.agg vs.toArray)
  | tup (cs : List D) (vs : List Value) (hl : vs.length = cs.length) (hr : ∀ i, i < cs.length → RelV Z h pl w (nth cs i) (nthV vs i)) : RelV Z h pl w (.tup cs) (.tuple vs.toArray)

/-- From one abstract heap and world to later ones. -/
structure Tr (h : List Ob) (pl : List Pl) (w : World) (h' : List Ob) (pl' : List Pl) (w' : World) : Prop where
  old : ∀ b, away pl b → b < w.heap.size → away pl' b ∧ w'.heap[b]? = w.heap[b]?
  obj : ∀ (l : Nat) (o : Ob) (p : Pl), h[l]? = some o → pl[l]? = some p → ∃ o' p', h'[l]? = some o' ∧ pl'[l]? = some p' ∧ o.gen ≤ o'.gen ∧ o'.kd.ty = o.kd.ty ∧ (o'.gen = o.gen → o'.sz = o.sz ∧ p' = p)
  shape : ∀ (l : Nat) (o o' : Ob) (b q : Nat), h[l]? = some o → h'[l]? = some o' → o'.gen = o.gen → pl[l]? = some (some (b, q)) → ∀ c el, w.heap[b]? = some (.cells c el (0, 0)) →
    ∃ c', w'.heap[b]? = some (.cells c' el (0, 0)) ∧ c'.size = c.size
theorem Tr.oldF {h : List Ob} {pl : List Pl} {w : World} {h' : List Ob} {pl' : List Pl} {w' : World} (T : Tr h pl w h' pl' w') {b : Nat} (hf : free Z pl b) (hb : b < w.heap.size) : free Z pl' b ∧ w'.heap[b]? = w.heap[b]? :=
  ⟨⟨hf.1, (T.old b hf.2 hb).1⟩, (T.old b hf.2 hb).2⟩

theorem RelV.tr {h : List Ob} {pl : List Pl} {w : World} {h' : List Ob} {pl' : List Pl} {w' : World} (T : Tr h pl w h' pl' w') {d : D} {v : Value} (r : RelV Z h pl w d v) : RelV Z h' pl' w' d v := by
  induction r with
  | cl d v hc => exact .cl d v (hc.mono fun b hb hlt => T.oldF hb hlt)
  | ref l g off len o p a cap ho hp hk hg hs =>
    obtain ⟨o', p', ho', hp', hg', hk', he⟩ := T.obj l o p ho hp
    refine .ref l g off len o' p' a cap ho' hp' (by rw [hk', hk]) (Nat.le_trans hg hg') fun hgg => ?_
    have e1 : o'.gen = o.gen := by omega
    obtain ⟨e2, e3⟩ := he e1
    rcases hs (by omega) with h1 | ⟨b, q, c, el, hpp, ha, hb, hc, hl⟩
    · exact .inl h1
    · obtain ⟨c', hb', hc'⟩ := T.shape l o o' b q ho ho' e1 (by rw [hp, hpp]) c el hb
      exact .inr ⟨b, q, c', el, by rw [e3, hpp], by rw [e2]; exact ha, hb', by rw [e2, hc']; exact hc, hl⟩
  | ptr l g i j o p a ho hp hk hg hs =>
    obtain ⟨o', p', ho', hp', hg', hk', he⟩ := T.obj l o p ho hp
    refine .ptr l g i j o' p' a ho' hp' (by rw [hk', hk]) (Nat.le_trans hg hg') fun hgg => ?_
    have e1 : o'.gen = o.gen := by omega
    obtain ⟨e2, e3⟩ := he e1
    obtain ⟨b, q, hpp, ha⟩ := hs (by omega)
    exact ⟨b, q, by rw [e3, hpp], by rw [e2]; exact ha⟩
  | mref l g o p b ho hp hk hg hs =>
    obtain ⟨o', p', ho', hp', hg', hk', he⟩ := T.obj l o p ho hp
    refine .mref l g o' p' b ho' hp' (by rw [hk']; exact hk) (Nat.le_trans hg hg') fun hgg => ?_
    have e1 : o'.gen = o.gen := by omega
    obtain ⟨e2, e3⟩ := he e1
    rw [e3]; exact hs (by omega)
  | clo f nf cs vs hl hr ih => exact .clo f nf cs vs hl ih
  | agg cs vs hl hr ih => exact .agg cs vs hl ih
  | tup cs vs hl hr ih => exact .tup cs vs hl ih

/-- An array's, or a variable's, cells. -/
def CellsAt (Z : Nat → Prop) (h : List Ob) (pl : List Pl) (w : World) (o : Ob) (b q : Nat) : Prop :=
  ∃ c el, w.heap[b]? = some (.cells c el (0, 0)) ∧ q + o.n * o.sz ≤ c.size ∧ (∀ i, i < o.n → (o.row i).length = o.sz) ∧
    ∀ i j, i < o.n → j < o.sz → ∃ v, c[q + (i * o.sz + j)]? = some v ∧ RelV Z h pl w (nth (o.row i) j) v
/-- A map: row 0 tells its clock, each other row an entry: key, value, and its number of birth. -/
def MapAt (Z : Nat → Prop) (h : List Ob) (pl : List Pl) (w : World) (o : Ob) (b q : Nat) : Prop :=
  q = 0 ∧ o.sz = 3 ∧ ∃ (es : Array MapEntry) (clock : Nat), w.heap[b]? = some (.map es clock) ∧ o.n = es.size + 1 ∧ (∀ i, i < o.n → (o.row i).length = 3) ∧
    RelV Z h pl w (nth (o.row 0) 0) (.int .i64 clock) ∧
    (∀ (i : Nat) (e : MapEntry), es[i]? = some e → e.born < clock ∧ RelV Z h pl w (nth (o.row (i + 1)) 0) e.key ∧ RelV Z h pl w (nth (o.row (i + 1)) 1) e.val ∧ RelV Z h pl w (nth (o.row (i + 1)) 2) (.int .i64 e.born)) ∧
    ∀ (i j : Nat) (e e' : MapEntry), i < j → es[i]? = some e → es[j]? = some e' → e.born < e'.born
/-- An iterator over a map: row 0: the map; row 1: its clock at the beginning; row 2: at the last step; then the entries that were met, each by its number of birth. -/
def IterAt (Z : Nat → Prop) (h : List Ob) (pl : List Pl) (w : World) (o : Ob) (b q : Nat) : Prop :=
  q = 0 ∧ o.sz = 1 ∧ ∃ (m since last : Nat) (seen : Array Nat), w.heap[b]? = some (.mapIter (some m) since seen last) ∧ o.n = seen.size + 3 ∧ (∀ i, i < o.n → (o.row i).length = 1) ∧
    RelV Z h pl w (nth (o.row 0) 0) (.map (some m)) ∧ RelV Z h pl w (nth (o.row 1) 0) (.int .i64 since) ∧ RelV Z h pl w (nth (o.row 2) 0) (.int .i64 last) ∧
    ∀ (i s : Nat), seen[i]? = some s → RelV Z h pl w (nth (o.row (i + 3)) 0) (.int .i64 s)
def ObAt (Z : Nat → Prop) (h : List Ob) (pl : List Pl) (w : World) (o : Ob) (b q : Nat) : Prop := match o.kd.ty with
  | 0 => CellsAt Z h pl w o b q
  | 1 => MapAt Z h pl w o b q
  | _ => IterAt Z h pl w o b q
theorem ObAt.cells {h : List Ob} {pl : List Pl} {w : World} {o : Ob} {b q : Nat} (hk : o.kd.ty = 0) (x : ObAt Z h pl w o b q) : CellsAt Z h pl w o b q := by
  unfold ObAt at x; rw [hk] at x; exact x
theorem ObAt.map {h : List Ob} {pl : List Pl} {w : World} {o : Ob} {b q : Nat} (hk : o.kd.ty = 1) (x : ObAt Z h pl w o b q) : MapAt Z h pl w o b q := by
  unfold ObAt at x; rw [hk] at x; exact x
theorem ObAt.iter {h : List Ob} {pl : List Pl} {w : World} {o : Ob} {b q : Nat} (hk : o.kd.ty = 2) (x : ObAt Z h pl w o b q) : IterAt Z h pl w o b q := by
  unfold ObAt at x; rw [hk] at x; exact x
theorem ObAt.ofCells {h : List Ob} {pl : List Pl} {w : World} {o : Ob} {b q : Nat} (hk : o.kd.ty = 0) (x : CellsAt Z h pl w o b q) : ObAt Z h pl w o b q := by
  unfold ObAt; rw [hk]; exact x
theorem ObAt.ofMap {h : List Ob} {pl : List Pl} {w : World} {o : Ob} {b q : Nat} (hk : o.kd.ty = 1) (x : MapAt Z h pl w o b q) : ObAt Z h pl w o b q := by
  unfold ObAt; rw [hk]; exact x
theorem ObAt.ofIter {h : List Ob} {pl : List Pl} {w : World} {o : Ob} {b q : Nat} (hk : o.kd.ty = 2) (x : IterAt Z h pl w o b q) : ObAt Z h pl w o b q := by
  unfold ObAt; rw [hk]; exact x
theorem Kd.cases (k : Kd) : k.ty = 0 ∨ k.ty = 1 ∨ k.ty = 2 := by cases k <;> simp [Kd.ty]
theorem ObAt.lt {h : List Ob} {pl : List Pl} {w : World} {o : Ob} {b q : Nat} (x : ObAt Z h pl w o b q) : b < w.heap.size := by
  rcases o.kd.cases with hk | hk | hk
  · obtain ⟨c, el, hc, _⟩ := x.cells hk; exact (Array.getElem?_eq_some_iff.1 hc).1
  · obtain ⟨_, _, c, el, hc, _⟩ := x.map hk; exact (Array.getElem?_eq_some_iff.1 hc).1
  · obtain ⟨_, _, m, s, l, sn, hc, _⟩ := x.iter hk; exact (Array.getElem?_eq_some_iff.1 hc).1
theorem ObAt.len {h : List Ob} {pl : List Pl} {w : World} {o : Ob} {b q : Nat} (x : ObAt Z h pl w o b q) {i : Nat} (hi : i < o.n) : (o.row i).length = o.sz := by
  rcases o.kd.cases with hk | hk | hk
  · obtain ⟨c, el, _, _, h1, _⟩ := x.cells hk; exact h1 i hi
  · obtain ⟨_, hz, c, el, _, _, h1, _⟩ := x.map hk; rw [h1 i hi, hz]
  · obtain ⟨_, hz, m, s, l, sn, _, _, h1, _⟩ := x.iter hk; rw [h1 i hi, hz]
/-- The same block, and rows that read the same cells. -/
theorem ObAt.to {Z' : Nat → Prop} {h h' : List Ob} {pl pl' : List Pl} {w w' : World} {o o' : Ob} {b q : Nat} (x : ObAt Z h pl w o b q) (hk : o'.kd.ty = o.kd.ty) (hz : o'.sz = o.sz) (hn : o'.n = o.n)
    (hb : w'.heap[b]? = w.heap[b]?) (hl : ∀ i, i < o.n → (o'.row i).length = (o.row i).length)
    (hr : ∀ i j v, i < o.n → j < (o.row i).length → RelV Z h pl w (nth (o.row i) j) v → RelV Z' h' pl' w' (nth (o'.row i) j) v) : ObAt Z' h' pl' w' o' b q := by
  rcases o.kd.cases with hm | hm | hm
  · obtain ⟨c, el, h1, h2, h3, h4⟩ := x.cells hm
    refine ObAt.ofCells (by rw [hk, hm]) ⟨c, el, by rw [hb]; exact h1, by rw [hn, hz]; exact h2, fun i hi => ?_, fun i j hi hj => ?_⟩
    · rw [hn] at hi; rw [hl i hi, h3 i hi, hz]
    · rw [hn] at hi; rw [hz] at hj
      obtain ⟨v, hv, hrr⟩ := h4 i j hi hj
      exact ⟨v, by rw [hz]; exact hv, hr i j v hi (by rw [h3 i hi]; exact hj) hrr⟩
  · obtain ⟨h0, h00, es, ck, h1, h2, h3, h4, h5, h6⟩ := x.map hm
    have up : ∀ i j v, i < o.n → j < 3 → RelV Z h pl w (nth (o.row i) j) v → RelV Z' h' pl' w' (nth (o'.row i) j) v := fun i j v hi hj r => hr i j v hi (by rw [h3 i hi]; exact hj) r
    refine ObAt.ofMap (by rw [hk, hm]) ⟨h0, by rw [hz]; exact h00, es, ck, by rw [hb]; exact h1, by rw [hn]; exact h2, fun i hi => ?_, up 0 0 _ (by omega) (by omega) h4, fun i e he => ?_, h6⟩
    · rw [hn] at hi; rw [hl i hi, h3 i hi]
    · obtain ⟨k1, k2, k3, k4⟩ := h5 i e he
      have hi : i + 1 < o.n := by have := (Array.getElem?_eq_some_iff.1 he).1; omega
      exact ⟨k1, up _ 0 _ hi (by omega) k2, up _ 1 _ hi (by omega) k3, up _ 2 _ hi (by omega) k4⟩
  · obtain ⟨h0, h00, m, since, last, seen, h1, h2, h3, h4, h5, h6, h7⟩ := x.iter hm
    have up : ∀ i v, i < o.n → RelV Z h pl w (nth (o.row i) 0) v → RelV Z' h' pl' w' (nth (o'.row i) 0) v := fun i v hi r => hr i 0 v hi (by rw [h3 i hi]; omega) r
    refine ObAt.ofIter (by rw [hk, hm]) ⟨h0, by rw [hz]; exact h00, m, since, last, seen, by rw [hb]; exact h1, by rw [hn]; exact h2, fun i hi => ?_, up 0 _ (by omega) h4, up 1 _ (by omega) h5, up 2 _ (by omega) h6, fun i s hs => ?_⟩
    · rw [hn] at hi; rw [hl i hi, h3 i hi]
    · exact up _ _ (by have := (Array.getElem?_eq_some_iff.1 hs).1; omega) (h7 i s hs)

/-- The objects lie ens they should, from block 'base' on. -/
structure RelO (Z : Nat → Prop) (base : Nat) (h : List Ob) (pl : List Pl) (w : World) : Prop where
  len : pl.length = h.length
  inj : ∀ (l l' : Nat) (b q q' : Nat), pl[l]? = some (some (b, q)) → pl[l']? = some (some (b, q')) → l = l'
  noRow : ∀ (l : Nat) (o : Ob), h[l]? = some o → pl[l]? = some none → o.n = 0
  at_ : ∀ (l : Nat) (o : Ob) (b q : Nat), h[l]? = some o → pl[l]? = some (some (b, q)) → (o.kd.ro = false → base ≤ b) ∧ ObAt Z h pl w o b q

structure St where
  fr : List (Nat × D)
  h : List Ob

def get : List (Nat × D) → Nat → D
  | [], _ => .undef
  | (t, d) :: r, u => bif Nat.beq t u then d else get r u
def put : List (Nat × D) → Nat → D → List (Nat × D)
  | [], u, d => [(u, d)]
  | (t, e) :: r, u, d => bif Nat.beq t u then (u, d) :: r else (t, e) :: put r u d

structure Rel (Z : Nat → Prop) (base nt : Nat) (s : St) (pl : List Pl) (a : Act) (w : World) : Prop where
  nt : a.tmps.size = nt
  defers : a.defers = []
  fr : ∀ t, RelV Z s.h pl w (get s.fr t) (a.tmps.getD t Go.undef)
  o : RelO Z base s.h pl w

theorem get_put (fr : List (Nat × D)) (u : Nat) (d : D) (t : Nat) : get (put fr u d) t = if t = u then d else get fr t := by
  induction fr with
  | nil =>
    simp only [put, get]
    by_cases h : u = t
    · subst h; simp
    · have h1 : Nat.beq u t = false := by rw [← Bool.not_eq_true, Nat.beq_eq]; exact h
      rw [h1, if_neg (Ne.symm h)]; rfl
  | cons x r ih =>
    obtain ⟨t', d'⟩ := x
    simp only [put]
    by_cases hb : t' = u
    · subst hb
      simp only [Nat.beq_refl, cond_true, get]
      by_cases h : t' = t
      · subst h; simp
      · have h1 : Nat.beq t' t = false := by rw [← Bool.not_eq_true, Nat.beq_eq]; exact h
        rw [h1, if_neg (Ne.symm h)]; rfl
    · have h1 : Nat.beq t' u = false := by rw [← Bool.not_eq_true, Nat.beq_eq]; exact hb
      rw [h1]
      simp only [cond_false, get]
      by_cases h : t' = t
      · subst h
        simp [hb]
      · have h2 : Nat.beq t' t = false := by rw [← Bool.not_eq_true, Nat.beq_eq]; exact h
        rw [h2]
        simpa using ih

theorem lt_of_some {h : List Ob} {l : Nat} {o : Ob} (e : h[l]? = some o) : l < h.length := (List.getElem?_eq_some_iff.1 e).1
theorem ltp_of_some {h : List Pl} {l : Nat} {o : Pl} (e : h[l]? = some o) : l < h.length := (List.getElem?_eq_some_iff.1 e).1
theorem lt_of_heap {w : World} {b : Nat} {o : Obj} (h : w.heap[b]? = some o) : b < w.heap.size := (Array.getElem?_eq_some_iff.1 h).1

theorem RelO.lt {base : Nat} {h : List Ob} {pl : List Pl} {w : World} (R : RelO Z base h pl w) {l b q : Nat} (e : pl[l]? = some (some (b, q))) : b < w.heap.size ∧ ∀ o, h[l]? = some o → o.kd.ro = false → base ≤ b := by
  have hl : l < h.length := by have := ltp_of_some e; rw [R.len] at this; exact this
  obtain ⟨hb, x⟩ := R.at_ l (h[l]) b q (List.getElem?_eq_getElem hl) e
  exact ⟨x.lt, fun o ho hr => by rw [List.getElem?_eq_getElem hl] at ho; cases ho; exact hb hr⟩

/-- Nothing of the call's own changes; old blocks stand. -/
theorem Tr.ext {base : Nat} {h : List Ob} {pl : List Pl} {w w' : World} (R : RelO Z base h pl w) (e : ∀ b, b < w.heap.size → w'.heap[b]? = w.heap[b]?) : Tr h pl w h pl w' where
  old := fun b hb hlt => ⟨hb, e b hlt⟩
  obj := fun l o p ho hp => ⟨o, p, ho, hp, Nat.le_refl _, rfl, fun _ => ⟨rfl, rfl⟩⟩
  shape := fun l o o' b q ho ho' hg hp c el hb => ⟨c, by rw [e b (R.lt hp).1]; exact hb, rfl⟩

theorem RelO.ext {base : Nat} {h : List Ob} {pl : List Pl} {w w' : World} (R : RelO Z base h pl w) (e : ∀ b, b < w.heap.size → w'.heap[b]? = w.heap[b]?) : RelO Z base h pl w' where
  len := R.len
  inj := R.inj
  noRow := R.noRow
  at_ := fun l o b q ho hp => by
    obtain ⟨h1, x⟩ := R.at_ l o b q ho hp
    exact ⟨h1, x.to rfl rfl rfl (e b (R.lt hp).1) (fun _ _ => rfl) fun i j v _ _ hr => hr.tr (Tr.ext R e)⟩

theorem Tr.refl (h : List Ob) (pl : List Pl) (w : World) : Tr h pl w h pl w where
  old := fun b hb hlt => ⟨hb, rfl⟩
  obj := fun l o p ho hp => ⟨o, p, ho, hp, Nat.le_refl _, rfl, fun _ => ⟨rfl, rfl⟩⟩
  shape := fun l o o' b q ho ho' hg hp c el hb => ⟨c, hb, rfl⟩
theorem Tr.trans {h h' h'' : List Ob} {pl pl' pl'' : List Pl} {w w' w'' : World} (T : Tr h pl w h' pl' w') (U : Tr h' pl' w' h'' pl'' w'') : Tr h pl w h'' pl'' w'' where
  old := fun b hb hlt => by
    obtain ⟨h1, h2⟩ := T.old b hb hlt
    have h3 : b < w'.heap.size := by
      rw [Array.getElem?_eq_getElem hlt] at h2
      exact (Array.getElem?_eq_some_iff.1 h2).1
    obtain ⟨h4, h5⟩ := U.old b h1 h3
    exact ⟨h4, by rw [h5, h2]⟩
  obj := fun l o p ho hp => by
    obtain ⟨o1, p1, a1, a2, a3, a4, a5⟩ := T.obj l o p ho hp
    obtain ⟨o2, p2, b1, b2, b3, b4, b5⟩ := U.obj l o1 p1 a1 a2
    refine ⟨o2, p2, b1, b2, Nat.le_trans a3 b3, by rw [b4, a4], fun e => ?_⟩
    obtain ⟨x1, x2⟩ := a5 (by omega)
    obtain ⟨y1, y2⟩ := b5 (by omega)
    exact ⟨by rw [y1, x1], by rw [y2, x2]⟩
  shape := fun l o o'' b q ho ho'' hg hp c el hb => by
    obtain ⟨o1, p1, a1, a2, a3, a4, a5⟩ := T.obj l o _ ho hp
    obtain ⟨o2, p2, b1, b2, b3, b4, b5⟩ := U.obj l o1 p1 a1 a2
    rw [ho''] at b1; cases b1
    have e1 : o1.gen = o.gen := by omega
    obtain ⟨x1, x2⟩ := a5 e1
    subst x2
    obtain ⟨c1, d1, d2⟩ := T.shape l o o1 b q ho a1 e1 hp c el hb
    obtain ⟨c2, f1, f2⟩ := U.shape l o1 o'' b q a1 ho'' (by omega) a2 c1 el d1
    exact ⟨c2, f1, by omega⟩

theorem Rel.ext {base nt : Nat} {s : St} {pl : List Pl} {a : Act} {w w' : World} (r : Rel Z base nt s pl a w) (e : ∀ b, b < w.heap.size → w'.heap[b]? = w.heap[b]?) : Rel Z base nt s pl a w' :=
  ⟨r.nt, r.defers, fun t => (r.fr t).tr (Tr.ext r.o e), r.o.ext e⟩

theorem getD_set (tmps : Array Value) (d t : Nat) (v : Value) (hd : d < tmps.size) : (tmps.setIfInBounds d v).getD t Go.undef = if t = d then v else tmps.getD t Go.undef := by
  simp only [Array.getD_eq_getD_getElem?, Array.getElem?_setIfInBounds]
  by_cases h : d = t
  · subst h; simp [hd]
  · rw [if_neg h, if_neg (Ne.symm h)]

/-- A step: the abstract heap goes on, and a slot is written. -/
theorem Rel.to {base nt : Nat} {s : St} {pl : List Pl} {a : Act} {w : World} (r : Rel Z base nt s pl a w) {h' : List Ob} {pl' : List Pl} {w' : World} (T : Tr s.h pl w h' pl' w') (R' : RelO Z base h' pl' w')
    {t : Nat} (ht : t < nt) {d : D} {v : Value} (hv : RelV Z h' pl' w' d v) : Rel Z base nt ⟨put s.fr t d, h'⟩ pl' (a.put (some t) v) w' where
  nt := by simp [Act.put, r.nt]
  defers := r.defers
  fr := fun u => by
    simp only [Act.put]
    rw [get_put, getD_set _ _ _ _ (by rw [r.nt]; exact ht)]
    by_cases h : u = t
    · rw [if_pos h, if_pos h]; exact hv
    · rw [if_neg h, if_neg h]; exact (r.fr u).tr T
  o := R'
theorem Rel.to' {base nt : Nat} {s : St} {pl : List Pl} {a : Act} {w : World} (r : Rel Z base nt s pl a w) {h' : List Ob} {pl' : List Pl} {w' : World} (T : Tr s.h pl w h' pl' w') (R' : RelO Z base h' pl' w')
    (v : Value) : Rel Z base nt ⟨s.fr, h'⟩ pl' (a.put none v) w' :=
  ⟨r.nt, r.defers, fun u => (r.fr u).tr T, R'⟩

theorem away_append {pl : List Pl} {p : Pl} {b : Nat} (hf : away pl b) (hp : ∀ q, p ≠ some (b, q)) : away (pl ++ [p]) b := fun l q e => by
  by_cases hl : l < pl.length
  · rw [List.getElem?_append_left hl] at e; exact hf l q e
  · rw [List.getElem?_append_right (by omega)] at e
    have : l - pl.length = 0 := by
      have := (List.getElem?_eq_some_iff.1 e).1
      simp at this; exact this
    rw [this] at e
    simp at e
    exact hp q e

theorem append_left_some {α : Type} {l : List α} {x y : α} {i : Nat} (e : l[i]? = some x) : (l ++ [y])[i]? = some x := by
  rw [List.getElem?_append_left (List.getElem?_eq_some_iff.1 e).1]; exact e
theorem append_inv {α : Type} {l : List α} {x y : α} {i : Nat} (e : (l ++ [y])[i]? = some x) : l[i]? = some x ∨ (i = l.length ∧ x = y) := by
  by_cases hl : i < l.length
  · rw [List.getElem?_append_left hl] at e; exact .inl e
  · rw [List.getElem?_append_right (by omega)] at e
    have h0 := (List.getElem?_eq_some_iff.1 e).1
    simp at h0
    have h1 : i = l.length := by omega
    subst h1
    simp at e
    exact .inr ⟨rfl, e.symm⟩

theorem heap_push_old (w : World) (o : Obj) (b : Nat) (h : b < w.heap.size) : (w.alloc o).heap[b]? = w.heap[b]? := Below.heap_alloc w o b h

/-- A new object. -/
theorem Tr.push {base : Nat} {h : List Ob} {pl : List Pl} {w w' : World} (R : RelO Z base h pl w) (e : ∀ b, b < w.heap.size → w'.heap[b]? = w.heap[b]?) (ob : Ob) (p : Pl) (hp : ∀ b q, p = some (b, q) → w.heap.size ≤ b) : Tr h pl w (h ++ [ob]) (pl ++ [p]) w' where
  old := fun b hb hlt => ⟨away_append hb fun q hq => by have := hp b q hq; omega, e b hlt⟩
  obj := fun l o p ho hp => ⟨o, p, append_left_some ho, append_left_some hp, Nat.le_refl _, rfl, fun _ => ⟨rfl, rfl⟩⟩
  shape := fun l o o' b q ho ho' hg hp c el hb => ⟨c, by rw [e b (R.lt hp).1]; exact hb, rfl⟩

theorem RelO.push' {base : Nat} {h : List Ob} {pl : List Pl} {w w' : World} (R : RelO Z base h pl w) (e : ∀ b, b < w.heap.size → w'.heap[b]? = w.heap[b]?) (ob : Ob) {b0 q0 : Nat} (hp : w.heap.size ≤ b0) (hbase : base ≤ b0)
    (hx : ObAt Z (h ++ [ob]) (pl ++ [some (b0, q0)]) w' ob b0 q0) : RelO Z base (h ++ [ob]) (pl ++ [some (b0, q0)]) w' := by
  have T : Tr h pl w (h ++ [ob]) (pl ++ [some (b0, q0)]) w' := Tr.push R e ob _ (by intro b q e; simp at e; omega)
  refine ⟨by simp [R.len], ?_, ?_, ?_⟩
  · intro l l' b q q' e1 e2
    rcases append_inv e1 with h1 | ⟨h1, h1'⟩ <;> rcases append_inv e2 with h2 | ⟨h2, h2'⟩
    · exact R.inj l l' b q q' h1 h2
    · have := (R.lt h1).1; simp at h2'; omega
    · have := (R.lt h2).1; simp at h1'; omega
    · omega
  · intro l o ho e1
    rcases append_inv e1 with h1 | ⟨h1, h1'⟩
    · rcases append_inv ho with h2 | ⟨h2, h2'⟩
      · exact R.noRow l o h2 h1
      · have := ltp_of_some h1; have := R.len; omega
    · simp at h1'
  · intro l o b q ho hpl
    rcases append_inv hpl with h1 | ⟨h1, h1'⟩
    · rcases append_inv ho with h2 | ⟨h2, h2'⟩
      · obtain ⟨g1, x⟩ := R.at_ l o b q h2 h1
        exact ⟨g1, x.to rfl rfl rfl (e b (R.lt h1).1) (fun _ _ => rfl) fun i j v _ _ hr => hr.tr T⟩
      · have := ltp_of_some h1; have := R.len; omega
    · rcases append_inv ho with h2 | ⟨h2, h2'⟩
      · have := lt_of_some h2; have := R.len; omega
      · subst h2'
        simp at h1'
        obtain ⟨rfl, rfl⟩ := h1'
        exact ⟨fun _ => hbase, hx⟩
theorem RelO.push {base : Nat} {h : List Ob} {pl : List Pl} {w w' : World} (R : RelO Z base h pl w) (e : ∀ b, b < w.heap.size → w'.heap[b]? = w.heap[b]?) (ob : Ob) (hk : ob.kd.ty = 0) {b0 q0 : Nat} (hp : w.heap.size ≤ b0) (hbase : base ≤ b0)
    {c : Array Value} {el : TypeId} (hb : w'.heap[b0]? = some (.cells c el (0, 0))) (hsz : q0 + ob.n * ob.sz ≤ c.size) (hrl : ∀ i, i < ob.n → (ob.row i).length = ob.sz)
    (hrow : ∀ i j, i < ob.n → j < ob.sz → ∃ v, c[q0 + (i * ob.sz + j)]? = some v ∧ RelV Z (h ++ [ob]) (pl ++ [some (b0, q0)]) w' (nth (ob.row i) j) v) : RelO Z base (h ++ [ob]) (pl ++ [some (b0, q0)]) w' :=
  R.push' e ob hp hbase (.ofCells hk ⟨c, el, hb, hsz, hrl, hrow⟩)

/-- An object without rows that lies nowhere. -/
theorem RelO.phantom {base : Nat} {h : List Ob} {pl : List Pl} {w : World} (R : RelO Z base h pl w) (ob : Ob) (hn : ob.n = 0) : RelO Z base (h ++ [ob]) (pl ++ [none]) w := by
  have T : Tr h pl w (h ++ [ob]) (pl ++ [none]) w := Tr.push R (fun _ _ => rfl) ob _ (by intro b q e; simp at e)
  refine ⟨by simp [R.len], ?_, ?_, ?_⟩
  · intro l l' b q q' e1 e2
    rcases append_inv e1 with h1 | ⟨h1, h1'⟩
    · rcases append_inv e2 with h2 | ⟨h2, h2'⟩
      · exact R.inj l l' b q q' h1 h2
      · simp at h2'
    · simp at h1'
  · intro l o ho e1
    rcases append_inv ho with h2 | ⟨h2, h2'⟩
    · rcases append_inv e1 with h1 | ⟨h1, h1'⟩
      · exact R.noRow l o h2 h1
      · have := lt_of_some h2; have := R.len; omega
    · subst h2'; exact hn
  · intro l o b q ho hpl
    rcases append_inv hpl with h1 | ⟨h1, h1'⟩
    · rcases append_inv ho with h2 | ⟨h2, h2'⟩
      · obtain ⟨g1, x⟩ := R.at_ l o b q h2 h1
        exact ⟨g1, x.to rfl rfl rfl rfl (fun _ _ => rfl) fun i j v _ _ hr => hr.tr T⟩
      · have := ltp_of_some h1; have := R.len; omega
    · simp at h1'

/-- The object at 'l' changes its rows in place (its generation, cell size and place stand). -/
theorem Tr.upd {base : Nat} {h : List Ob} {pl : List Pl} {w w' : World} (R : RelO Z base h pl w) {l : Nat} {o o' : Ob} {b q : Nat} (ho : h[l]? = some o) (hp : pl[l]? = some (some (b, q))) (hkd : o'.kd.ty = o.kd.ty) (hg : o'.gen = o.gen) (hz : o'.sz = o.sz)
    (e : ∀ k, k ≠ b → k < w.heap.size → w'.heap[k]? = w.heap[k]?) (hsh : ∀ c el, w.heap[b]? = some (.cells c el (0, 0)) → ∃ c', w'.heap[b]? = some (.cells c' el (0, 0)) ∧ c'.size = c.size) : Tr h pl w (h.set l o') pl w' where
  old := fun k hk hlt => ⟨hk, e k (fun hb => hk l q (by rw [hb]; exact hp)) hlt⟩
  obj := fun l' o1 p ho1 hp1 => by
    by_cases hl : l = l'
    · subst hl
      rw [ho] at ho1; cases ho1
      exact ⟨o', p, by simp [lt_of_some ho], hp1, by omega, hkd, fun _ => ⟨hz, rfl⟩⟩
    · exact ⟨o1, p, by rw [List.getElem?_set_ne hl]; exact ho1, hp1, Nat.le_refl _, rfl, fun _ => ⟨rfl, rfl⟩⟩
  shape := fun l' o1 o2 b1 q1 ho1 ho2 hgg hp1 c el hb => by
    by_cases hl : b1 = b
    · subst hl; exact hsh c el hb
    · exact ⟨c, by rw [e b1 hl (R.lt hp1).1]; exact hb, rfl⟩

theorem RelO.upd' {base : Nat} {h : List Ob} {pl : List Pl} {w w' : World} (R : RelO Z base h pl w) {l : Nat} {o o' : Ob} {b q : Nat} (ho : h[l]? = some o) (hp : pl[l]? = some (some (b, q)))
    (T : Tr h pl w (h.set l o') pl w') (e : ∀ k, k ≠ b → k < w.heap.size → w'.heap[k]? = w.heap[k]?) (hx : ObAt Z (h.set l o') pl w' o' b q) (hro : o'.kd.ro = o.kd.ro) : RelO Z base (h.set l o') pl w' := by
  refine ⟨by simp [R.len], R.inj, ?_, ?_⟩
  · intro l' o1 ho1 hp1
    by_cases hl : l = l'
    · subst hl; rw [hp] at hp1; cases hp1
    · rw [List.getElem?_set_ne hl] at ho1; exact R.noRow l' o1 ho1 hp1
  · intro l' o1 b1 q1 ho1 hp1
    by_cases hl : l = l'
    · subst hl
      rw [hp] at hp1; cases hp1
      have : (h.set l o')[l]? = some o' := by simp [lt_of_some ho]
      rw [this] at ho1; cases ho1
      exact ⟨fun hr => (R.lt hp).2 o ho (by rw [← hro, hr]), hx⟩
    · rw [List.getElem?_set_ne hl] at ho1
      obtain ⟨g1, x⟩ := R.at_ l' o1 b1 q1 ho1 hp1
      have hne : b1 ≠ b := fun hbb => hl (R.inj l l' b q q1 hp (by rw [← hbb]; exact hp1))
      exact ⟨g1, x.to rfl rfl rfl (e b1 hne (R.lt hp1).1) (fun _ _ => rfl) fun i j v _ _ hr => hr.tr T⟩
theorem RelO.upd {base : Nat} {h : List Ob} {pl : List Pl} {w w' : World} (R : RelO Z base h pl w) {l : Nat} {o o' : Ob} {b q : Nat} (ho : h[l]? = some o) (hp : pl[l]? = some (some (b, q))) (hk : o.kd.ty = 0) (hk' : o'.kd.ty = 0) (hg : o'.gen = o.gen) (hz : o'.sz = o.sz)
    (e : ∀ k, k ≠ b → k < w.heap.size → w'.heap[k]? = w.heap[k]?) {c0 c : Array Value} {el : TypeId} (hb0 : w.heap[b]? = some (.cells c0 el (0, 0))) (hb : w'.heap[b]? = some (.cells c el (0, 0))) (hc : c.size = c0.size)
    (hsz : q + o'.n * o'.sz ≤ c.size) (hrl : ∀ i, i < o'.n → (o'.row i).length = o'.sz)
    (hrow : ∀ i j, i < o'.n → j < o'.sz → ∃ v, c[q + (i * o'.sz + j)]? = some v ∧ RelV Z (h.set l o') pl w' (nth (o'.row i) j) v) (hro : o'.kd.ro = o.kd.ro) : RelO Z base (h.set l o') pl w' :=
  R.upd' (hro := hro) ho hp (Tr.upd R ho hp (by rw [hk, hk']) hg hz e (fun c1 el1 h1 => by rw [hb0] at h1; cases h1; exact ⟨c, hb, hc⟩)) e (.ofCells hk' ⟨c, el, hb, hsz, hrl, hrow⟩)
end Go.Fg
namespace Go.Fg
set_option linter.unusedSimpArgs false
set_option linter.unusedVariables false
open Go.RowKit (Below)
variable {Z : Nat → Prop}

/-! Types ens the evaluator knows them. -/
inductive TK where
  | int (k : IntKind) | bool | str | slice (e : TypeId) | array (n : Nat) (e : TypeId) | struct (fs : List (Nat × TypeId)) | ptr (e : TypeId) | map (k e : TypeId) | fn | iface | other
def TK.of : TypeDesc → TK
  | .int k => .int k
  | .bool => .bool
  | .string => .str
  | .slice e => .slice e
  | .array n e => .array n e
  | .struct fs => .struct (fs.toList.map fun f => (f.offset, f.type))
  | .pointer e => .ptr e
  | .map k e => .map k e
  | .func _ _ _ => .fn
  | .interface _ => .iface
  | _ => .other
structure Ty where
  k : TK
  size : Nat
  bytes : Nat
  zero : List Value
def TK.agg : TK → Bool
  | .struct _ | .array _ _ => true
  | _ => false
def vAgg : Value → Bool
  | .agg _ => true
  | _ => false
structure TyOk (P : Program) (t : TypeId) (y : Ty) : Prop where
  k : (P.underlying t).map TK.of = some y.k
  info : (P.info? t).map (fun i => (i.size, i.bytes, i.zero.map fun z => z.cells.toList)) = some (y.size, y.bytes, some y.zero)
  zag : ((P.info? t).bind (·.zero)).map vAgg = some y.k.agg
abbrev Lay := List (TypeId × Ty)
def ty : Lay → TypeId → Option Ty
  | [], _ => none
  | (u, y) :: r, t => bif Nat.beq u t then some y else ty r t
def LayOk (P : Program) (L : Lay) : Prop := ∀ t y, ty L t = some y → TyOk P t y
theorem LayOk.nil (P : Program) : LayOk P [] := fun _ _ h => by simp [ty] at h
theorem LayOk.cons {P : Program} {L : Lay} {t : TypeId} {y : Ty} (h : TyOk P t y) (r : LayOk P L) : LayOk P ((t, y) :: L) := fun u z e => by
  simp only [ty] at e
  by_cases hu : t = u
  · subst hu; simp at e; subst e; exact h
  · have : Nat.beq t u = false := by rw [← Bool.not_eq_true, Nat.beq_eq]; exact hu
    rw [this] at e; exact r u z e

section
variable {P : Program} {t : TypeId} {y : Ty} (h : TyOk P t y)
include h
theorem TyOk.under : ∃ d, P.underlying t = some d ∧ TK.of d = y.k := by
  have := h.k
  cases hd : P.underlying t with
  | none => rw [hd] at this; cases this
  | some d => rw [hd] at this; exact ⟨d, rfl, by simpa using this⟩
theorem TyOk.sizeOf (w : World) : (Go.sizeOf t).run P w = .ok y.size w := by
  have := h.info
  cases hi : P.info? t with
  | none => rw [hi] at this; cases this
  | some i =>
    rw [hi] at this
    simp at this
    simp [Go.sizeOf, typeInfo, hi, this.1]
theorem TyOk.typeInfo (w : World) : ∃ i, (Go.typeInfo t).run P w = .ok i w ∧ i.size = y.size ∧ i.bytes = y.bytes := by
  have := h.info
  cases hi : P.info? t with
  | none => rw [hi] at this; cases this
  | some i =>
    rw [hi] at this
    simp at this
    exact ⟨i, by simp [Go.typeInfo, hi], this.1, this.2.1⟩
theorem TyOk.zeroValue : ∃ z, z.cells.toList = y.zero ∧ ∀ w, (Go.zeroValue t).run P w = .ok z w := by
  have := h.info
  cases hi : P.info? t with
  | none => rw [hi] at this; cases this
  | some i =>
    rw [hi] at this
    simp at this
    obtain ⟨_, _, z, hz, hz'⟩ := this
    exact ⟨z, hz', fun w => by simp [Go.zeroValue, Go.typeInfo, hi, hz]⟩
theorem TyOk.isAgg (w : World) : (Go.isAgg t).run P w = .ok y.k.agg w := by
  obtain ⟨d, hd, he⟩ := h.under
  rw [← he]
  cases d <;> simp [Go.isAgg, run_underlying hd, TK.of, TK.agg]
end

theorem TK.of_slice {d : TypeDesc} {e : TypeId} (h : TK.of d = .slice e) : d = .slice e := by cases d <;> simp [TK.of] at h; rw [h]
theorem TK.of_array {d : TypeDesc} {n : Nat} {e : TypeId} (h : TK.of d = .array n e) : d = .array n e := by cases d <;> simp [TK.of] at h; rw [h.1, h.2]
theorem TK.of_struct {d : TypeDesc} {fs : List (Nat × TypeId)} (h : TK.of d = .struct fs) : ∃ g, d = .struct g ∧ g.toList.map (fun f => (f.offset, f.type)) = fs := by cases d <;> simp [TK.of] at h; exact ⟨_, rfl, by simpa using h⟩
theorem TK.of_int {d : TypeDesc} {k : IntKind} (h : TK.of d = .int k) : d = .int k := by cases d <;> simp [TK.of] at h; rw [h]
theorem TK.of_bool {d : TypeDesc} (h : TK.of d = .bool) : d = .bool := by cases d <;> simp [TK.of] at h; rfl
theorem TK.of_str {d : TypeDesc} (h : TK.of d = .str) : d = .string := by cases d <;> simp [TK.of] at h; rfl
theorem TK.of_ptr {d : TypeDesc} {e : TypeId} (h : TK.of d = .ptr e) : d = .pointer e := by cases d <;> simp [TK.of] at h; rw [h]
theorem TK.of_map {d : TypeDesc} {k e : TypeId} (h : TK.of d = .map k e) : d = .map k e := by cases d <;> simp [TK.of] at h; rw [h.1, h.2]

theorem under_slice {P : Program} {t e : TypeId} {y : Ty} (h : TyOk P t y) (hk : y.k = .slice e) : P.underlying t = some (.slice e) := by
  obtain ⟨d, hd, he⟩ := h.under; rw [hk] at he; rw [hd, TK.of_slice he]
theorem under_array {P : Program} {t e : TypeId} {n : Nat} {y : Ty} (h : TyOk P t y) (hk : y.k = .array n e) : P.underlying t = some (.array n e) := by
  obtain ⟨d, hd, he⟩ := h.under; rw [hk] at he; rw [hd, TK.of_array he]
theorem under_struct {P : Program} {t : TypeId} {fs : List (Nat × TypeId)} {y : Ty} (h : TyOk P t y) (hk : y.k = .struct fs) : ∃ g, P.underlying t = some (.struct g) ∧ g.toList.map (fun f => (f.offset, f.type)) = fs := by
  obtain ⟨d, hd, he⟩ := h.under; rw [hk] at he; obtain ⟨g, hg, hm⟩ := TK.of_struct he; exact ⟨g, by rw [hd, hg], hm⟩
theorem under_int {P : Program} {t : TypeId} {k : IntKind} {y : Ty} (h : TyOk P t y) (hk : y.k = .int k) : P.underlying t = some (.int k) := by
  obtain ⟨d, hd, he⟩ := h.under; rw [hk] at he; rw [hd, TK.of_int he]
theorem under_bool {P : Program} {t : TypeId} {y : Ty} (h : TyOk P t y) (hk : y.k = .bool) : P.underlying t = some .bool := by
  obtain ⟨d, hd, he⟩ := h.under; rw [hk] at he; rw [hd, TK.of_bool he]
theorem under_str {P : Program} {t : TypeId} {y : Ty} (h : TyOk P t y) (hk : y.k = .str) : P.underlying t = some .string := by
  obtain ⟨d, hd, he⟩ := h.under; rw [hk] at he; rw [hd, TK.of_str he]
theorem under_ptr {P : Program} {t e : TypeId} {y : Ty} (h : TyOk P t y) (hk : y.k = .ptr e) : P.underlying t = some (.pointer e) := by
  obtain ⟨d, hd, he⟩ := h.under; rw [hk] at he; rw [hd, TK.of_ptr he]
theorem under_map {P : Program} {t k e : TypeId} {y : Ty} (h : TyOk P t y) (hk : y.k = .map k e) : P.underlying t = some (.map k e) := by
  obtain ⟨d, hd, he⟩ := h.under; rw [hk] at he; rw [hd, TK.of_map he]

/-! Operands. -/
def ofCell : Value → D
  | .slice none 0 0 => .nil
  | v => .raw v
def ofC : Value → D
  | .agg cs => .agg (cs.toList.map ofCell)
  | v => ofCell v
def evalO (fr : List (Nat × D)) : Operand → D
  | .tmp t => get fr t
  | .const v => ofC v
  | .global _ => .undef
  | .func f => .raw (.func (.func f) #[] #[])

theorem cl_ofCell (N : Nat → Prop) (w : World) (v : Value) : Cl N w (ofCell v) v := by
  unfold ofCell
  split
  · exact .nil none
  · exact .raw _
theorem cl_ofC (N : Nat → Prop) (w : World) (v : Value) : Cl N w (ofC v) v := by
  unfold ofC
  split
  · rename_i cs
    have := Cl.agg (N := N) (w := w) (cs.toList.map ofCell) cs.toList (by simp) (fun i hi => by
      have hi' : i < cs.size := by simpa using hi
      simp only [nth, nthV, List.getD_eq_getElem?_getD, List.getElem?_map]
      rw [List.getElem?_eq_getElem (by simpa using hi')]
      exact cl_ofCell N w _)
    simpa using this
  · exact cl_ofCell N w _

theorem Rel.eval {base nt : Nat} {s : St} {pl : List Pl} {a : Act} {w : World} (r : Rel Z base nt s pl a w) (x : Operand) : RelV Z s.h pl w (evalO s.fr x) (a.eval x) := by
  cases x with
  | tmp t => exact r.fr t
  | const v => exact .cl _ _ (cl_ofC _ _ v)
  | global g => exact .cl _ _ (.undef _)
  | func f => exact .cl _ _ (.raw _)

/-! What an abstract value says of the value. -/
section
variable {h : List Ob} {pl : List Pl} {w : World} {v : Value}
theorem inv_raw {u : Value} (r : RelV Z h pl w (.raw u) v) : v = u := by
  cases r with | cl _ _ hc => cases hc; rfl
theorem inv_nil (r : RelV Z h pl w .nil v) : ∃ a, v = .slice a 0 0 := by
  cases r with | cl _ _ hc => cases hc; exact ⟨_, rfl⟩
theorem inv_ref {l g off len : Nat} (r : RelV Z h pl w (.ref l g off len) v) : ∃ o p a cap, v = .slice a len cap ∧ h[l]? = some o ∧ pl[l]? = some p ∧ o.kd.ty = 0 ∧ g ≤ o.gen ∧ (g = o.gen → SliceAt w o.sz p off len a cap) := by
  cases r with
  | cl _ _ hc => cases hc
  | ref _ _ _ _ o p a cap ho hp hk hg hs => exact ⟨o, p, a, cap, rfl, ho, hp, hk, hg, hs⟩
theorem inv_ptr {l g i j : Nat} (r : RelV Z h pl w (.ptr l g i j) v) : ∃ o p a, v = .pointer (some a) ∧ h[l]? = some o ∧ pl[l]? = some p ∧ o.kd.ty = 0 ∧ g ≤ o.gen ∧ (g = o.gen → ∃ b q, p = some (b, q) ∧ a = ⟨b, q + (i * o.sz + j), none⟩) := by
  cases r with
  | cl _ _ hc => cases hc
  | ptr _ _ _ _ o p a ho hp hk hg hs => exact ⟨o, p, a, rfl, ho, hp, hk, hg, hs⟩
theorem inv_mref {l g : Nat} (r : RelV Z h pl w (.mref l g) v) : ∃ o p b, h[l]? = some o ∧ pl[l]? = some p ∧ MOk o.kd.ty b v ∧ g ≤ o.gen ∧ (g = o.gen → p = some (b, 0)) := by
  cases r with
  | cl _ _ hc => cases hc
  | mref _ _ o p b ho hp hk hg hs => exact ⟨o, p, b, ho, hp, hk, hg, hs⟩
theorem inv_agg {cs : List D} (r : RelV Z h pl w (.agg cs) v) : ∃ vs : List Value, v = .agg vs.toArray ∧ vs.length = cs.length ∧ ∀ i, i < cs.length → RelV Z h pl w (nth cs i) (nthV vs i) := by
  cases r with
  | cl _ _ hc => cases hc with | agg _ vs hl hr => exact ⟨vs, rfl, hl, fun i hi => .cl _ _ (hr i hi)⟩
  | agg _ vs hl hr => exact ⟨vs, rfl, hl, hr⟩
theorem inv_tup {cs : List D} (r : RelV Z h pl w (.tup cs) v) : ∃ vs : List Value, v = .tuple vs.toArray ∧ vs.length = cs.length ∧ ∀ i, i < cs.length → RelV Z h pl w (nth cs i) (nthV vs i) := by
  cases r with
  | cl _ _ hc => cases hc with | tup _ vs hl hr => exact ⟨vs, rfl, hl, fun i hi => .cl _ _ (hr i hi)⟩
  | tup _ vs hl hr => exact ⟨vs, rfl, hl, hr⟩
theorem inv_clo {f : FuncId} {nf : Nat} {cs : List D} (r : RelV Z h pl w (.clo f nf cs) v) : ∃ vs : List Value, v = .func (.func f) (vs.take nf).toArray (vs.drop nf).toArray ∧ vs.length = cs.length ∧ ∀ i, i < cs.length → RelV Z h pl w (nth cs i) (nthV vs i) := by
  cases r with
  | cl _ _ hc => cases hc with | clo _ _ _ vs hl hr => exact ⟨vs, rfl, hl, fun i hi => .cl _ _ (hr i hi)⟩
  | clo _ _ _ vs hl hr => exact ⟨vs, rfl, hl, hr⟩
theorem inv_ip {cs : List D} (r : RelV Z h pl w (.ip cs) v) : ∃ b o, ∃ vs : Nat → Value, v = .pointer (some ⟨b, o, none⟩) ∧ ∀ j, j < cs.length → (free Z pl b ∧ w.cell? ⟨b, o + j, none⟩ = some (vs j)) ∧ Cl (free Z pl) w (nth cs j) (vs j) := by
  cases r with
  | cl _ _ hc => cases hc with | ip _ b o vs hc hr => exact ⟨b, o, vs, rfl, fun j hj => ⟨hc j hj, hr j hj⟩⟩
theorem inv_imm {sz n : Nat} {row : Nat → List D} (r : RelV Z h pl w (.imm sz n row) v) : ∃ a cap b o, ∃ vs : Nat → Nat → Value, v = .slice a n cap ∧ (0 < n → a = some ⟨b, o, none⟩) ∧ n ≤ cap ∧ (∀ i, i < n → (row i).length = sz) ∧
    ∀ i j, i < n → j < sz → (free Z pl b ∧ w.cell? ⟨b, o + (i * sz + j), none⟩ = some (vs i j)) ∧ Cl (free Z pl) w (nth (row i) j) (vs i j) := by
  cases r with
  | cl _ _ hc => cases hc with | imm _ _ _ a cap b o vs ha hl hs hc hr => exact ⟨a, cap, b, o, vs, rfl, ha, hl, hs, fun i j hi hj => ⟨hc i j hi hj, hr i j hi hj⟩⟩
end

/-- What a pure or reading operation yields: in the world at hand and in every one that only has more. -/
def PureOk (P : Program) (base nt : Nat) (o : Oper) (s : St) (d : D) : Prop :=
  ∀ (Z : Nat → Prop) pl a w, Rel Z base nt s pl a w → ∃ v, RelV Z s.h pl w d v ∧ ∀ w' : World, (∀ b, b < w.heap.size → w'.heap[b]? = w.heap[b]?) → (execOp a.eval o).run P w' = .ok (.value v) w'

theorem cell_ext {w w' : World} (e : ∀ b, b < w.heap.size → w'.heap[b]? = w.heap[b]?) {a : Addr} {v : Value} (h : w.cell? a = some v) : w'.cell? a = some v := by
  rw [World.cell?_of_block (w := w) (e a.block (block_lt_of_cell h))]; exact h

/-- What cells hold stays. -/
def ExtC (w w' : World) : Prop := ∀ (a : Addr) (v : Value), w.cell? a = some v → w'.cell? a = some v
theorem ExtC.trans {a b c : World} (h : ExtC a b) (k : ExtC b c) : ExtC a c := fun x v hx => k x v (h x v hx)
theorem ExtC.ext {w w' : World} (e : ∀ b, b < w.heap.size → w'.heap[b]? = w.heap[b]?) : ExtC w w' := fun _ _ h => cell_ext e h
/-- A value that looks at cells alone. -/
def PureOkC (P : Program) (base nt : Nat) (o : Oper) (s : St) (d : D) : Prop :=
  ∀ (Z : Nat → Prop) pl a w, Rel Z base nt s pl a w → ∃ v, RelV Z s.h pl w d v ∧ ∀ w' : World, ExtC w w' → (execOp a.eval o).run P w' = .ok (.value v) w'
theorem PureOkC.up {P : Program} {base nt : Nat} {o : Oper} {s : St} {d : D} (h : PureOkC P base nt o s d) : PureOk P base nt o s d := fun Z pl a w r => by
  obtain ⟨v, h1, h2⟩ := h Z pl a w r
  exact ⟨v, h1, fun w' e => h2 w' (.ext e)⟩

/-! The evaluator. 'none': not its part. The proposition: under what the value holds. -/
abbrev Ev := Option (Prop × D)
def pbinI (op : BinOp) (k : IntKind) (a b : Int) : Ev :=
  match op with
  | .add => some (True, .raw (.int k (k.wrap (a + b))))
  | .sub => some (True, .raw (.int k (k.wrap (a - b))))
  | .mul => some (True, .raw (.int k (k.wrap (a * b))))
  | .quo => some (b ≠ 0, .raw (.int k (k.wrap (a.tdiv b))))
  | .rem => some (b ≠ 0, .raw (.int k (a.tmod b)))
  | .and => some (True, .raw (.int k (bits .and k a b)))
  | .or => some (True, .raw (.int k (bits .or k a b)))
  | .xor => some (True, .raw (.int k (bits .xor k a b)))
  | .andNot => some (True, .raw (.int k (bits .andNot k a b)))
  | .eql => some (True, .raw (.bool (a == b)))
  | .neq => some (True, .raw (.bool (a != b)))
  | .lss => some (True, .raw (.bool (decide (a < b))))
  | .leq => some (True, .raw (.bool (decide (a ≤ b))))
  | .gtr => some (True, .raw (.bool (decide (b < a))))
  | .geq => some (True, .raw (.bool (decide (b ≤ a))))
  | _ => none
def pshift (op : BinOp) (k : IntKind) (a b : Int) : Ev :=
  match op with
  | .shl => some (0 ≤ b, .raw (.int k (k.wrap (a * 2 ^ (min b.toNat k.bits)))))
  | .shr => some (0 ≤ b, .raw (.int k (a.fdiv (2 ^ (min b.toNat k.bits)))))
  | _ => none
def IntKind.same : IntKind → IntKind → Bool
  | .i8, .i8 | .i16, .i16 | .i32, .i32 | .i64, .i64 | .u8, .u8 | .u16, .u16 | .u32, .u32 | .u64, .u64 => true
  | _, _ => false
theorem IntKind.same_eq {k k' : IntKind} (h : IntKind.same k k' = true) : k = k' := by cases k <;> cases k' <;> first | rfl | cases h
def isShift : BinOp → Bool
  | .shl | .shr => true
  | _ => false
def pbinB (op : BinOp) (a b : Bool) : Ev :=
  match op with
  | .eql => some (True, .raw (.bool (a == b)))
  | .neq => some (True, .raw (.bool (a != b)))
  | _ => none
def pbinS (op : BinOp) (a b : ByteArray) : Ev :=
  match op with
  | .add => some (a.size + b.size ≤ 9223372036854775807, .raw (.string (a ++ b)))
  | .eql => some (True, .raw (.bool (a.toList == b.toList)))
  | .neq => some (True, .raw (.bool (!(a.toList == b.toList))))
  | .lss => some (True, .raw (.bool (Op.bytesLess a.toList b.toList)))
  | _ => none
/-- One pointer is nil. -/
def pbinP (op : BinOp) (both : Bool) : Ev :=
  match op with
  | .eql => some (True, .raw (.bool both))
  | .neq => some (True, .raw (.bool (!both)))
  | _ => none
def isPtrTy (L : Lay) (t : TypeId) : Bool := match ty L t with | some ⟨.ptr _, _, _, _⟩ => true | _ => false
def isBoolTy (L : Lay) (t : TypeId) : Bool := match ty L t with | some ⟨.bool, _, _, _⟩ => true | _ => false
def pbin (L : Lay) (op : BinOp) (t : TypeId) : D → D → Ev
  | .raw (.int k a), .raw (.int k' b) => bif isShift op then pshift op k a b else bif IntKind.same k k' then pbinI op k a b else none
  | .raw (.bool a), .raw (.bool b) => bif isBoolTy L t then pbinB op a b else none
  | .raw (.string a), .raw (.string b) => pbinS op a b
  | .raw (.pointer none), .raw (.pointer none) => bif isPtrTy L t then pbinP op true else none
  | .ptr _ _ _ _, .raw (.pointer none) => bif isPtrTy L t then pbinP op false else none
  | .ip _, .raw (.pointer none) => bif isPtrTy L t then pbinP op false else none
  | .raw (.pointer none), .ptr _ _ _ _ => bif isPtrTy L t then pbinP op false else none
  | .raw (.pointer none), .ip _ => bif isPtrTy L t then pbinP op false else none
  | _, _ => none

theorem run_v (P : Program) (w : World) {s : Sem Value} {v : Value} (h : s.run P w = .ok v w) : (do pure (Next.value (← s)) : Sem Next).run P w = .ok (.value v) w := by
  simp [h]

theorem pbinI_ok {P : Program} {op : BinOp} {k : IntKind} {a b : Int} {p : Prop} {d : D} (t : TypeId) (h : pbinI op k a b = some (p, d)) (hp : p) : ∃ v, d = .raw v ∧ ∀ w, (Go.binOp op t (.int k a) (.int k b)).run P w = .ok v w := by
  cases op <;> simp only [pbinI, Option.some.injEq, Prod.mk.injEq, reduceCtorEq] at h <;> obtain ⟨rfl, rfl⟩ := h <;> refine ⟨_, rfl, fun w => ?_⟩ <;>
    simp_all [Go.binOp, Op.intArith, Op.intDiv, Op.intBits, Op.intCmp, bits]
theorem pshift_ok {P : Program} {op : BinOp} {k k' : IntKind} {a b : Int} {p : Prop} {d : D} (t : TypeId) (h : pshift op k a b = some (p, d)) (hp : p) : ∃ v, d = .raw v ∧ ∀ w, (Go.binOp op t (.int k a) (.int k' b)).run P w = .ok v w := by
  cases op <;> simp only [pshift, Option.some.injEq, Prod.mk.injEq, reduceCtorEq] at h <;> obtain ⟨rfl, rfl⟩ := h <;> refine ⟨_, rfl, fun w => ?_⟩ <;>
    (have : ¬ b < 0 := by omega
     simp [Go.binOp, Op.shift, this])
theorem pbinS_ok {P : Program} {op : BinOp} {a b : ByteArray} {p : Prop} {d : D} (t : TypeId) (h : pbinS op a b = some (p, d)) (hp : p) : ∃ v, d = .raw v ∧ ∀ w, (Go.binOp op t (.string a) (.string b)).run P w = .ok v w := by
  cases op <;> simp only [pbinS, Option.some.injEq, Prod.mk.injEq, reduceCtorEq] at h <;> obtain ⟨rfl, rfl⟩ := h <;> refine ⟨_, rfl, fun w => ?_⟩ <;>
    simp [Go.binOp, Op.stringOp]
  omega
theorem eqIn_ptr {P : Program} {t e : TypeId} (ht : P.underlying t = some (.pointer e)) (n : Nat) {x y : Option Addr} (hxy : x = none ∨ y = none) (w : World) : (Op.equalIn (n + 1) t (.pointer x) (.pointer y)).run P w = .ok (x.isNone && y.isNone) w := by
  rcases hxy with rfl | rfl
  · simp [Op.equalIn, run_underlying ht]
  · cases x <;> simp [Op.equalIn, run_underlying ht]
theorem run_eql_of {P : Program} {t : TypeId} {x y : Value} {b : Bool} {w : World} (hb : ∀ n, (Op.equalIn (n + 1) t x y).run P w = .ok b w) : (Op.equal t x y).run P w = .ok b w := hb 9999
theorem pbinB_ok {P : Program} {op : BinOp} {a b : Bool} {p : Prop} {d : D} (t : TypeId) (ht : P.underlying t = some .bool) (h : pbinB op a b = some (p, d)) : ∃ v, d = .raw v ∧ ∀ w, (Go.binOp op t (.bool a) (.bool b)).run P w = .ok v w := by
  have he : ∀ w, (Op.equal t (.bool a) (.bool b)).run P w = .ok (a == b) w := fun w => run_eql_of fun n => run_equalIn_bool' w n t a b ht
  cases op <;> simp only [pbinB, Option.some.injEq, Prod.mk.injEq, reduceCtorEq] at h <;> obtain ⟨rfl, rfl⟩ := h <;> refine ⟨_, rfl, fun w => ?_⟩ <;> simp only [Go.binOp]
  · simp [he]
  · simp [he, bne]
theorem pbinP_ok {P : Program} {op : BinOp} {x y : Option Addr} (hxy : x = none ∨ y = none) {p : Prop} {d : D} {t e : TypeId} (ht : P.underlying t = some (.pointer e)) (h : pbinP op (x.isNone && y.isNone) = some (p, d)) : ∃ v, d = .raw v ∧ ∀ w, (Go.binOp op t (.pointer x) (.pointer y)).run P w = .ok v w := by
  have he : ∀ w, (Op.equal t (.pointer x) (.pointer y)).run P w = .ok (x.isNone && y.isNone) w := fun w => run_eql_of fun n => eqIn_ptr ht n hxy w
  cases op <;> simp only [pbinP, Option.some.injEq, Prod.mk.injEq, reduceCtorEq] at h <;> obtain ⟨rfl, rfl⟩ := h <;> refine ⟨_, rfl, fun w => ?_⟩ <;> simp only [Go.binOp]
  · simp [he]
  · simp [he]
theorem isPtrTy_ok {P : Program} {L : Lay} (hL : LayOk P L) {t : TypeId} (h : isPtrTy L t = true) : ∃ e, P.underlying t = some (.pointer e) := by
  unfold isPtrTy at h
  split at h
  · rename_i e _ _ _ he; exact ⟨e, under_ptr (hL _ _ he) rfl⟩
  · cases h
theorem isBoolTy_ok {P : Program} {L : Lay} (hL : LayOk P L) {t : TypeId} (h : isBoolTy L t = true) : P.underlying t = some .bool := by
  unfold isBoolTy at h
  split at h
  · rename_i he; exact under_bool (hL _ _ he) rfl
  · cases h
theorem cond_none {α : Type} {c : Bool} {x : Option α} {y : α} (h : (bif c then x else none) = some y) : c = true ∧ x = some y := by cases c <;> simp at h; exact ⟨rfl, h⟩

theorem pbin_ok {P : Program} {L : Lay} (hL : LayOk P L) {base nt : Nat} {s : St} {o : Oper} {op : BinOp} {t yt : TypeId} {x y : Operand} (ho : o.op = .binOp op t x y yt) {p : Prop} {d : D}
    (h : pbin L op t (evalO s.fr x) (evalO s.fr y) = some (p, d)) (hp : p) : PureOk P base nt o s d := by
  intro Z pl a w r
  have hx := r.eval x
  have hy := r.eval y
  generalize evalO s.fr x = dx at *
  generalize evalO s.fr y = dy at *
  have fin : ∀ (vx vy : Value), a.eval x = vx → a.eval y = vy → (∀ w, (eqGuard op t x y vx vy).run P w = .ok () w) → (∃ v, d = .raw v ∧ ∀ w, (Go.binOp op t vx vy).run P w = .ok v w) →
      ∃ v, RelV Z s.h pl w d v ∧ ∀ w' : World, (∀ b, b < w.heap.size → w'.heap[b]? = w.heap[b]?) → (execOp a.eval o).run P w' = .ok (.value v) w' := by
    intro vx vy e1 e2 hg ⟨v, hd, hv⟩
    refine ⟨v, hd ▸ .cl _ _ (.raw v), fun w' _ => ?_⟩
    simp only [execOp, ho, e1, e2]
    refine run_v P w' ?_
    simp [hg, hv]
  unfold pbin at h
  split at h
  · rename_i k i k' j
    have e1 := inv_raw hx; have e2 := inv_raw hy
    refine fin _ _ e1 e2 (fun w => by cases op <;> simp [eqGuard]) ?_
    cases hs : isShift op
    · rw [hs] at h
      simp only [cond_false] at h
      obtain ⟨hk, h1⟩ := cond_none h
      have := IntKind.same_eq hk; subst this
      exact pbinI_ok t h1 hp
    · rw [hs] at h
      exact pshift_ok t h hp
  · obtain ⟨ht, h⟩ := cond_none h
    exact fin _ _ (inv_raw hx) (inv_raw hy) (fun w => by cases op <;> simp [eqGuard]) (pbinB_ok t (isBoolTy_ok hL ht) h)
  · exact fin _ _ (inv_raw hx) (inv_raw hy) (fun w => by cases op <;> simp [eqGuard]) (pbinS_ok t h hp)
  · obtain ⟨ht, h⟩ := cond_none h
    obtain ⟨e, he⟩ := isPtrTy_ok hL ht
    exact fin _ _ (inv_raw hx) (inv_raw hy) (fun w => by cases op <;> simp [eqGuard]) (pbinP_ok (.inl rfl) he h)
  · obtain ⟨ht, h⟩ := cond_none h
    obtain ⟨e, he⟩ := isPtrTy_ok hL ht
    obtain ⟨_, _, aa, hv, _⟩ := inv_ptr hx
    exact fin _ _ hv (inv_raw hy) (fun w => by cases op <;> simp [eqGuard]) (pbinP_ok (.inr rfl) he h)
  · obtain ⟨ht, h⟩ := cond_none h
    obtain ⟨e, he⟩ := isPtrTy_ok hL ht
    obtain ⟨_, _, _, hv, _⟩ := inv_ip hx
    exact fin _ _ hv (inv_raw hy) (fun w => by cases op <;> simp [eqGuard]) (pbinP_ok (.inr rfl) he h)
  · obtain ⟨ht, h⟩ := cond_none h
    obtain ⟨e, he⟩ := isPtrTy_ok hL ht
    obtain ⟨_, _, aa, hv, _⟩ := inv_ptr hy
    exact fin _ _ (inv_raw hx) hv (fun w => by cases op <;> simp [eqGuard]) (pbinP_ok (.inl rfl) he h)
  · obtain ⟨ht, h⟩ := cond_none h
    obtain ⟨e, he⟩ := isPtrTy_ok hL ht
    obtain ⟨_, _, _, hv, _⟩ := inv_ip hy
    exact fin _ _ (inv_raw hx) hv (fun w => by cases op <;> simp [eqGuard]) (pbinP_ok (.inl rfl) he h)
  · cases h
end Go.Fg
namespace Go.Fg
set_option linter.unusedSimpArgs false
set_option linter.unusedVariables false
open Go.RowKit (Below)
variable {Z : Nat → Prop}

section
variable {P : Program} {L : Lay} {base nt : Nat} {s : St} {o : Oper}

theorem move_ok {x : Operand} (ho : o.op = .move x ∨ o.op = .assign x) : PureOk P base nt o s (evalO s.fr x) := by
  intro Z pl a w r
  refine ⟨_, r.eval x, fun w' _ => ?_⟩
  rcases ho with ho | ho <;> simp [execOp, ho]

theorem pick_ok {c x y : Operand} (ho : o.op = .pick c x y) {b : Bool} (hc : evalO s.fr c = .raw (.bool b)) : PureOk P base nt o s (bif b then evalO s.fr x else evalO s.fr y) := by
  intro Z pl a w r
  have h := r.eval c
  rw [hc] at h
  have e := inv_raw h
  cases b
  · exact ⟨_, r.eval y, fun w' _ => by simp [execOp, ho, e, asBool]⟩
  · exact ⟨_, r.eval x, fun w' _ => by simp [execOp, ho, e, asBool]⟩

/-- A variable of a type out of cells. -/
def mk (y : Ty) (cells : List D) : D := bif y.k.agg then .agg (cells.take y.size) else nth cells 0

/-- A type's zero value. -/
def zeroD (y : Ty) : D := bif y.k.agg then .agg (y.zero.map ofCell) else nth (y.zero.map ofCell) 0
theorem zeroD_ok {P : Program} {t : TypeId} {y : Ty} (h : TyOk P t y) {N : Nat → Prop} (w : World) : ∃ z, Cl N w (zeroD y) z ∧ ∀ w', (Go.zeroValue t).run P w' = .ok z w' := by
  have h1 := h.info
  have h2 := h.zag
  cases hi : P.info? t with
  | none => rw [hi] at h1; cases h1
  | some i =>
    rw [hi] at h1 h2
    simp at h1
    obtain ⟨_, _, z, hz, hz'⟩ := h1
    simp [hz] at h2
    refine ⟨z, ?_, fun w => by simp [Go.zeroValue, Go.typeInfo, hi, hz]⟩
    unfold zeroD
    rw [← h2, ← hz']
    cases z with
    | agg cs =>
      simp only [vAgg, cond_true]
      refine .agg _ cs.toList (by simp [Value.cells]) fun i hi => ?_
      have hi' : i < cs.size := by simpa [Value.cells] using hi
      have e1 : nth ((Value.agg cs).cells.toList.map ofCell) i = ofCell (nthV cs.toList i) := by
        simp [nth, nthV, Value.cells, List.getD_eq_getElem?_getD, hi']
      rw [e1]; exact cl_ofCell N w _
    | _ => simp only [vAgg, cond_false, Value.cells, nth, List.map_cons, List.map_nil, List.getD_cons_zero]; exact cl_ofCell N w _

theorem nth_take {cs : List D} {k i : Nat} (h : i < k) : nth (cs.take k) i = nth cs i := by
  simp only [nth, List.getD_eq_getElem?_getD, List.getElem?_take, h, if_true]
theorem nth_drop {cs : List D} {k i : Nat} : nth (cs.drop k) i = nth cs (k + i) := by
  simp only [nth, List.getD_eq_getElem?_getD, List.getElem?_drop]

/-- The load of a variable whose cells are known. -/
theorem run_loadVar {t : TypeId} {y : Ty} (ht : TyOk P t y) (w : World) (ad : Addr) (cells : List D) {h : List Ob} {pl : List Pl} (w0 : World) (hsz : y.size ≤ cells.length) (h1 : y.k.agg = false → y.size = 1)
    (hc : ∀ j, j < y.size → ∃ v, w.cell? (ad.add j) = some v ∧ RelV Z h pl w0 (nth cells j) v) :
    ∃ v, RelV Z h pl w0 (mk y cells) v ∧ ∀ w', (∀ j v, j < y.size → w.cell? (ad.add j) = some v → w'.cell? (ad.add j) = some v) → (loadVar t ad).run P w' = .ok v w' := by
  unfold mk
  cases hk : y.k.agg
  · have hs := h1 hk
    obtain ⟨v, hv, hr⟩ := hc 0 (by omega)
    refine ⟨v, hr, fun w' hw' => ?_⟩
    have := hw' 0 v (by omega) hv
    simp only [Addr.add_zero'] at this
    simp [loadVar, ht.isAgg, hk, this]
  · let f : Nat → Value := fun j => (w.cell? (ad.add j)).getD Go.undef
    refine ⟨.agg ((List.range y.size).map f).toArray, .agg _ _ (by simp; omega) (fun i hi => ?_), fun w' hw' => ?_⟩
    · have hi' : i < y.size := by simp at hi; omega
      obtain ⟨v, hv, hr⟩ := hc i hi'
      rw [nth_take hi']
      have : nthV ((List.range y.size).map f) i = v := by
        simp [nthV, List.getD_eq_getElem?_getD, hi', f, hv]
      rw [this]; exact hr
    · have hl : (loadCells ad y.size).run P w' = .ok ((List.range y.size).map f).toArray w' := run_loadCells w' ad y.size f (fun j hj => by
        obtain ⟨v, hv, _⟩ := hc j hj
        rw [hw' j v hj hv]; simp [f, hv])
      simp [loadVar, ht.isAgg, hk, ht.sizeOf, hl]

def pload (L : Lay) (h : List Ob) (t : TypeId) (d : D) : Ev :=
  match ty L t with
  | none => none
  | some y =>
    match d with
    | .ptr l g i j => match h[l]? with
      | some o => some (g = o.gen ∧ i < o.n ∧ j + y.size ≤ o.sz ∧ (y.k.agg = false → y.size = 1), mk y ((o.row i).drop j))
      | none => none
    | .ip cells => some (y.size ≤ cells.length ∧ (y.k.agg = false → y.size = 1), mk y cells)
    | _ => none

theorem add_mk (b o n : Nat) : (⟨b, o, none⟩ : Addr).add n = ⟨b, o + n, none⟩ := Addr.add_lit b o n

theorem load_okC (hL : LayOk P L) {t : TypeId} {x : Operand} (ho : o.op = .load t x) {p : Prop} {d : D} (h : pload L s.h t (evalO s.fr x) = some (p, d)) (hp : p) : PureOkC P base nt o s d := by
  intro Z pl a w r
  have hx := r.eval x
  unfold pload at h
  cases ht : ty L t with
  | none => rw [ht] at h; cases h
  | some y =>
    have hy := hL t y ht
    rw [ht] at h
    dsimp only at h
    generalize evalO s.fr x = dx at *
    split at h
    · rename_i l g i j
      split at h
      · rename_i ob hob
        simp only [Option.some.injEq, Prod.mk.injEq] at h
        obtain ⟨rfl, rfl⟩ := h
        obtain ⟨hg, hi, hj, h1⟩ := hp
        obtain ⟨o', p', ad, hv, ho', hp', hk', hg', hat⟩ := inv_ptr hx
        rw [hob] at ho'; cases ho'
        obtain ⟨b, q, rfl, rfl⟩ := hat hg
        obtain ⟨hbase, xx⟩ := r.o.at_ l ob b q hob hp'
        obtain ⟨c, el, hb, hsz, hrl, hrow⟩ := xx.cells hk'
        obtain ⟨v, hr, hrun⟩ := run_loadVar hy w ⟨b, q + (i * ob.sz + j), none⟩ ((ob.row i).drop j) (h := s.h) (pl := pl) w (by simp [hrl i hi]; omega) h1 (fun k hk => by
          obtain ⟨v, hv, hr⟩ := hrow i (j + k) hi (by omega)
          refine ⟨v, ?_, by rw [nth_drop]; exact hr⟩
          rw [add_mk, cell_of_row w b _ c el (0, 0) hb, ← hv]
          congr 1; omega)
        refine ⟨v, hr, fun w' e => ?_⟩
        have := hrun w' (fun k v hk hv => e _ _ hv)
        simp [execOp, ho, hv, Instr.loadAt, Instr.sureAddr, this]
      · cases h
    · rename_i cells
      simp only [Option.some.injEq, Prod.mk.injEq] at h
      obtain ⟨rfl, rfl⟩ := h
      obtain ⟨hsz, h1⟩ := hp
      obtain ⟨b, q, vs, hv, hc⟩ := inv_ip hx
      obtain ⟨v, hr, hrun⟩ := run_loadVar hy w ⟨b, q, none⟩ cells (h := s.h) (pl := pl) w hsz h1 (fun k hk => by
        obtain ⟨⟨_, h2⟩, h3⟩ := hc k (by omega)
        exact ⟨vs k, by rw [add_mk]; exact h2, .cl _ _ h3⟩)
      refine ⟨v, hr, fun w' e => ?_⟩
      have := hrun w' (fun k v hk hv => e _ _ hv)
      simp [execOp, ho, hv, Instr.loadAt, Instr.sureAddr, this]
    · cases h
theorem load_ok (hL : LayOk P L) {t : TypeId} {x : Operand} (ho : o.op = .load t x) {p : Prop} {d : D} (h : pload L s.h t (evalO s.fr x) = some (p, d)) (hp : p) : PureOk P base nt o s d := (load_okC hL ho h hp).up

/-- The place of a field. -/
def pfield (L : Lay) (t : TypeId) (f : Nat) : Option (Nat × Ty) :=
  match ty L t with
  | some ⟨.struct fs, _, _, _⟩ => match fs[f]? with
    | some (off, u) => match ty L u with
      | some y => some (off, y)
      | none => none
    | none => none
  | _ => none
theorem pfield_ok (hL : LayOk P L) {t : TypeId} {f off : Nat} {y : Ty} (h : pfield L t f = some (off, y)) : ∃ g fd, P.underlying t = some (.struct g) ∧ g[f]? = some fd ∧ fd.offset = off ∧ TyOk P fd.type y := by
  unfold pfield at h
  split at h
  · rename_i fs _ _ _ he
    split at h
    · rename_i off' u hf
      split at h
      · rename_i y' hu
        simp only [Option.some.injEq, Prod.mk.injEq] at h
        obtain ⟨rfl, rfl⟩ := h
        obtain ⟨g, hg, hm⟩ := under_struct (hL _ _ he) rfl
        rw [← hm] at hf
        simp only [List.getElem?_map, Option.map_eq_some_iff, Prod.mk.injEq] at hf
        obtain ⟨fd, h1, h2, h3⟩ := hf
        exact ⟨g, fd, hg, by simpa using h1, h2, by rw [h3]; exact hL _ _ hu⟩
      · cases h
    · cases h
  · cases h

def pfieldAddr (L : Lay) (t : TypeId) (f : Nat) (d : D) : Ev :=
  match pfield L t f with
  | none => none
  | some (off, y) => match d with
    | .ptr l g i j => some (y.size ≠ 0, .ptr l g i (j + off))
    | .ip cells => some (y.size ≠ 0, .ip (cells.drop off))
    | _ => none
theorem fieldAddr_ok (hL : LayOk P L) {t : TypeId} {f : Nat} {x : Operand} (ho : o.op = .fieldAddr t x f) {p : Prop} {d : D} (h : pfieldAddr L t f (evalO s.fr x) = some (p, d)) (hp : p) : PureOk P base nt o s d := by
  intro Z pl a w r
  have hx := r.eval x
  unfold pfieldAddr at h
  split at h
  · cases h
  · rename_i off y hf
    obtain ⟨g, fd, hg, hfd, rfl, hy⟩ := pfield_ok hL hf
    have fin : ∀ (b q : Nat), y.size ≠ 0 → a.eval x = .pointer (some ⟨b, q, none⟩) → ∀ w' : World, (execOp a.eval o).run P w' = .ok (.value (.pointer (some ⟨b, q + fd.offset, none⟩))) w' := by
      intro b q hy0 he w'
      simp [execOp, ho, he, Instr.fieldAt, run_underlying hg, hfd, Instr.sureAddr, fieldPlace, hy.sizeOf, hy0, add_mk]
    generalize evalO s.fr x = dx at *
    split at h
    · rename_i l g i j
      simp only [Option.some.injEq, Prod.mk.injEq] at h
      obtain ⟨rfl, rfl⟩ := h
      obtain ⟨ob, pp, ad, hv, hob, hpp, hk', hgg, hat⟩ := inv_ptr hx
      by_cases hl : g = ob.gen
      · obtain ⟨b, q, rfl, rfl⟩ := hat hl
        exact ⟨_, .ptr _ _ _ _ ob _ _ hob hpp hk' hgg (fun _ => ⟨b, q, rfl, by simp only [Addr.mk.injEq, and_true, true_and]; omega⟩), fun w' _ => fin _ _ hp hv w'⟩
      · obtain ⟨b, q, sp⟩ := ad
        refine ⟨.pointer (some ((⟨b, q, sp⟩ : Addr).add fd.offset)), .ptr _ _ _ _ ob _ _ hob hpp hk' hgg (fun h => absurd h hl), fun w' _ => ?_⟩
        simp [execOp, ho, hv, Instr.fieldAt, run_underlying hg, hfd, Instr.sureAddr, fieldPlace, hy.sizeOf, hp]
    · rename_i cells
      simp only [Option.some.injEq, Prod.mk.injEq] at h
      obtain ⟨rfl, rfl⟩ := h
      obtain ⟨b, q, vs, hv, hc⟩ := inv_ip hx
      refine ⟨_, .cl _ _ (.ip _ b (q + fd.offset) (fun j => vs (fd.offset + j)) (fun j hj => ?_) (fun j hj => ?_)), fun w' _ => fin _ _ hp hv w'⟩
      · obtain ⟨⟨h1, h2⟩, h3⟩ := hc (fd.offset + j) (by simp at hj; omega)
        exact ⟨h1, by rw [Nat.add_assoc]; exact h2⟩
      · obtain ⟨⟨h1, h2⟩, h3⟩ := hc (fd.offset + j) (by simp at hj; omega)
        rw [nth_drop]; exact h3
    · cases h

/-- A part of an aggregate. -/
theorem run_part {t : TypeId} {y : Ty} (hy : TyOk P t y) (cs : List D) (vs : List Value) {h : List Ob} {pl : List Pl} {w0 : World} (hl : vs.length = cs.length) (hr : ∀ i, i < cs.length → RelV Z h pl w0 (nth cs i) (nthV vs i)) (off : Nat)
    (hsz : off + y.size ≤ cs.length) (h1 : y.k.agg = false → y.size = 1) : ∃ v, RelV Z h pl w0 (mk y (cs.drop off)) v ∧ ∀ w', (part t vs.toArray off).run P w' = .ok v w' := by
  unfold mk
  cases hk : y.k.agg
  · have hs := h1 hk
    refine ⟨nthV vs off, by simp only [cond_false]; rw [nth_drop]; exact hr off (by omega), fun w' => ?_⟩
    have hlt : off < vs.length := by omega
    simp [part, hy.isAgg, hk, nthV, List.getD_eq_getElem?_getD, hlt]
  · refine ⟨.agg ((vs.drop off).take y.size).toArray, .agg _ _ (by simp; omega) (fun i hi => ?_), fun w' => ?_⟩
    · have hi' : i < y.size := by simp at hi; omega
      rw [nth_take hi', nth_drop]
      have : nthV ((vs.drop off).take y.size) i = nthV vs (off + i) := by
        simp [nthV, List.getD_eq_getElem?_getD, hi']
      rw [this]; exact hr _ (by omega)
    · simp [part, hy.isAgg, hk, hy.sizeOf]

def pfieldV (L : Lay) (t : TypeId) (f : Nat) (d : D) : Ev :=
  match pfield L t f with
  | none => none
  | some (off, y) => match d with
    | .agg cs => some (off + y.size ≤ cs.length ∧ (y.k.agg = false → y.size = 1), mk y (cs.drop off))
    | _ => none
theorem fieldV_ok (hL : LayOk P L) {t : TypeId} {f : Nat} {x : Operand} (ho : o.op = .field t x f) {p : Prop} {d : D} (h : pfieldV L t f (evalO s.fr x) = some (p, d)) (hp : p) : PureOk P base nt o s d := by
  intro Z pl a w r
  have hx := r.eval x
  unfold pfieldV at h
  split at h
  · cases h
  · rename_i off y hf
    obtain ⟨g, fd, hg, hfd, rfl, hy⟩ := pfield_ok hL hf
    generalize evalO s.fr x = dx at *
    split at h
    · rename_i cs
      simp only [Option.some.injEq, Prod.mk.injEq] at h
      obtain ⟨rfl, rfl⟩ := h
      obtain ⟨vs, hv, hl, hr⟩ := inv_agg hx
      obtain ⟨v, hrv, hrun⟩ := run_part hy cs vs hl hr fd.offset hp.1 hp.2
      refine ⟨v, hrv, fun w' _ => ?_⟩
      simp [execOp, ho, hv, Instr.field, run_underlying hg, hfd, asAgg, hrun]
    · cases h

/-- The element that an index means. -/
def pelem (L : Lay) (t : TypeId) : Option (Nat × Bool × Nat) :=
  match ty L t with
  | some ⟨.slice e, _, _, _⟩ => match ty L e with
    | some y => some (y.size, true, 0)
    | none => none
  | some ⟨.array n e, _, _, _⟩ => match ty L e with
    | some y => some (y.size, false, n)
    | none => none
  | _ => none
theorem pelem_slice (hL : LayOk P L) {t : TypeId} {sz n : Nat} (h : pelem L t = some (sz, true, n)) : ∃ e y, P.underlying t = some (.slice e) ∧ TyOk P e y ∧ y.size = sz := by
  unfold pelem at h
  split at h
  · rename_i e _ _ _ he
    split at h
    · rename_i y hy
      simp only [Option.some.injEq, Prod.mk.injEq] at h
      exact ⟨e, y, under_slice (hL _ _ he) rfl, hL _ _ hy, h.1⟩
    · cases h
  · split at h
    · simp at h
    · cases h
  · cases h
theorem pelem_array (hL : LayOk P L) {t : TypeId} {sz n : Nat} (h : pelem L t = some (sz, false, n)) : ∃ e y, P.underlying t = some (.array n e) ∧ TyOk P e y ∧ y.size = sz := by
  unfold pelem at h
  split at h
  · split at h
    · simp at h
    · cases h
  · rename_i e _ _ _ he
    split at h
    · rename_i y hy
      simp only [Option.some.injEq, Prod.mk.injEq] at h
      obtain ⟨rfl, _, rfl⟩ := h
      exact ⟨e, y, under_array (hL _ _ he) rfl, hL _ _ hy, rfl⟩
    · cases h
  · cases h

def pindexAddr (L : Lay) (h : List Ob) (t : TypeId) (d ix : D) : Ev :=
  match ix with
  | .raw (.int _ i) => match pelem L t with
    | some (sz, true, _) => match d with
      | .ref l g off len => match h[l]? with
        | some o => some (g = o.gen ∧ o.sz = sz ∧ 0 ≤ i ∧ i < len, .ptr l g (off + i.toNat) 0)
        | none => none
      | .imm z n row => some (z = sz ∧ 0 ≤ i ∧ i < n, .ip (row i.toNat))
      | _ => none
    | some (sz, false, n) => match d with
      | .ptr l g a j => some (0 ≤ i ∧ i < n, .ptr l g a (j + i.toNat * sz))
      | .ip cells => some (0 ≤ i ∧ i < n, .ip (cells.drop (i.toNat * sz)))
      | _ => none
    | none => none
  | _ => none
theorem indexAddr_ok (hL : LayOk P L) {t : TypeId} {x ix : Operand} (ho : o.op = .indexAddr t x ix) {p : Prop} {d : D} (h : pindexAddr L s.h t (evalO s.fr x) (evalO s.fr ix) = some (p, d)) (hp : p) : PureOk P base nt o s d := by
  intro Z pl a w r
  have hx := r.eval x
  have hix := r.eval ix
  unfold pindexAddr at h
  generalize evalO s.fr x = dx at *
  generalize evalO s.fr ix = di at *
  split at h
  · rename_i k i
    have hi := inv_raw hix
    split at h
    · rename_i sz _ he
      obtain ⟨e, y, hu, hy, rfl⟩ := pelem_slice hL he
      split at h
      · rename_i l g off len
        split at h
        · rename_i ob hob
          simp only [Option.some.injEq, Prod.mk.injEq] at h
          obtain ⟨rfl, rfl⟩ := h
          obtain ⟨hg, hsz, h0, h1⟩ := hp
          obtain ⟨o', p', ad, cap, hv, ho', hp', hk', hg', hat⟩ := inv_ref hx
          rw [hob] at ho'; cases ho'
          rcases hat hg with ⟨h2, _⟩ | ⟨b, q, c, el, hpp, had, hb, hc, hlc⟩
          · omega
          · refine ⟨.pointer (some ⟨b, q + ((off + i.toNat) * ob.sz + 0), none⟩), .ptr _ _ _ _ ob _ _ hob hp' hk' hg' (fun _ => ⟨b, q, hpp, rfl⟩), fun w' _ => ?_⟩
            simp [execOp, ho, hv, hi, had, Instr.indexAt, asIntOf, run_underlying hu, h0, h1, hy.sizeOf, add_mk, hsz]
            rw [Nat.add_mul]; omega
        · cases h
      · rename_i z n row
        simp only [Option.some.injEq, Prod.mk.injEq] at h
        obtain ⟨rfl, rfl⟩ := h
        obtain ⟨rfl, h0, h1⟩ := hp
        obtain ⟨ad, cap, b, q, vs, hv, had, hlc, hs, hc⟩ := inv_imm hx
        have hlt : i.toNat < n := by omega
        refine ⟨.pointer (some ⟨b, q + i.toNat * y.size, none⟩), .cl _ _ (.ip _ b _ (fun j => vs i.toNat j) (fun j hj => ?_) (fun j hj => ?_)), fun w' _ => ?_⟩
        · rw [hs _ hlt] at hj
          obtain ⟨⟨h2, h3⟩, h4⟩ := hc i.toNat j hlt hj
          exact ⟨h2, by rw [Nat.add_assoc]; exact h3⟩
        · rw [hs _ hlt] at hj
          exact (hc i.toNat j hlt hj).2
        · simp [execOp, ho, hv, hi, had (by omega), Instr.indexAt, asIntOf, run_underlying hu, h0, h1, hy.sizeOf, add_mk]
      · cases h
    · rename_i sz n he
      obtain ⟨e, y, hu, hy, rfl⟩ := pelem_array hL he
      split at h
      · rename_i l g i0 j
        simp only [Option.some.injEq, Prod.mk.injEq] at h
        obtain ⟨rfl, rfl⟩ := h
        obtain ⟨h0, h1⟩ := hp
        obtain ⟨ob, pp, ad, hv, hob, hpp, hk', hgg, hat⟩ := inv_ptr hx
        refine ⟨.pointer (some (ad.add (i.toNat * y.size))), .ptr _ _ _ _ ob _ _ hob hpp hk' hgg (fun hg => ?_), fun w' _ => ?_⟩
        · obtain ⟨b, q, rfl, rfl⟩ := hat hg
          exact ⟨b, q, rfl, by rw [add_mk]; simp only [Addr.mk.injEq, and_true, true_and]; omega⟩
        · simp [execOp, ho, hv, hi, Instr.indexAt, asIntOf, run_underlying hu, h0, h1, hy.sizeOf, Instr.sureAddr]
      · rename_i cells
        simp only [Option.some.injEq, Prod.mk.injEq] at h
        obtain ⟨rfl, rfl⟩ := h
        obtain ⟨h0, h1⟩ := hp
        obtain ⟨b, q, vs, hv, hc⟩ := inv_ip hx
        refine ⟨_, .cl _ _ (.ip _ b (q + i.toNat * y.size) (fun j => vs (i.toNat * y.size + j)) (fun j hj => ?_) (fun j hj => ?_)), fun w' _ => ?_⟩
        · obtain ⟨⟨h1, h2⟩, h3⟩ := hc (i.toNat * y.size + j) (by simp at hj; omega)
          exact ⟨h1, by rw [Nat.add_assoc]; exact h2⟩
        · obtain ⟨⟨h1, h2⟩, h3⟩ := hc (i.toNat * y.size + j) (by simp at hj; omega)
          rw [nth_drop]; exact h3
        · simp [execOp, ho, hv, hi, Instr.indexAt, asIntOf, run_underlying hu, h0, h1, hy.sizeOf, Instr.sureAddr, add_mk]
      · cases h
    · cases h
  · cases h

/-- An index into an array value or a string. -/
def pindex (L : Lay) (t : TypeId) (d ix : D) : Ev :=
  match ix with
  | .raw (.int _ i) => match d with
    | .agg cs => match ty L t with
      | some ⟨.array n e, _, _, _⟩ => match ty L e with
        | some y => some (0 ≤ i ∧ i < n ∧ i.toNat * y.size + y.size ≤ cs.length ∧ (y.k.agg = false → y.size = 1), mk y (cs.drop (i.toNat * y.size)))
        | none => none
      | _ => none
    | .raw (.string b) => match ty L t with
      | some ⟨.str, _, _, _⟩ => some (0 ≤ i ∧ i < b.size, .raw (.int .u8 (b.data.getD i.toNat 0).toNat))
      | _ => none
    | _ => none
  | _ => none
theorem index_ok (hL : LayOk P L) {t : TypeId} {x ix : Operand} (ho : o.op = .index t x ix) {p : Prop} {d : D} (h : pindex L t (evalO s.fr x) (evalO s.fr ix) = some (p, d)) (hp : p) : PureOk P base nt o s d := by
  intro Z pl a w r
  have hx := r.eval x
  have hix := r.eval ix
  unfold pindex at h
  generalize evalO s.fr x = dx at *
  generalize evalO s.fr ix = di at *
  split at h
  · rename_i k i
    have hi := inv_raw hix
    split at h
    · rename_i cs
      split at h
      · rename_i n e _ _ _ he
        split at h
        · rename_i y hy'
          have hy := hL _ _ hy'
          simp only [Option.some.injEq, Prod.mk.injEq] at h
          obtain ⟨rfl, rfl⟩ := h
          obtain ⟨h0, h1, h2, h3⟩ := hp
          obtain ⟨vs, hv, hl, hr⟩ := inv_agg hx
          obtain ⟨v, hrv, hrun⟩ := run_part hy cs vs hl hr _ h2 h3
          refine ⟨v, hrv, fun w' _ => ?_⟩
          simp [execOp, ho, hv, hi, Instr.index, asIntOf, run_underlying (under_array (hL _ _ he) rfl), h0, h1, hy.sizeOf, hrun]
        · cases h
      · cases h
    · rename_i b
      split at h
      · rename_i he
        simp only [Option.some.injEq, Prod.mk.injEq] at h
        obtain ⟨rfl, rfl⟩ := h
        obtain ⟨h0, h1⟩ := hp
        have hv := inv_raw hx
        refine ⟨_, .cl _ _ (.raw _), fun w' _ => ?_⟩
        have hlt : i.toNat < b.size := by omega
        have : b[i.toNat]? = some (b.data.getD i.toNat 0) := by
          rw [getElem?_pos b i.toNat hlt]
          show some (b.data[i.toNat]) = _
          rw [Array.getD_eq_getD_getElem?, Array.getElem?_eq_getElem (by exact hlt)]
          rfl
        simp [execOp, ho, hv, hi, Instr.index, asIntOf, run_underlying (under_str (hL _ _ he) rfl), h0, this]
      · cases h
    · cases h
  · cases h

theorem extract_ok {x : Operand} {i : Nat} (ho : o.op = .extract x i) {cs : List D} (hx : evalO s.fr x = .tup cs) (hi : i < cs.length) : PureOk P base nt o s (nth cs i) := by
  intro Z pl a w r
  have h := r.eval x
  rw [hx] at h
  obtain ⟨vs, hv, hl, hr⟩ := inv_tup h
  refine ⟨_, hr i hi, fun w' _ => ?_⟩
  have : i < vs.length := by omega
  simp [execOp, ho, hv, Instr.extract, nthV, List.getD_eq_getElem?_getD, this]

theorem unop_ok {u : UnOp} {t : TypeId} {x : Operand} (ho : o.op = .unOp u t x) {b : Bool} (hu : u = .not) (hx : evalO s.fr x = .raw (.bool b)) : PureOk P base nt o s (.raw (.bool (!b))) := by
  intro Z pl a w r
  have h := r.eval x
  rw [hx] at h
  have hv := inv_raw h
  exact ⟨_, .cl _ _ (.raw _), fun w' _ => by simp [execOp, ho, hv, hu, Op.unary]⟩
theorem neg_ok {u : UnOp} {t : TypeId} {x : Operand} (ho : o.op = .unOp u t x) {k : IntKind} {n : Int} (hu : u = .neg) (hx : evalO s.fr x = .raw (.int k n)) : PureOk P base nt o s (.raw (.int k (k.wrap (0 - n)))) := by
  intro Z pl a w r
  have h := r.eval x
  rw [hx] at h
  have hv := inv_raw h
  exact ⟨_, .cl _ _ (.raw _), fun w' _ => by simp [execOp, ho, hv, hu, Op.unary, Op.intArith]⟩
theorem inv_ok {u : UnOp} {t : TypeId} {x : Operand} (ho : o.op = .unOp u t x) {k : IntKind} {n : Int} (hu : u = .xor) (hx : evalO s.fr x = .raw (.int k n)) : PureOk P base nt o s (.raw (.int k (bits .xor k (if k.signed then -1 else k.max) n))) := by
  intro Z pl a w r
  have h := r.eval x
  rw [hx] at h
  have hv := inv_raw h
  exact ⟨_, .cl _ _ (.raw _), fun w' _ => by simp [execOp, ho, hv, hu, Op.unary, Op.intBits, bits]⟩

/-- No nil pointer, no nil function. -/
def D.there : D → Bool
  | .ptr _ _ _ _ | .ip _ | .clo _ _ _ => true
  | .raw (.func (.func _) _ _) => true
  | _ => false
theorem nilCheck_ok {x : Operand} (ho : o.op = .nilCheck x) {d : D} (hx : evalO s.fr x = d) (hd : d.there = true) : PureOk P base nt o s d := by
  intro Z pl a w r
  have h := r.eval x
  rw [hx] at h
  cases d <;> try (simp only [D.there, Bool.false_eq_true] at hd; done)
  case ptr l g i j =>
    obtain ⟨_, _, ad, hv, _⟩ := inv_ptr h
    exact ⟨_, h, fun w' _ => by simp [execOp, ho, hv]⟩
  case ip cs =>
    obtain ⟨_, _, _, hv, _⟩ := inv_ip h
    exact ⟨_, h, fun w' _ => by simp [execOp, ho, hv]⟩
  case raw v =>
    have hv := inv_raw h
    cases v with
    | func fn first caps =>
      cases fn with
      | func f => exact ⟨_, h, fun w' _ => by simp [execOp, ho, hv]⟩
      | _ => simp only [D.there, Bool.false_eq_true] at hd
    | _ => simp only [D.there, Bool.false_eq_true] at hd
  case clo f nf cs =>
    obtain ⟨vs, hv, _⟩ := inv_clo h
    exact ⟨_, h, fun w' _ => by simp [execOp, ho, hv]⟩

/-- An integer to another kind; a string type to another one. -/
def pconv (L : Lay) (src dst : TypeId) : D → Ev
  | .raw (.int _ n) => match ty L dst, ty L src with
    | some ⟨.int k, _, _, _⟩, some _ => some (True, .raw (.int k (k.wrap n)))
    | _, _ => none
  | .raw (.string b) => match ty L dst, ty L src with
    | some ⟨.str, _, _, _⟩, some ⟨.str, _, _, _⟩ => some (True, .raw (.string b))
    | _, _ => none
  | _ => none
theorem conv_ok (hL : LayOk P L) {src dst : TypeId} {x : Operand} (ho : o.op = .convert src dst x) {p : Prop} {d : D} (h : pconv L src dst (evalO s.fr x) = some (p, d)) : PureOk P base nt o s d := by
  intro Z pl a w r
  have hx := r.eval x
  unfold pconv at h
  generalize evalO s.fr x = dx at *
  split at h
  · split at h
    · rename_i k _ _ _ ys hd hs
      simp only [Option.some.injEq, Prod.mk.injEq] at h
      obtain ⟨rfl, rfl⟩ := h
      have hv := inv_raw hx
      refine ⟨_, .cl _ _ (.raw _), fun w' _ => ?_⟩
      obtain ⟨sd, h1, h2⟩ := (hL _ _ hs).under
      simp [execOp, ho, hv, convert, run_underlying h1, run_underlying (under_int (hL _ _ hd) rfl), Conv.intToInt]
    · cases h
  · split at h
    · rename_i hd hs
      simp only [Option.some.injEq, Prod.mk.injEq] at h
      obtain ⟨rfl, rfl⟩ := h
      have hv := inv_raw hx
      refine ⟨_, .cl _ _ (.raw _), fun w' _ => ?_⟩
      simp [execOp, ho, hv, convert, run_underlying (under_str (hL _ _ hs) rfl), run_underlying (under_str (hL _ _ hd) rfl)]
    · cases h
  · cases h

/-- The length of a slice or a string. -/
def plen (L : Lay) (t : TypeId) : D → Ev
  | .ref _ _ _ n => match ty L t with
    | some ⟨.slice _, _, _, _⟩ => some (True, .raw (.int .i64 n))
    | _ => none
  | .imm _ n _ => match ty L t with
    | some ⟨.slice _, _, _, _⟩ => some (True, .raw (.int .i64 n))
    | _ => none
  | .nil => match ty L t with
    | some ⟨.slice _, _, _, _⟩ => some (True, .raw (.int .i64 0))
    | _ => none
  | .raw (.string b) => match ty L t with
    | some ⟨.str, _, _, _⟩ => some (True, .raw (.int .i64 b.size))
    | _ => none
  | _ => none
theorem run_builtin {P : Program} {o : Oper} {a : Act} {bi : Builtin} {args : Array Operand} {tys : Array TypeId} (ho : o.op = .call ⟨.builtin bi, args, tys⟩) (w : World) :
    (execOp a.eval o).run P w = (builtin bi tys o.type (args.map fun | .const _ => true | _ => false) (args.map a.eval)).run P w := by
  simp [execOp, ho, resolve, invoke]
  rfl
theorem len_ok (hL : LayOk P L) {x : Operand} {t : TypeId} (ho : o.op = .call ⟨.builtin .len, #[x], #[t]⟩) {p : Prop} {d : D} (h : plen L t (evalO s.fr x) = some (p, d)) : PureOk P base nt o s d := by
  intro Z pl a w r
  have hx := r.eval x
  unfold plen at h
  generalize evalO s.fr x = dx at *
  split at h
  · split at h
    · rename_i he
      simp only [Option.some.injEq, Prod.mk.injEq] at h
      obtain ⟨rfl, rfl⟩ := h
      obtain ⟨_, _, ad, cap, hv, _⟩ := inv_ref hx
      refine ⟨_, .cl _ _ (.raw _), fun w' _ => ?_⟩
      rw [run_builtin ho]
      simp [builtin, Builtin.len_, hv, run_underlying (under_slice (hL _ _ he) rfl), goInt]
    · cases h
  · split at h
    · rename_i he
      simp only [Option.some.injEq, Prod.mk.injEq] at h
      obtain ⟨rfl, rfl⟩ := h
      obtain ⟨ad, cap, _, _, _, hv, _⟩ := inv_imm hx
      refine ⟨_, .cl _ _ (.raw _), fun w' _ => ?_⟩
      rw [run_builtin ho]
      simp [builtin, Builtin.len_, hv, run_underlying (under_slice (hL _ _ he) rfl), goInt]
    · cases h
  · split at h
    · rename_i he
      simp only [Option.some.injEq, Prod.mk.injEq] at h
      obtain ⟨rfl, rfl⟩ := h
      obtain ⟨ad, hv⟩ := inv_nil hx
      refine ⟨_, .cl _ _ (.raw _), fun w' _ => ?_⟩
      rw [run_builtin ho]
      simp [builtin, Builtin.len_, hv, run_underlying (under_slice (hL _ _ he) rfl), goInt]
    · cases h
  · split at h
    · rename_i he
      simp only [Option.some.injEq, Prod.mk.injEq] at h
      obtain ⟨rfl, rfl⟩ := h
      have hv := inv_raw hx
      refine ⟨_, .cl _ _ (.raw _), fun w' _ => ?_⟩
      rw [run_builtin ho]
      simp [builtin, Builtin.len_, hv, run_underlying (under_str (hL _ _ he) rfl), goInt]
    · cases h
  · cases h

theorem max2_ok {x y : Operand} {tys : Array TypeId} (ho : o.op = .call ⟨.builtin .max, #[x, y], tys⟩) {k k' : IntKind} {m n : Int} (hx : evalO s.fr x = .raw (.int k m)) (hy : evalO s.fr y = .raw (.int k' n)) : PureOk P base nt o s (.raw (.int k (max m n))) := by
  intro Z pl a w r
  have h1 := r.eval x
  have h2 := r.eval y
  rw [hx] at h1; rw [hy] at h2
  refine ⟨_, .cl _ _ (.raw _), fun w' _ => ?_⟩
  rw [run_builtin ho]
  simp [builtin, Builtin.max_, inv_raw h1, inv_raw h2, Builtin.max2]
  split <;> omega
theorem min2_ok {x y : Operand} {tys : Array TypeId} (ho : o.op = .call ⟨.builtin .min, #[x, y], tys⟩) {k k' : IntKind} {m n : Int} (hx : evalO s.fr x = .raw (.int k m)) (hy : evalO s.fr y = .raw (.int k' n)) : PureOk P base nt o s (.raw (.int k (min m n))) := by
  intro Z pl a w r
  have h1 := r.eval x
  have h2 := r.eval y
  rw [hx] at h1; rw [hy] at h2
  refine ⟨_, .cl _ _ (.raw _), fun w' _ => ?_⟩
  rw [run_builtin ho]
  simp [builtin, Builtin.min_, inv_raw h1, inv_raw h2, Builtin.min2]
  split <;> omega

/-- A function value with what it captured. -/
theorem makeFunc_ok {f : FuncId} {first caps : Array Operand} (ho : o.op = .makeFunc (.func f) first caps) : PureOk P base nt o s (.clo f first.size ((first.toList ++ caps.toList).map (evalO s.fr))) := by
  intro Z pl a w r
  refine ⟨.func (.func f) (((first.toList ++ caps.toList).map a.eval).take first.size).toArray (((first.toList ++ caps.toList).map a.eval).drop first.size).toArray, .clo f first.size _ ((first.toList ++ caps.toList).map a.eval) (by simp) (fun i hi => ?_), fun w' _ => ?_⟩
  · have hi' : i < (first.toList ++ caps.toList).length := by simpa using hi
    simp only [nth, nthV, List.getD_eq_getElem?_getD, List.getElem?_map]
    rw [List.getElem?_eq_getElem hi']
    exact r.eval _
  · have e1 : Array.map a.eval caps = (List.map a.eval caps.toList).toArray := Array.ext' (by simp)
    have e2 : Array.map a.eval first = (List.map a.eval first.toList).toArray := Array.ext' (by simp)
    have e3 : ((first.toList ++ caps.toList).map a.eval).take first.size = first.toList.map a.eval := by rw [List.map_append, List.take_append_of_le_length (by simp), List.take_of_length_le (by simp)]
    have e4 : ((first.toList ++ caps.toList).map a.eval).drop first.size = caps.toList.map a.eval := by rw [List.map_append, List.drop_append_of_le_length (by simp), List.drop_of_length_le (by simp), List.nil_append]
    rw [e3, e4]
    simp [execOp, ho, Instr.makeFunc, e1, e2]
end
end Go.Fg
namespace Go.Fg
set_option linter.unusedSimpArgs false
set_option linter.unusedVariables false
open Go.RowKit (Below)
variable {Z : Nat → Prop}

/-- Old blocks stand. -/
def Ext (w w' : World) : Prop := ∀ b, b < w.heap.size → w'.heap[b]? = w.heap[b]?
theorem Ext.refl (w : World) : Ext w w := fun _ _ => rfl
theorem Ext.trans {a b c : World} (h : Ext a b) (k : Ext b c) : Ext a c := fun i hi => by
  have h1 := h i hi
  have h2 : i < b.heap.size := by
    rw [Array.getElem?_eq_getElem hi] at h1
    exact (Array.getElem?_eq_some_iff.1 h1).1
  rw [k i h2, h1]

/-- What writes into no block that stands. -/
def calm (o : Oper) : Bool := match o.op with
  | .store .. | .mapUpdate .. | .insert .. | .entryStore .. | .next .. => false
  | .call ⟨.builtin .len, _, _⟩ | .call ⟨.builtin .min, _, _⟩ | .call ⟨.builtin .max, _, _⟩ => true
  | .call ⟨.builtin _, _, _⟩ => false
  | _ => true
/-- What an operation that makes or writes memory comes to. -/
def EffOk (P : Program) (base nt : Nat) (o : Oper) (s : St) (h' : List Ob) (d : D) : Prop :=
  ∀ (Z : Nat → Prop) pl a w, Rel Z base nt s pl a w → base ≤ w.heap.size → ∃ v w' pl', ((execOp a.eval o).run P w = .ok (.value v) w' ∨ ((execOp a.eval o).run P w = .ok .skip w' ∧ v = Go.undef)) ∧
    Tr s.h pl w h' pl' w' ∧ RelO Z base h' pl' w' ∧ RelV Z h' pl' w' d v ∧ Below base w w' ∧ (calm o = true → Ext w w')
def EffOk0 (P : Program) (base nt : Nat) (o : Oper) (s : St) (h' : List Ob) (d : D) : Prop :=
  ∀ (Z : Nat → Prop) pl a w, Rel Z base nt s pl a w → base ≤ w.heap.size → ∃ v w' pl', ((execOp a.eval o).run P w = .ok (.value v) w' ∨ ((execOp a.eval o).run P w = .ok .skip w' ∧ v = Go.undef)) ∧
    Tr s.h pl w h' pl' w' ∧ RelO Z base h' pl' w' ∧ RelV Z h' pl' w' d v ∧ Below base w w'
theorem EffOk0.up {P : Program} {base nt : Nat} {o : Oper} {s : St} {h' : List Ob} {d : D} (h : EffOk0 P base nt o s h' d) (hc : calm o = false) : EffOk P base nt o s h' d := fun Z pl a w r hb =>
  let ⟨v, w', pl', h1, h2, h3, h4, h5⟩ := h Z pl a w r hb
  ⟨v, w', pl', h1, h2, h3, h4, h5, fun e => by rw [hc] at e; cases e⟩

/-- A Go value of one cell. -/
def oneV : Value → Bool
  | .agg _ | .tuple _ => false
  | _ => true
/-- A value of one cell. -/
def D.oneCell : D → Bool
  | .raw v => oneV v
  | .undef | .agg _ | .tup _ => false
  | _ => true
/-- The cells of a value. -/
def cellsD : D → Option (List D)
  | .agg cs => bif cs.all D.oneCell then some cs else none
  | d => bif d.oneCell then some [d] else none

theorem oneCell_ok {h : List Ob} {pl : List Pl} {w : World} {d : D} {v : Value} (r : RelV Z h pl w d v) (hd : d.oneCell = true) : oneV v = true := by
  cases r with
  | cl _ _ hc => cases hc <;> first | rfl | exact hd | (simp [D.oneCell] at hd)
  | ref => rfl
  | ptr => rfl
  | mref _ _ o p b ho hp hk hg hs => rw [hk.2]; unfold mval; split <;> rfl
  | clo => rfl
  | agg => simp [D.oneCell] at hd
  | tup => simp [D.oneCell] at hd

theorem cells_one {v : Value} (h : oneV v = true) : v.cells = #[v] := by cases v <;> first | rfl | cases h

theorem cellsD_ok {h : List Ob} {pl : List Pl} {w : World} {d : D} {v : Value} (r : RelV Z h pl w d v) {cs : List D} (hc : cellsD d = some cs) :
    v.cells.size = cs.length ∧ ∀ i, i < cs.length → RelV Z h pl w (nth cs i) (nthV v.cells.toList i) ∧ oneV (nthV v.cells.toList i) = true := by
  have one : ∀ d' : D, RelV Z h pl w d' v → (bif d'.oneCell then some [d'] else none) = some cs → v.cells.size = cs.length ∧ ∀ i, i < cs.length → RelV Z h pl w (nth cs i) (nthV v.cells.toList i) ∧ oneV (nthV v.cells.toList i) = true := by
    intro d' r' h'
    cases hd : d'.oneCell
    · rw [hd] at h'; cases h'
    · rw [hd] at h'
      simp only [cond_true, Option.some.injEq] at h'
      subst h'
      have ho := oneCell_ok r' hd
      rw [cells_one ho]
      refine ⟨rfl, fun i hi => ?_⟩
      have : i = 0 := by simp at hi; omega
      subst this
      exact ⟨r', ho⟩
  cases d with
  | agg cs' =>
    simp only [cellsD] at hc
    obtain ⟨ha, hc⟩ := cond_none hc
    cases hc
    obtain ⟨vs, rfl, hl, hr⟩ := inv_agg r
    refine ⟨by simp [Value.cells, hl], fun i hi => ⟨by simpa [Value.cells] using hr i hi, ?_⟩⟩
    refine oneCell_ok (by simpa [Value.cells] using hr i hi : RelV Z h pl w (nth cs i) _) ?_
    rw [List.all_eq_true] at ha
    have := ha (nth cs i) (by simp [nth, List.getD_eq_getElem?_getD, hi])
    exact this
  | _ => exact one _ r hc

/-! Writing a run of cells. -/
theorem run_storeCells {P : Program} (b : Nat) (el : TypeId) : ∀ (vs : List Value) (i q : Nat) (w : World) (c : Array Value), w.heap[b]? = some (.cells c el (0, 0)) → q + i + vs.length ≤ c.size → (∀ j, j < vs.length → oneV (nthV vs j) = true) →
    ∃ w' c', (storeCells ⟨b, q, none⟩ vs i).run P w = .ok () w' ∧ w'.heap[b]? = some (.cells c' el (0, 0)) ∧ c'.size = c.size ∧
      (∀ k, c'[k]? = if q + i ≤ k ∧ k < q + i + vs.length then vs[k - (q + i)]? else c[k]?) ∧ (∀ k, k ≠ b → w'.heap[k]? = w.heap[k]?) ∧ w'.heap.size = w.heap.size ∧ w'.os = w.os ∧ w'.tape = w.tape ∧ w'.output = w.output
  | [], i, q, w, c, hb, hs, ho => ⟨w, c, by simp [storeCells], hb, rfl, fun k => by rw [if_neg]; simp, fun _ _ => rfl, rfl, rfl, rfl, rfl⟩
  | v :: vs, i, q, w, c, hb, hs, ho => by
    simp only [List.length_cons] at hs
    have h0 : oneV v = true := ho 0 (by simp)
    have hlt : q + i < c.size := by omega
    have hcell : w.cell? ⟨b, q + i, none⟩ = some c[q + i] := by rw [cell_of_row w b _ c el (0, 0) hb]; simp [hlt]
    have hfro : w.frozen? ⟨b, q + i, none⟩ = false := frozen_of_row w b _ c el hb
    have hset := heap_setCell_same w b (q + i) c el v hb
    obtain ⟨w', c', h1, h2, h3, h4, h5, h6, h7, h8, h9⟩ := run_storeCells (P := P) b el vs (i + 1) q (w.setCell ⟨b, q + i, none⟩ v) _ hset (by simp; omega) (fun j hj => by
      have := ho (j + 1) (by simp; omega)
      simpa [nthV] using this)
    refine ⟨w', c', ?_, h2, by rw [h3]; simp, fun k => ?_, fun k hk => by rw [h5 k hk]; exact Below.heap_setCell _ _ _ _ hk, by rw [h6]; simp, by rw [h7]; rfl, by rw [h8]; rfl, by rw [h9]; rfl⟩
    · have hst : (store (⟨b, q + i, none⟩ : Addr) v).run P w = .ok () (w.setCell ⟨b, q + i, none⟩ v) := by
        cases v <;> first | (simp [oneV] at h0; done) | (simp [store, Sem.run, hcell, hfro])
      simp only [storeCells, Sem.run_bind, add_mk, hst, Result.andThen_ok]
      exact h1
    · rw [h4 k]
      by_cases h10 : q + i = k
      · subst h10
        rw [if_neg (by omega), if_pos (by simp)]
        simp [hlt]
      · by_cases h11 : q + i ≤ k ∧ k < q + i + (v :: vs).length
        · rw [if_pos h11, if_pos (by simp at h11; omega)]
          obtain ⟨m, rfl⟩ : ∃ m, k = q + i + (m + 1) := ⟨k - (q + i) - 1, by omega⟩
          rw [show q + i + (m + 1) - (q + i) = m + 1 by omega, show q + i + (m + 1) - (q + (i + 1)) = m by omega]
          simp
        · rw [if_neg h11, if_neg (by simp at h11; omega), Array.getElem?_setIfInBounds_ne (by omega)]

/-- Cells in the place of others. -/
def splice (cs : List D) (j : Nat) (ds : List D) : List D := cs.take j ++ ds ++ cs.drop (j + ds.length)
theorem splice_length {cs : List D} {j : Nat} {ds : List D} (h : j + ds.length ≤ cs.length) : (splice cs j ds).length = cs.length := by simp [splice]; omega
theorem nth_splice {cs : List D} {j : Nat} {ds : List D} (h : j + ds.length ≤ cs.length) (i : Nat) : nth (splice cs j ds) i = if j ≤ i ∧ i < j + ds.length then nth ds (i - j) else nth cs i := by
  simp only [nth, splice, List.getD_eq_getElem?_getD]
  by_cases h1 : i < j
  · rw [if_neg (by omega), List.append_assoc, List.getElem?_append_left (by simp; omega)]
    simp [h1]
  · by_cases h2 : i < j + ds.length
    · rw [if_pos ⟨by omega, h2⟩, List.append_assoc, List.getElem?_append_right (by simp; omega), List.getElem?_append_left (by simp; omega)]
      simp; congr 3; omega
    · rw [if_neg (by omega), List.getElem?_append_right (by simp; omega)]
      simp only [List.getElem?_drop, List.length_append, List.length_take]
      congr 2; omega
def setRow (o : Ob) (i : Nat) (cells : List D) : Ob :=
  { o with row := bif o.kd.isOne then fun _ => cells else fun k => bif Nat.beq k i then cells else o.row k }
theorem setRow_row {o : Ob} {i : Nat} {cells : List D} (h1 : o.kd.isOne = true → o.n = 1) {k : Nat} (hi : i < o.n) (hk : k < o.n) : (setRow o i cells).row k = if k = i then cells else o.row k := by
  unfold setRow
  cases h : o.kd.isOne
  · simp only [cond_false]
    by_cases hh : k = i
    · subst hh; simp
    · have : Nat.beq k i = false := by rw [← Bool.not_eq_true, Nat.beq_eq]; exact hh
      rw [this, if_neg hh]; rfl
  · have := h1 h
    simp only [cond_true]
    rw [if_pos (by omega)]

section
variable {P : Program} {L : Lay} {base nt : Nat} {s : St} {o : Oper}

theorem below_of {w w' : World} {b : Nat} (hb : base ≤ b) (h5 : ∀ k, k ≠ b → w'.heap[k]? = w.heap[k]?) (h6 : w'.heap.size = w.heap.size) (h7 : w'.os = w.os) (h8 : w'.tape = w.tape) (h9 : w'.output = w.output) : Below base w w' :=
  ⟨h7, h8, h9, by omega, fun k hk => h5 k (by omega)⟩

def pstore (L : Lay) (h : List Ob) (t : TypeId) (ad x : D) : Option (Prop × List Ob) :=
  match ty L t, ad, cellsD x with
  | some y, .ptr l g i j, some cs => match h[l]? with
    | some o => some (g = o.gen ∧ i < o.n ∧ j + cs.length ≤ o.sz ∧ cs.length = y.size ∧ (o.kd.isOne = true → o.n = 1) ∧ o.kd.ro = false, h.set l (setRow o i (splice (o.row i) j cs)))
    | none => none
  | _, _, _ => none
theorem store_ok0 (hL : LayOk P L) {t : TypeId} {ad x : Operand} (ho : o.op = .store t ad x) {p : Prop} {h' : List Ob} (h : pstore L s.h t (evalO s.fr ad) (evalO s.fr x) = some (p, h')) (hp : p) : EffOk0 P base nt o s h' .undef := by
  intro Z pl a w r hbs
  have hx := r.eval x
  have had := r.eval ad
  unfold pstore at h
  split at h
  · rename_i y l g i j cs hy' hptr hcs
    rw [hptr] at had
    split at h
    · rename_i ob hob
      simp only [Option.some.injEq, Prod.mk.injEq] at h
      obtain ⟨rfl, rfl⟩ := h
      obtain ⟨hg, hi, hj, hsz, h1, hro⟩ := hp
      have hy := hL _ _ hy'
      obtain ⟨o', p', adr, hv, ho', hp', hk', hg', hat⟩ := inv_ptr had
      rw [hob] at ho'; cases ho'
      obtain ⟨b, q, rfl, rfl⟩ := hat hg
      obtain ⟨hbase, xx⟩ := r.o.at_ l ob b q hob hp'
      obtain ⟨c, el, hb, hcsz, hrl, hrow⟩ := xx.cells hk'
      obtain ⟨hcl, hcr⟩ := cellsD_ok hx hcs
      have hrl' : j + cs.length ≤ (ob.row i).length := by rw [hrl i hi]; exact hj
      have hle : i * ob.sz + ob.sz ≤ ob.n * ob.sz := by
        have := Nat.mul_le_mul_right ob.sz (show i + 1 ≤ ob.n from hi); rw [Nat.add_mul] at this; omega
      obtain ⟨w', c', g1, g2, g3, g4, g5, g6, g7, g8, g9⟩ := run_storeCells (P := P) b el (a.eval x).cells.toList 0 (q + (i * ob.sz + j)) w c hb (by simp [hcl]; omega) (fun k hk => (hcr k (by simpa [hcl] using hk)).2)
      have T : Tr s.h pl w (s.h.set l (setRow ob i (splice (ob.row i) j cs))) pl w' := Tr.upd r.o hob hp' rfl rfl rfl (fun k hk _ => g5 k hk) (fun c1 el1 e1 => by rw [hb] at e1; cases e1; exact ⟨c', g2, g3⟩)
      refine ⟨Go.undef, w', pl, .inr ⟨?_, rfl⟩, T, ?_, .cl _ _ (.undef _), below_of (hbase hro) g5 g6 g7 g8 g9⟩
      · simp [execOp, ho, hv, Instr.storeAt, Instr.sureAddr, storeVar, hy.sizeOf, hcl, hsz, g1]
      · refine RelO.upd (hro := rfl) r.o hob hp' hk' hk' rfl rfl (fun k hk _ => g5 k hk) hb g2 g3 (by rw [g3]; exact hcsz) (fun k hk => ?_) (fun k m hk hm => ?_)
        · rw [setRow_row h1 hi hk]
          split
          · rw [splice_length hrl', hrl i hi]; rfl
          · exact hrl k hk
        · rw [setRow_row h1 hi hk]
          have hk' : k < ob.n := hk
          have hm' : m < ob.sz := hm
          show ∃ v, c'[q + (k * ob.sz + m)]? = some v ∧ _
          rw [g4]
          simp only [Nat.add_zero, Array.length_toList, hcl]
          by_cases hki : k = i
          · subst hki
            rw [if_pos rfl, nth_splice hrl']
            by_cases hmj : j ≤ m ∧ m < j + cs.length
            · rw [if_pos hmj, if_pos (by omega)]
              refine ⟨nthV (a.eval x).cells.toList (m - j), ?_, ((hcr (m - j) (by omega)).1).tr T⟩
              rw [show q + (k * ob.sz + m) - (q + (k * ob.sz + j)) = m - j by omega]
              simp only [nthV, List.getD_eq_getElem?_getD]
              rw [List.getElem?_eq_getElem (by simp [hcl]; omega)]; rfl
            · rw [if_neg hmj, if_neg (by omega)]
              obtain ⟨v, hv1, hr1⟩ := hrow k m hk' hm'
              exact ⟨v, hv1, hr1.tr T⟩
          · rw [if_neg hki, if_neg]
            · obtain ⟨v, hv1, hr1⟩ := hrow k m hk' hm'
              exact ⟨v, hv1, hr1.tr T⟩
            · intro hcon
              rcases Nat.lt_or_gt_of_ne hki with hlt | hlt
              · have := Nat.mul_le_mul_right ob.sz (show k + 1 ≤ i from hlt); rw [Nat.add_mul] at this; omega
              · have := Nat.mul_le_mul_right ob.sz (show i + 1 ≤ k from hlt); rw [Nat.add_mul] at this; omega
    · cases h
  · cases h

theorem below_alloc {w : World} (h : base ≤ w.heap.size) (ob : Obj) : Below base w (w.alloc ob) := (Below.refl base w).alloc h ob

/-- A new block of one row. -/
theorem new_one {pl : List Pl} {a : Act} {w : World} (r : Rel Z base nt s pl a w) (hbs : base ≤ w.heap.size) (el : TypeId) (v : Value) (cs : List D) (hl : v.cells.size = cs.length) (hr : ∀ i, i < cs.length → RelV Z s.h pl w (nth cs i) (nthV v.cells.toList i)) :
    Tr s.h pl w (s.h ++ [⟨.one, 0, cs.length, 1, fun _ => cs⟩]) (pl ++ [some (w.heap.size, 0)]) (w.alloc (.cells v.cells el)) ∧ RelO Z base (s.h ++ [⟨.one, 0, cs.length, 1, fun _ => cs⟩]) (pl ++ [some (w.heap.size, 0)]) (w.alloc (.cells v.cells el)) ∧
      RelV Z (s.h ++ [⟨.one, 0, cs.length, 1, fun _ => cs⟩]) (pl ++ [some (w.heap.size, 0)]) (w.alloc (.cells v.cells el)) (.ptr s.h.length 0 0 0) (.pointer (some ⟨w.heap.size, 0, none⟩)) := by
  have e : ∀ b, b < w.heap.size → (w.alloc (.cells v.cells el)).heap[b]? = w.heap[b]? := fun b hb => heap_push_old w _ b hb
  have hnew : (w.alloc (.cells v.cells el)).heap[w.heap.size]? = some (.cells v.cells el (0, 0)) := heap_alloc_new w _
  have T : Tr s.h pl w (s.h ++ [⟨.one, 0, cs.length, 1, fun _ => cs⟩]) (pl ++ [some (w.heap.size, 0)]) (w.alloc (.cells v.cells el)) := Tr.push r.o e _ _ (by intro b q h; simp at h; omega)
  refine ⟨T, ?_, ?_⟩
  · refine RelO.push r.o e _ rfl (Nat.le_refl _) hbs hnew (by simp [hl]) (fun _ _ => rfl) (fun i j hi hj => ?_)
    have hi0 : i = 0 := by simp at hi; omega
    subst hi0
    refine ⟨nthV v.cells.toList j, ?_, (hr j hj).tr T⟩
    simp only [Nat.zero_mul, Nat.zero_add, nthV, List.getD_eq_getElem?_getD]
    have : j < v.cells.size := by rw [hl]; exact hj
    rw [Array.getElem?_toList, Array.getElem?_eq_getElem this]; rfl
  · have hpl : pl.length = s.h.length := r.o.len
    exact .ptr _ _ _ _ ⟨.one, 0, cs.length, 1, fun _ => cs⟩ (some (w.heap.size, 0)) _ (by simp) (by rw [← hpl]; simp) rfl (Nat.le_refl _) (fun _ => ⟨_, _, rfl, by simp⟩)

theorem store_ok (hL : LayOk P L) {t : TypeId} {ad x : Operand} (ho : o.op = .store t ad x) {p : Prop} {h' : List Ob} (h : pstore L s.h t (evalO s.fr ad) (evalO s.fr x) = some (p, h')) (hp : p) : EffOk P base nt o s h' .undef :=
  (store_ok0 hL ho h hp).up (by simp [calm, ho])
theorem box_ok {t : TypeId} {x : Operand} (ho : o.op = .box t x) {cs : List D} (hx : cellsD (evalO s.fr x) = some cs) : EffOk P base nt o s (s.h ++ [⟨.one, 0, cs.length, 1, fun _ => cs⟩]) (.ptr s.h.length 0 0 0) := by
  intro Z pl a w r hbs
  obtain ⟨hcl, hcr⟩ := cellsD_ok (r.eval x) hx
  obtain ⟨h1, h2, h3⟩ := new_one r hbs t (a.eval x) cs hcl (fun i hi => (hcr i hi).1)
  refine ⟨_, _, _, .inl ?_, h1, h2, h3, below_alloc hbs _, fun _ b hb => heap_push_old _ _ b hb⟩
  simp [execOp, ho, Instr.box, newVar, newRow]

theorem alloc_ok (hL : LayOk P L) {t : TypeId} (ho : o.op = .alloc t) {y : Ty} (hy : ty L t = some y) : EffOk P base nt o s (s.h ++ [⟨.one, 0, (y.zero.map ofCell).length, 1, fun _ => y.zero.map ofCell⟩]) (.ptr s.h.length 0 0 0) := by
  intro Z pl a w r hbs
  obtain ⟨z, hz, hrun⟩ := (hL _ _ hy).zeroValue
  obtain ⟨h1, h2, h3⟩ := new_one r hbs t z (y.zero.map ofCell) (by rw [← hz]; simp) (fun i hi => by
    rw [← hz] at hi ⊢
    have hi' : i < z.cells.size := by simpa using hi
    refine .cl _ _ ?_
    simp only [nth, nthV, List.getD_eq_getElem?_getD, List.getElem?_map, Array.getElem?_toList, Array.getElem?_eq_getElem hi', Option.map_some, Option.getD_some]
    exact cl_ofCell _ _ _)
  refine ⟨_, _, _, .inl ?_, h1, h2, h3, below_alloc hbs _, fun _ b hb => heap_push_old _ _ b hb⟩
  simp [execOp, ho, Instr.alloc, newVar, newRow, hrun]
end
end Go.Fg
