/- Abstract values and an abstract heap for walks of Go code, and how they stand to frames and worlds. No conditions: definitions and their laws. -/
import Derived.WalkKit
namespace Go.Fg
set_option linter.unusedSimpArgs false
set_option linter.unusedVariables false
open Go.RowKit (Below)

/-- An abstract value. -/
inductive D where
  | raw (v : Value)
  | nil
  | undef
  | imm (sz n : Nat) (row : Nat → List D)
  | ip (cells : List D)
  | ref (l g off len : Nat)
  | ptr (l g i j : Nat)
  | mref (l g : Nat)
  | clo (f : FuncId) (first : Nat) (caps : List D)
  | agg (cs : List D)
  | tup (cs : List D)

def nth (cs : List D) (i : Nat) : D := cs.getD i .undef
def nthV (vs : List Value) (i : Nat) : Value := vs.getD i Go.undef

/-- What an object is: one variable (a single row), an array, a map (each row is a key and a value). -/
inductive Kd where
  | one
  | arr
  | map
  | iter
  | rone
  | rarr
  | rmap
  | riter
def Kd.isOne : Kd → Bool
  | .one => true
  | .rone => true
  | _ => false
def Kd.ty : Kd → Nat
  | .one => 0
  | .arr => 0
  | .map => 1
  | .iter => 2
  | .rone => 0
  | .rarr => 0
  | .rmap => 1
  | .riter => 2
/-- An object that is lent to be read alone. -/
def Kd.ro : Kd → Bool
  | .one => false
  | .arr => false
  | .map => false
  | .iter => false
  | _ => true
def Kd.toRo : Kd → Kd
  | .one => .rone
  | .arr => .rarr
  | .map => .rmap
  | .iter => .riter
  | k => k
theorem Kd.toRo_ty (k : Kd) : k.toRo.ty = k.ty := by cases k <;> rfl
theorem Kd.toRo_ro (k : Kd) : k.toRo.ro = true := by cases k <;> rfl
/-- What points to such an object: a map, or an iterator's pointer. -/
def mval : Nat → Nat → Value
  | 1, b => .map (some b)
  | _, b => .pointer (some ⟨b, 0, none⟩)
def MOk (t b : Nat) (v : Value) : Prop := t ≠ 0 ∧ v = mval t b
/-- An object of the call's own: rows of cells. -/
structure Ob where
  kd : Kd
  gen : Nat
  sz : Nat
  n : Nat
  row : Nat → List D

/-- Where an object lies: block and first cell; 'none': nowhere (it has no rows). -/
abbrev Pl := Option (Nat × Nat)

/-- A block in which no object lies. -/
def away (pl : List Pl) (b : Nat) : Prop := ∀ l q : Nat, pl[l]? ≠ some (some (b, q))
/-- A block on which a closed value may lean: let in by Z, and no object's. -/
def free (Z : Nat → Prop) (pl : List Pl) (b : Nat) : Prop := Z b ∧ away pl b
variable {Z : Nat → Prop}

/-- A closed value: it leans on blocks of N alone. -/
inductive Cl (N : Nat → Prop) (w : World) : D → Value → Prop
  | raw (v : Value) : Cl N w (.raw v) v
  | undef (v : Value) : Cl N w .undef v
  | nil (a : Option Addr) : Cl N w .nil (.slice a 0 0)
  | imm (sz n : Nat) (row : Nat → List D) (a : Option Addr) (cap b o : Nat) (vs : Nat → Nat → Value)
      (ha : 0 < n → a = some ⟨b, o, none⟩) (hl : n ≤ cap) (hs : ∀ i, i < n → (row i).length = sz)
      (hc : ∀ i j, i < n → j < sz → N b ∧ w.cell? ⟨b, o + (i * sz + j), none⟩ = some (vs i j))
      (hr : ∀ i j, i < n → j < sz → Cl N w (nth (row i) j) (vs i j)) : Cl N w (.imm sz n row) (.slice a n cap)
  | ip (cells : List D) (b o : Nat) (vs : Nat → Value)
      (hc : ∀ j, j < cells.length → N b ∧ w.cell? ⟨b, o + j, none⟩ = some (vs j))
      (hr : ∀ j, j < cells.length → Cl N w (nth cells j) (vs j)) : Cl N w (.ip cells) (.pointer (some ⟨b, o, none⟩))
  | clo (f : FuncId) (nf : Nat) (cs : List D) (vs : List Value) (hl : vs.length = cs.length) (hr : ∀ i, i < cs.length → Cl N w (nth cs i) (nthV vs i)) : Cl N w (.clo f nf cs) (.func (.func f) (vs.take nf).toArray (vs.drop nf).toArray)
  | agg (cs : List D) (vs : List Value) (hl : vs.length = cs.length) (hr : ∀ i, i < cs.length → Cl N w (nth cs i) (nthV vs i)) : Cl N w (.agg cs) (.agg vs.toArray)
  | tup (cs : List D) (vs : List Value) (hl : vs.length = cs.length) (hr : ∀ i, i < cs.length → Cl N w (nth cs i) (nthV vs i)) : Cl N w (.tup cs) (.tuple vs.toArray)

theorem Cl.mono {N N' : Nat → Prop} {w w' : World} {d : D} {v : Value} (h : Cl N w d v)
    (hk : ∀ b, N b → b < w.heap.size → N' b ∧ w'.heap[b]? = w.heap[b]?) : Cl N' w' d v := by
  have key : ∀ (b o : Nat) (u : Value), N b ∧ w.cell? ⟨b, o, none⟩ = some u → N' b ∧ w'.cell? ⟨b, o, none⟩ = some u := by
    rintro b o u ⟨hn, hc⟩
    obtain ⟨h1, h2⟩ := hk b hn (block_lt_of_cell hc)
    exact ⟨h1, by rw [World.cell?_of_block (w := w) (a := ⟨b, o, none⟩) h2]; exact hc⟩
  induction h with
  | raw v => exact .raw v
  | undef v => exact .undef v
  | nil a => exact .nil a
  | imm sz n row a cap b o vs ha hl hs hc hr ih => exact .imm sz n row a cap b o vs ha hl hs (fun i j hi hj => key _ _ _ (hc i j hi hj)) ih
  | ip cells b o vs hc hr ih => exact .ip cells b o vs (fun j hj => key _ _ _ (hc j hj)) ih
  | clo f nf cs vs hl hr ih => exact .clo f nf cs vs hl ih
  | agg cs vs hl hr ih => exact .agg cs vs hl ih
  | tup cs vs hl hr ih => exact .tup cs vs hl ih

/-- How a slice over an object lies. -/
def SliceAt (w : World) (sz : Nat) (p : Pl) (off len : Nat) (a : Option Addr) (cap : Nat) : Prop :=
  (len = 0 ∧ cap = 0) ∨ ∃ b q c el, p = some (b, q) ∧ a = some ⟨b, q + off * sz, none⟩ ∧ w.heap[b]? = some (.cells c el (0, 0)) ∧ q + (off + cap) * sz ≤ c.size ∧ len ≤ cap

inductive RelV (Z : Nat → Prop) (h : List Ob) (pl : List Pl) (w : World) : D → Value → Prop
  | cl (d : D) (v : Value) (hc : Cl (free Z pl) w d v) : RelV Z h pl w d v
  | ref (l g off len : Nat) (o : Ob) (p : Pl) (a : Option Addr) (cap : Nat) (ho : h[l]? = some o) (hp : pl[l]? = some p) (hk : o.kd.ty = 0) (hg : g ≤ o.gen)
      (hs : g = o.gen → SliceAt w o.sz p off len a cap) : RelV Z h pl w (.ref l g off len) (.slice a len cap)
  | ptr (l g i j : Nat) (o : Ob) (p : Pl) (a : Addr) (ho : h[l]? = some o) (hp : pl[l]? = some p) (hk : o.kd.ty = 0) (hg : g ≤ o.gen)
      (hs : g = o.gen → ∃ b q, p = some (b, q) ∧ a = ⟨b, q + (i * o.sz + j), none⟩) : RelV Z h pl w (.ptr l g i j) (.pointer (some a))
  | mref (l g : Nat) {v : Value} (o : Ob) (p : Pl) (b : Nat) (ho : h[l]? = some o) (hp : pl[l]? = some p) (hk : MOk o.kd.ty b v) (hg : g ≤ o.gen)
      (hs : g = o.gen → p = some (b, 0)) : RelV Z h pl w (.mref l g) v
  | clo (f : FuncId) (nf : Nat) (cs : List D) (vs : List Value) (hl : vs.length = cs.length) (hr : ∀ i, i < cs.length → RelV Z h pl w (nth cs i) (nthV vs i)) : RelV Z h pl w (.clo f nf cs) (.func (.func f) (vs.take nf).toArray (vs.drop nf).toArray)
  | agg (cs : List D) (vs : List Value) (hl : vs.length = cs.length) (hr : ∀ i, i < cs.length → RelV Z h pl w (nth cs i) (nthV vs i)) : RelV Z h pl w (.agg cs) (.agg vs.toArray)
  | tup (cs : List D) (vs : List Value) (hl : vs.length = cs.length) (hr : ∀ i, i < cs.length → RelV Z h pl w (nth cs i) (nthV vs i)) : RelV Z h pl w (.tup cs) (.tuple vs.toArray)

/-- From one abstract heap and world to later ones. -/
structure Tr (h : List Ob) (pl : List Pl) (w : World) (h' : List Ob) (pl' : List Pl) (w' : World) : Prop where
  old : ∀ b, away pl b → b < w.heap.size → away pl' b ∧ w'.heap[b]? = w.heap[b]?
  obj : ∀ (l : Nat) (o : Ob) (p : Pl), h[l]? = some o → pl[l]? = some p → ∃ o' p', h'[l]? = some o' ∧ pl'[l]? = some p' ∧ o.gen ≤ o'.gen ∧ o'.kd.ty = o.kd.ty ∧ (o'.gen = o.gen → o'.sz = o.sz ∧ p' = p)
  shape : ∀ (l : Nat) (o o' : Ob) (b q : Nat), h[l]? = some o → h'[l]? = some o' → o'.gen = o.gen → pl[l]? = some (some (b, q)) → ∀ c el, w.heap[b]? = some (.cells c el (0, 0)) →
    ∃ c', w'.heap[b]? = some (.cells c' el (0, 0)) ∧ c'.size = c.size
theorem Tr.oldF {h : List Ob} {pl : List Pl} {w : World} {h' : List Ob} {pl' : List Pl} {w' : World} (T : Tr h pl w h' pl' w') {b : Nat} (hf : free Z pl b) (hb : b < w.heap.size) : free Z pl' b ∧ w'.heap[b]? = w.heap[b]? :=
  ⟨⟨hf.1, (T.old b hf.2 hb).1⟩, (T.old b hf.2 hb).2⟩

theorem RelV.tr {h : List Ob} {pl : List Pl} {w : World} {h' : List Ob} {pl' : List Pl} {w' : World} (T : Tr h pl w h' pl' w') {d : D} {v : Value} (r : RelV Z h pl w d v) : RelV Z h' pl' w' d v := by
  induction r with
  | cl d v hc => exact .cl d v (hc.mono fun b hb hlt => T.oldF hb hlt)
  | ref l g off len o p a cap ho hp hk hg hs =>
    obtain ⟨o', p', ho', hp', hg', hk', he⟩ := T.obj l o p ho hp
    refine .ref l g off len o' p' a cap ho' hp' (by rw [hk', hk]) (Nat.le_trans hg hg') fun hgg => ?_
    have e1 : o'.gen = o.gen := by omega
    obtain ⟨e2, e3⟩ := he e1
    rcases hs (by omega) with h1 | ⟨b, q, c, el, hpp, ha, hb, hc, hl⟩
    · exact .inl h1
    · obtain ⟨c', hb', hc'⟩ := T.shape l o o' b q ho ho' e1 (by rw [hp, hpp]) c el hb
      exact .inr ⟨b, q, c', el, by rw [e3, hpp], by rw [e2]; exact ha, hb', by rw [e2, hc']; exact hc, hl⟩
  | ptr l g i j o p a ho hp hk hg hs =>
    obtain ⟨o', p', ho', hp', hg', hk', he⟩ := T.obj l o p ho hp
    refine .ptr l g i j o' p' a ho' hp' (by rw [hk', hk]) (Nat.le_trans hg hg') fun hgg => ?_
    have e1 : o'.gen = o.gen := by omega
    obtain ⟨e2, e3⟩ := he e1
    obtain ⟨b, q, hpp, ha⟩ := hs (by omega)
    exact ⟨b, q, by rw [e3, hpp], by rw [e2]; exact ha⟩
  | mref l g o p b ho hp hk hg hs =>
    obtain ⟨o', p', ho', hp', hg', hk', he⟩ := T.obj l o p ho hp
    refine .mref l g o' p' b ho' hp' (by rw [hk']; exact hk) (Nat.le_trans hg hg') fun hgg => ?_
    have e1 : o'.gen = o.gen := by omega
    obtain ⟨e2, e3⟩ := he e1
    rw [e3]; exact hs (by omega)
  | clo f nf cs vs hl hr ih => exact .clo f nf cs vs hl ih
  | agg cs vs hl hr ih => exact .agg cs vs hl ih
  | tup cs vs hl hr ih => exact .tup cs vs hl ih

/-- An array's, or a variable's, cells. -/
def CellsAt (Z : Nat → Prop) (h : List Ob) (pl : List Pl) (w : World) (o : Ob) (b q : Nat) : Prop :=
  ∃ c el, w.heap[b]? = some (.cells c el (0, 0)) ∧ q + o.n * o.sz ≤ c.size ∧ (∀ i, i < o.n → (o.row i).length = o.sz) ∧
    ∀ i j, i < o.n → j < o.sz → ∃ v, c[q + (i * o.sz + j)]? = some v ∧ RelV Z h pl w (nth (o.row i) j) v
/-- A map: row 0 tells its clock, each other row an entry: key, value, and its number of birth. -/
def MapAt (Z : Nat → Prop) (h : List Ob) (pl : List Pl) (w : World) (o : Ob) (b q : Nat) : Prop :=
  q = 0 ∧ o.sz = 3 ∧ ∃ (es : Array MapEntry) (clock : Nat), w.heap[b]? = some (.map es clock) ∧ o.n = es.size + 1 ∧ (∀ i, i < o.n → (o.row i).length = 3) ∧
    RelV Z h pl w (nth (o.row 0) 0) (.int .i64 clock) ∧
    (∀ (i : Nat) (e : MapEntry), es[i]? = some e → e.born < clock ∧ RelV Z h pl w (nth (o.row (i + 1)) 0) e.key ∧ RelV Z h pl w (nth (o.row (i + 1)) 1) e.val ∧ RelV Z h pl w (nth (o.row (i + 1)) 2) (.int .i64 e.born)) ∧
    ∀ (i j : Nat) (e e' : MapEntry), i < j → es[i]? = some e → es[j]? = some e' → e.born < e'.born
/-- An iterator over a map: row 0: the map; row 1: its clock at the beginning; row 2: at the last step; then the entries that were met, each by its number of birth. -/
def IterAt (Z : Nat → Prop) (h : List Ob) (pl : List Pl) (w : World) (o : Ob) (b q : Nat) : Prop :=
  q = 0 ∧ o.sz = 1 ∧ ∃ (m since last : Nat) (seen : Array Nat), w.heap[b]? = some (.mapIter (some m) since seen last) ∧ o.n = seen.size + 3 ∧ (∀ i, i < o.n → (o.row i).length = 1) ∧
    RelV Z h pl w (nth (o.row 0) 0) (.map (some m)) ∧ RelV Z h pl w (nth (o.row 1) 0) (.int .i64 since) ∧ RelV Z h pl w (nth (o.row 2) 0) (.int .i64 last) ∧
    ∀ (i s : Nat), seen[i]? = some s → RelV Z h pl w (nth (o.row (i + 3)) 0) (.int .i64 s)
def ObAt (Z : Nat → Prop) (h : List Ob) (pl : List Pl) (w : World) (o : Ob) (b q : Nat) : Prop := match o.kd.ty with
  | 0 => CellsAt Z h pl w o b q
  | 1 => MapAt Z h pl w o b q
  | _ => IterAt Z h pl w o b q
theorem ObAt.cells {h : List Ob} {pl : List Pl} {w : World} {o : Ob} {b q : Nat} (hk : o.kd.ty = 0) (x : ObAt Z h pl w o b q) : CellsAt Z h pl w o b q := by
  unfold ObAt at x; rw [hk] at x; exact x
theorem ObAt.map {h : List Ob} {pl : List Pl} {w : World} {o : Ob} {b q : Nat} (hk : o.kd.ty = 1) (x : ObAt Z h pl w o b q) : MapAt Z h pl w o b q := by
  unfold ObAt at x; rw [hk] at x; exact x
theorem ObAt.iter {h : List Ob} {pl : List Pl} {w : World} {o : Ob} {b q : Nat} (hk : o.kd.ty = 2) (x : ObAt Z h pl w o b q) : IterAt Z h pl w o b q := by
  unfold ObAt at x; rw [hk] at x; exact x
theorem ObAt.ofCells {h : List Ob} {pl : List Pl} {w : World} {o : Ob} {b q : Nat} (hk : o.kd.ty = 0) (x : CellsAt Z h pl w o b q) : ObAt Z h pl w o b q := by
  unfold ObAt; rw [hk]; exact x
theorem ObAt.ofMap {h : List Ob} {pl : List Pl} {w : World} {o : Ob} {b q : Nat} (hk : o.kd.ty = 1) (x : MapAt Z h pl w o b q) : ObAt Z h pl w o b q := by
  unfold ObAt; rw [hk]; exact x
theorem ObAt.ofIter {h : List Ob} {pl : List Pl} {w : World} {o : Ob} {b q : Nat} (hk : o.kd.ty = 2) (x : IterAt Z h pl w o b q) : ObAt Z h pl w o b q := by
  unfold ObAt; rw [hk]; exact x
theorem Kd.cases (k : Kd) : k.ty = 0 ∨ k.ty = 1 ∨ k.ty = 2 := by cases k <;> simp [Kd.ty]
theorem ObAt.lt {h : List Ob} {pl : List Pl} {w : World} {o : Ob} {b q : Nat} (x : ObAt Z h pl w o b q) : b < w.heap.size := by
  rcases o.kd.cases with hk | hk | hk
  · obtain ⟨c, el, hc, _⟩ := x.cells hk; exact (Array.getElem?_eq_some_iff.1 hc).1
  · obtain ⟨_, _, c, el, hc, _⟩ := x.map hk; exact (Array.getElem?_eq_some_iff.1 hc).1
  · obtain ⟨_, _, m, s, l, sn, hc, _⟩ := x.iter hk; exact (Array.getElem?_eq_some_iff.1 hc).1
theorem ObAt.len {h : List Ob} {pl : List Pl} {w : World} {o : Ob} {b q : Nat} (x : ObAt Z h pl w o b q) {i : Nat} (hi : i < o.n) : (o.row i).length = o.sz := by
  rcases o.kd.cases with hk | hk | hk
  · obtain ⟨c, el, _, _, h1, _⟩ := x.cells hk; exact h1 i hi
  · obtain ⟨_, hz, c, el, _, _, h1, _⟩ := x.map hk; rw [h1 i hi, hz]
  · obtain ⟨_, hz, m, s, l, sn, _, _, h1, _⟩ := x.iter hk; rw [h1 i hi, hz]
/-- The same block, and rows that read the same cells. -/
theorem ObAt.to {Z' : Nat → Prop} {h h' : List Ob} {pl pl' : List Pl} {w w' : World} {o o' : Ob} {b q : Nat} (x : ObAt Z h pl w o b q) (hk : o'.kd.ty = o.kd.ty) (hz : o'.sz = o.sz) (hn : o'.n = o.n)
    (hb : w'.heap[b]? = w.heap[b]?) (hl : ∀ i, i < o.n → (o'.row i).length = (o.row i).length)
    (hr : ∀ i j v, i < o.n → j < (o.row i).length → RelV Z h pl w (nth (o.row i) j) v → RelV Z' h' pl' w' (nth (o'.row i) j) v) : ObAt Z' h' pl' w' o' b q := by
  rcases o.kd.cases with hm | hm | hm
  · obtain ⟨c, el, h1, h2, h3, h4⟩ := x.cells hm
    refine ObAt.ofCells (by rw [hk, hm]) ⟨c, el, by rw [hb]; exact h1, by rw [hn, hz]; exact h2, fun i hi => ?_, fun i j hi hj => ?_⟩
    · rw [hn] at hi; rw [hl i hi, h3 i hi, hz]
    · rw [hn] at hi; rw [hz] at hj
      obtain ⟨v, hv, hrr⟩ := h4 i j hi hj
      exact ⟨v, by rw [hz]; exact hv, hr i j v hi (by rw [h3 i hi]; exact hj) hrr⟩
  · obtain ⟨h0, h00, es, ck, h1, h2, h3, h4, h5, h6⟩ := x.map hm
    have up : ∀ i j v, i < o.n → j < 3 → RelV Z h pl w (nth (o.row i) j) v → RelV Z' h' pl' w' (nth (o'.row i) j) v := fun i j v hi hj r => hr i j v hi (by rw [h3 i hi]; exact hj) r
    refine ObAt.ofMap (by rw [hk, hm]) ⟨h0, by rw [hz]; exact h00, es, ck, by rw [hb]; exact h1, by rw [hn]; exact h2, fun i hi => ?_, up 0 0 _ (by omega) (by omega) h4, fun i e he => ?_, h6⟩
    · rw [hn] at hi; rw [hl i hi, h3 i hi]
    · obtain ⟨k1, k2, k3, k4⟩ := h5 i e he
      have hi : i + 1 < o.n := by have := (Array.getElem?_eq_some_iff.1 he).1; omega
      exact ⟨k1, up _ 0 _ hi (by omega) k2, up _ 1 _ hi (by omega) k3, up _ 2 _ hi (by omega) k4⟩
  · obtain ⟨h0, h00, m, since, last, seen, h1, h2, h3, h4, h5, h6, h7⟩ := x.iter hm
    have up : ∀ i v, i < o.n → RelV Z h pl w (nth (o.row i) 0) v → RelV Z' h' pl' w' (nth (o'.row i) 0) v := fun i v hi r => hr i 0 v hi (by rw [h3 i hi]; omega) r
    refine ObAt.ofIter (by rw [hk, hm]) ⟨h0, by rw [hz]; exact h00, m, since, last, seen, by rw [hb]; exact h1, by rw [hn]; exact h2, fun i hi => ?_, up 0 _ (by omega) h4, up 1 _ (by omega) h5, up 2 _ (by omega) h6, fun i s hs => ?_⟩
    · rw [hn] at hi; rw [hl i hi, h3 i hi]
    · exact up _ _ (by have := (Array.getElem?_eq_some_iff.1 hs).1; omega) (h7 i s hs)

/-- The objects lie as they should, from block 'base' on. -/
structure RelO (Z : Nat → Prop) (base : Nat) (h : List Ob) (pl : List Pl) (w : World) : Prop where
  len : pl.length = h.length
  inj : ∀ (l l' : Nat) (b q q' : Nat), pl[l]? = some (some (b, q)) → pl[l']? = some (some (b, q')) → l = l'
  noRow : ∀ (l : Nat) (o : Ob), h[l]? = some o → pl[l]? = some none → o.n = 0
  at_ : ∀ (l : Nat) (o : Ob) (b q : Nat), h[l]? = some o → pl[l]? = some (some (b, q)) → (o.kd.ro = false → base ≤ b) ∧ ObAt Z h pl w o b q

structure St where
  fr : List (Nat × D)
  h : List Ob

def get : List (Nat × D) → Nat → D
  | [], _ => .undef
  | (t, d) :: r, u => bif Nat.beq t u then d else get r u
def put : List (Nat × D) → Nat → D → List (Nat × D)
  | [], u, d => [(u, d)]
  | (t, e) :: r, u, d => bif Nat.beq t u then (u, d) :: r else (t, e) :: put r u d

structure Rel (Z : Nat → Prop) (base nt : Nat) (s : St) (pl : List Pl) (a : Act) (w : World) : Prop where
  nt : a.tmps.size = nt
  defers : a.defers = []
  fr : ∀ t, RelV Z s.h pl w (get s.fr t) (a.tmps.getD t Go.undef)
  o : RelO Z base s.h pl w

theorem get_put (fr : List (Nat × D)) (u : Nat) (d : D) (t : Nat) : get (put fr u d) t = if t = u then d else get fr t := by
  induction fr with
  | nil =>
    simp only [put, get]
    by_cases h : u = t
    · subst h; simp
    · have h1 : Nat.beq u t = false := by rw [← Bool.not_eq_true, Nat.beq_eq]; exact h
      rw [h1, if_neg (Ne.symm h)]; rfl
  | cons x r ih =>
    obtain ⟨t', d'⟩ := x
    simp only [put]
    by_cases hb : t' = u
    · subst hb
      simp only [Nat.beq_refl, cond_true, get]
      by_cases h : t' = t
      · subst h; simp
      · have h1 : Nat.beq t' t = false := by rw [← Bool.not_eq_true, Nat.beq_eq]; exact h
        rw [h1, if_neg (Ne.symm h)]; rfl
    · have h1 : Nat.beq t' u = false := by rw [← Bool.not_eq_true, Nat.beq_eq]; exact hb
      rw [h1]
      simp only [cond_false, get]
      by_cases h : t' = t
      · subst h
        simp [hb]
      · have h2 : Nat.beq t' t = false := by rw [← Bool.not_eq_true, Nat.beq_eq]; exact h
        rw [h2]
        simpa using ih

theorem lt_of_some {h : List Ob} {l : Nat} {o : Ob} (e : h[l]? = some o) : l < h.length := (List.getElem?_eq_some_iff.1 e).1
theorem ltp_of_some {h : List Pl} {l : Nat} {o : Pl} (e : h[l]? = some o) : l < h.length := (List.getElem?_eq_some_iff.1 e).1
theorem lt_of_heap {w : World} {b : Nat} {o : Obj} (h : w.heap[b]? = some o) : b < w.heap.size := (Array.getElem?_eq_some_iff.1 h).1

theorem RelO.lt {base : Nat} {h : List Ob} {pl : List Pl} {w : World} (R : RelO Z base h pl w) {l b q : Nat} (e : pl[l]? = some (some (b, q))) : b < w.heap.size ∧ ∀ o, h[l]? = some o → o.kd.ro = false → base ≤ b := by
  have hl : l < h.length := by have := ltp_of_some e; rw [R.len] at this; exact this
  obtain ⟨hb, x⟩ := R.at_ l (h[l]) b q (List.getElem?_eq_getElem hl) e
  exact ⟨x.lt, fun o ho hr => by rw [List.getElem?_eq_getElem hl] at ho; cases ho; exact hb hr⟩

/-- Nothing of the call's own changes; old blocks stand. -/
theorem Tr.ext {base : Nat} {h : List Ob} {pl : List Pl} {w w' : World} (R : RelO Z base h pl w) (e : ∀ b, b < w.heap.size → w'.heap[b]? = w.heap[b]?) : Tr h pl w h pl w' where
  old := fun b hb hlt => ⟨hb, e b hlt⟩
  obj := fun l o p ho hp => ⟨o, p, ho, hp, Nat.le_refl _, rfl, fun _ => ⟨rfl, rfl⟩⟩
  shape := fun l o o' b q ho ho' hg hp c el hb => ⟨c, by rw [e b (R.lt hp).1]; exact hb, rfl⟩

theorem RelO.ext {base : Nat} {h : List Ob} {pl : List Pl} {w w' : World} (R : RelO Z base h pl w) (e : ∀ b, b < w.heap.size → w'.heap[b]? = w.heap[b]?) : RelO Z base h pl w' where
  len := R.len
  inj := R.inj
  noRow := R.noRow
  at_ := fun l o b q ho hp => by
    obtain ⟨h1, x⟩ := R.at_ l o b q ho hp
    exact ⟨h1, x.to rfl rfl rfl (e b (R.lt hp).1) (fun _ _ => rfl) fun i j v _ _ hr => hr.tr (Tr.ext R e)⟩

theorem Tr.refl (h : List Ob) (pl : List Pl) (w : World) : Tr h pl w h pl w where
  old := fun b hb hlt => ⟨hb, rfl⟩
  obj := fun l o p ho hp => ⟨o, p, ho, hp, Nat.le_refl _, rfl, fun _ => ⟨rfl, rfl⟩⟩
  shape := fun l o o' b q ho ho' hg hp c el hb => ⟨c, hb, rfl⟩
theorem Tr.trans {h h' h'' : List Ob} {pl pl' pl'' : List Pl} {w w' w'' : World} (T : Tr h pl w h' pl' w') (U : Tr h' pl' w' h'' pl'' w'') : Tr h pl w h'' pl'' w'' where
  old := fun b hb hlt => by
    obtain ⟨h1, h2⟩ := T.old b hb hlt
    have h3 : b < w'.heap.size := by
      rw [Array.getElem?_eq_getElem hlt] at h2
      exact (Array.getElem?_eq_some_iff.1 h2).1
    obtain ⟨h4, h5⟩ := U.old b h1 h3
    exact ⟨h4, by rw [h5, h2]⟩
  obj := fun l o p ho hp => by
    obtain ⟨o1, p1, a1, a2, a3, a4, a5⟩ := T.obj l o p ho hp
    obtain ⟨o2, p2, b1, b2, b3, b4, b5⟩ := U.obj l o1 p1 a1 a2
    refine ⟨o2, p2, b1, b2, Nat.le_trans a3 b3, by rw [b4, a4], fun e => ?_⟩
    obtain ⟨x1, x2⟩ := a5 (by omega)
    obtain ⟨y1, y2⟩ := b5 (by omega)
    exact ⟨by rw [y1, x1], by rw [y2, x2]⟩
  shape := fun l o o'' b q ho ho'' hg hp c el hb => by
    obtain ⟨o1, p1, a1, a2, a3, a4, a5⟩ := T.obj l o _ ho hp
    obtain ⟨o2, p2, b1, b2, b3, b4, b5⟩ := U.obj l o1 p1 a1 a2
    rw [ho''] at b1; cases b1
    have e1 : o1.gen = o.gen := by omega
    obtain ⟨x1, x2⟩ := a5 e1
    subst x2
    obtain ⟨c1, d1, d2⟩ := T.shape l o o1 b q ho a1 e1 hp c el hb
    obtain ⟨c2, f1, f2⟩ := U.shape l o1 o'' b q a1 ho'' (by omega) a2 c1 el d1
    exact ⟨c2, f1, by omega⟩

theorem Rel.ext {base nt : Nat} {s : St} {pl : List Pl} {a : Act} {w w' : World} (r : Rel Z base nt s pl a w) (e : ∀ b, b < w.heap.size → w'.heap[b]? = w.heap[b]?) : Rel Z base nt s pl a w' :=
  ⟨r.nt, r.defers, fun t => (r.fr t).tr (Tr.ext r.o e), r.o.ext e⟩

theorem getD_set (tmps : Array Value) (d t : Nat) (v : Value) (hd : d < tmps.size) : (tmps.setIfInBounds d v).getD t Go.undef = if t = d then v else tmps.getD t Go.undef := by
  simp only [Array.getD_eq_getD_getElem?, Array.getElem?_setIfInBounds]
  by_cases h : d = t
  · subst h; simp [hd]
  · rw [if_neg h, if_neg (Ne.symm h)]

/-- A step: the abstract heap goes on, and a slot is written. -/
theorem Rel.to {base nt : Nat} {s : St} {pl : List Pl} {a : Act} {w : World} (r : Rel Z base nt s pl a w) {h' : List Ob} {pl' : List Pl} {w' : World} (T : Tr s.h pl w h' pl' w') (R' : RelO Z base h' pl' w')
    {t : Nat} (ht : t < nt) {d : D} {v : Value} (hv : RelV Z h' pl' w' d v) : Rel Z base nt ⟨put s.fr t d, h'⟩ pl' (a.put (some t) v) w' where
  nt := by simp [Act.put, r.nt]
  defers := r.defers
  fr := fun u => by
    simp only [Act.put]
    rw [get_put, getD_set _ _ _ _ (by rw [r.nt]; exact ht)]
    by_cases h : u = t
    · rw [if_pos h, if_pos h]; exact hv
    · rw [if_neg h, if_neg h]; exact (r.fr u).tr T
  o := R'
theorem Rel.to' {base nt : Nat} {s : St} {pl : List Pl} {a : Act} {w : World} (r : Rel Z base nt s pl a w) {h' : List Ob} {pl' : List Pl} {w' : World} (T : Tr s.h pl w h' pl' w') (R' : RelO Z base h' pl' w')
    (v : Value) : Rel Z base nt ⟨s.fr, h'⟩ pl' (a.put none v) w' :=
  ⟨r.nt, r.defers, fun u => (r.fr u).tr T, R'⟩

theorem away_append {pl : List Pl} {p : Pl} {b : Nat} (hf : away pl b) (hp : ∀ q, p ≠ some (b, q)) : away (pl ++ [p]) b := fun l q e => by
  by_cases hl : l < pl.length
  · rw [List.getElem?_append_left hl] at e; exact hf l q e
  · rw [List.getElem?_append_right (by omega)] at e
    have : l - pl.length = 0 := by
      have := (List.getElem?_eq_some_iff.1 e).1
      simp at this; exact this
    rw [this] at e
    simp at e
    exact hp q e

theorem append_left_some {α : Type} {l : List α} {x y : α} {i : Nat} (e : l[i]? = some x) : (l ++ [y])[i]? = some x := by
  rw [List.getElem?_append_left (List.getElem?_eq_some_iff.1 e).1]; exact e
theorem append_inv {α : Type} {l : List α} {x y : α} {i : Nat} (e : (l ++ [y])[i]? = some x) : l[i]? = some x ∨ (i = l.length ∧ x = y) := by
  by_cases hl : i < l.length
  · rw [List.getElem?_append_left hl] at e; exact .inl e
  · rw [List.getElem?_append_right (by omega)] at e
    have h0 := (List.getElem?_eq_some_iff.1 e).1
    simp at h0
    have h1 : i = l.length := by omega
    subst h1
    simp at e
    exact .inr ⟨rfl, e.symm⟩

theorem heap_push_old (w : World) (o : Obj) (b : Nat) (h : b < w.heap.size) : (w.alloc o).heap[b]? = w.heap[b]? := Below.heap_alloc w o b h

/-- A new object. -/
theorem Tr.push {base : Nat} {h : List Ob} {pl : List Pl} {w w' : World} (R : RelO Z base h pl w) (e : ∀ b, b < w.heap.size → w'.heap[b]? = w.heap[b]?) (ob : Ob) (p : Pl) (hp : ∀ b q, p = some (b, q) → w.heap.size ≤ b) : Tr h pl w (h ++ [ob]) (pl ++ [p]) w' where
  old := fun b hb hlt => ⟨away_append hb fun q hq => by have := hp b q hq; omega, e b hlt⟩
  obj := fun l o p ho hp => ⟨o, p, append_left_some ho, append_left_some hp, Nat.le_refl _, rfl, fun _ => ⟨rfl, rfl⟩⟩
  shape := fun l o o' b q ho ho' hg hp c el hb => ⟨c, by rw [e b (R.lt hp).1]; exact hb, rfl⟩

theorem RelO.push' {base : Nat} {h : List Ob} {pl : List Pl} {w w' : World} (R : RelO Z base h pl w) (e : ∀ b, b < w.heap.size → w'.heap[b]? = w.heap[b]?) (ob : Ob) {b0 q0 : Nat} (hp : w.heap.size ≤ b0) (hbase : base ≤ b0)
    (hx : ObAt Z (h ++ [ob]) (pl ++ [some (b0, q0)]) w' ob b0 q0) : RelO Z base (h ++ [ob]) (pl ++ [some (b0, q0)]) w' := by
  have T : Tr h pl w (h ++ [ob]) (pl ++ [some (b0, q0)]) w' := Tr.push R e ob _ (by intro b q e; simp at e; omega)
  refine ⟨by simp [R.len], ?_, ?_, ?_⟩
  · intro l l' b q q' e1 e2
    rcases append_inv e1 with h1 | ⟨h1, h1'⟩ <;> rcases append_inv e2 with h2 | ⟨h2, h2'⟩
    · exact R.inj l l' b q q' h1 h2
    · have := (R.lt h1).1; simp at h2'; omega
    · have := (R.lt h2).1; simp at h1'; omega
    · omega
  · intro l o ho e1
    rcases append_inv e1 with h1 | ⟨h1, h1'⟩
    · rcases append_inv ho with h2 | ⟨h2, h2'⟩
      · exact R.noRow l o h2 h1
      · have := ltp_of_some h1; have := R.len; omega
    · simp at h1'
  · intro l o b q ho hpl
    rcases append_inv hpl with h1 | ⟨h1, h1'⟩
    · rcases append_inv ho with h2 | ⟨h2, h2'⟩
      · obtain ⟨g1, x⟩ := R.at_ l o b q h2 h1
        exact ⟨g1, x.to rfl rfl rfl (e b (R.lt h1).1) (fun _ _ => rfl) fun i j v _ _ hr => hr.tr T⟩
      · have := ltp_of_some h1; have := R.len; omega
    · rcases append_inv ho with h2 | ⟨h2, h2'⟩
      · have := lt_of_some h2; have := R.len; omega
      · subst h2'
        simp at h1'
        obtain ⟨rfl, rfl⟩ := h1'
        exact ⟨fun _ => hbase, hx⟩
theorem RelO.push {base : Nat} {h : List Ob} {pl : List Pl} {w w' : World} (R : RelO Z base h pl w) (e : ∀ b, b < w.heap.size → w'.heap[b]? = w.heap[b]?) (ob : Ob) (hk : ob.kd.ty = 0) {b0 q0 : Nat} (hp : w.heap.size ≤ b0) (hbase : base ≤ b0)
    {c : Array Value} {el : TypeId} (hb : w'.heap[b0]? = some (.cells c el (0, 0))) (hsz : q0 + ob.n * ob.sz ≤ c.size) (hrl : ∀ i, i < ob.n → (ob.row i).length = ob.sz)
    (hrow : ∀ i j, i < ob.n → j < ob.sz → ∃ v, c[q0 + (i * ob.sz + j)]? = some v ∧ RelV Z (h ++ [ob]) (pl ++ [some (b0, q0)]) w' (nth (ob.row i) j) v) : RelO Z base (h ++ [ob]) (pl ++ [some (b0, q0)]) w' :=
  R.push' e ob hp hbase (.ofCells hk ⟨c, el, hb, hsz, hrl, hrow⟩)

/-- An object without rows that lies nowhere. -/
theorem RelO.phantom {base : Nat} {h : List Ob} {pl : List Pl} {w : World} (R : RelO Z base h pl w) (ob : Ob) (hn : ob.n = 0) : RelO Z base (h ++ [ob]) (pl ++ [none]) w := by
  have T : Tr h pl w (h ++ [ob]) (pl ++ [none]) w := Tr.push R (fun _ _ => rfl) ob _ (by intro b q e; simp at e)
  refine ⟨by simp [R.len], ?_, ?_, ?_⟩
  · intro l l' b q q' e1 e2
    rcases append_inv e1 with h1 | ⟨h1, h1'⟩
    · rcases append_inv e2 with h2 | ⟨h2, h2'⟩
      · exact R.inj l l' b q q' h1 h2
      · simp at h2'
    · simp at h1'
  · intro l o ho e1
    rcases append_inv ho with h2 | ⟨h2, h2'⟩
    · rcases append_inv e1 with h1 | ⟨h1, h1'⟩
      · exact R.noRow l o h2 h1
      · have := lt_of_some h2; have := R.len; omega
    · subst h2'; exact hn
  · intro l o b q ho hpl
    rcases append_inv hpl with h1 | ⟨h1, h1'⟩
    · rcases append_inv ho with h2 | ⟨h2, h2'⟩
      · obtain ⟨g1, x⟩ := R.at_ l o b q h2 h1
        exact ⟨g1, x.to rfl rfl rfl rfl (fun _ _ => rfl) fun i j v _ _ hr => hr.tr T⟩
      · have := ltp_of_some h1; have := R.len; omega
    · simp at h1'

/-- The object at 'l' changes its rows in place (its generation, cell size and place stand). -/
theorem Tr.upd {base : Nat} {h : List Ob} {pl : List Pl} {w w' : World} (R : RelO Z base h pl w) {l : Nat} {o o' : Ob} {b q : Nat} (ho : h[l]? = some o) (hp : pl[l]? = some (some (b, q))) (hkd : o'.kd.ty = o.kd.ty) (hg : o'.gen = o.gen) (hz : o'.sz = o.sz)
    (e : ∀ k, k ≠ b → k < w.heap.size → w'.heap[k]? = w.heap[k]?) (hsh : ∀ c el, w.heap[b]? = some (.cells c el (0, 0)) → ∃ c', w'.heap[b]? = some (.cells c' el (0, 0)) ∧ c'.size = c.size) : Tr h pl w (h.set l o') pl w' where
  old := fun k hk hlt => ⟨hk, e k (fun hb => hk l q (by rw [hb]; exact hp)) hlt⟩
  obj := fun l' o1 p ho1 hp1 => by
    by_cases hl : l = l'
    · subst hl
      rw [ho] at ho1; cases ho1
      exact ⟨o', p, by simp [lt_of_some ho], hp1, by omega, hkd, fun _ => ⟨hz, rfl⟩⟩
    · exact ⟨o1, p, by rw [List.getElem?_set_ne hl]; exact ho1, hp1, Nat.le_refl _, rfl, fun _ => ⟨rfl, rfl⟩⟩
  shape := fun l' o1 o2 b1 q1 ho1 ho2 hgg hp1 c el hb => by
    by_cases hl : b1 = b
    · subst hl; exact hsh c el hb
    · exact ⟨c, by rw [e b1 hl (R.lt hp1).1]; exact hb, rfl⟩

theorem RelO.upd' {base : Nat} {h : List Ob} {pl : List Pl} {w w' : World} (R : RelO Z base h pl w) {l : Nat} {o o' : Ob} {b q : Nat} (ho : h[l]? = some o) (hp : pl[l]? = some (some (b, q)))
    (T : Tr h pl w (h.set l o') pl w') (e : ∀ k, k ≠ b → k < w.heap.size → w'.heap[k]? = w.heap[k]?) (hx : ObAt Z (h.set l o') pl w' o' b q) (hro : o'.kd.ro = o.kd.ro) : RelO Z base (h.set l o') pl w' := by
  refine ⟨by simp [R.len], R.inj, ?_, ?_⟩
  · intro l' o1 ho1 hp1
    by_cases hl : l = l'
    · subst hl; rw [hp] at hp1; cases hp1
    · rw [List.getElem?_set_ne hl] at ho1; exact R.noRow l' o1 ho1 hp1
  · intro l' o1 b1 q1 ho1 hp1
    by_cases hl : l = l'
    · subst hl
      rw [hp] at hp1; cases hp1
      have : (h.set l o')[l]? = some o' := by simp [lt_of_some ho]
      rw [this] at ho1; cases ho1
      exact ⟨fun hr => (R.lt hp).2 o ho (by rw [← hro, hr]), hx⟩
    · rw [List.getElem?_set_ne hl] at ho1
      obtain ⟨g1, x⟩ := R.at_ l' o1 b1 q1 ho1 hp1
      have hne : b1 ≠ b := fun hbb => hl (R.inj l l' b q q1 hp (by rw [← hbb]; exact hp1))
      exact ⟨g1, x.to rfl rfl rfl (e b1 hne (R.lt hp1).1) (fun _ _ => rfl) fun i j v _ _ hr => hr.tr T⟩
theorem RelO.upd {base : Nat} {h : List Ob} {pl : List Pl} {w w' : World} (R : RelO Z base h pl w) {l : Nat} {o o' : Ob} {b q : Nat} (ho : h[l]? = some o) (hp : pl[l]? = some (some (b, q))) (hk : o.kd.ty = 0) (hk' : o'.kd.ty = 0) (hg : o'.gen = o.gen) (hz : o'.sz = o.sz)
    (e : ∀ k, k ≠ b → k < w.heap.size → w'.heap[k]? = w.heap[k]?) {c0 c : Array Value} {el : TypeId} (hb0 : w.heap[b]? = some (.cells c0 el (0, 0))) (hb : w'.heap[b]? = some (.cells c el (0, 0))) (hc : c.size = c0.size)
    (hsz : q + o'.n * o'.sz ≤ c.size) (hrl : ∀ i, i < o'.n → (o'.row i).length = o'.sz)
    (hrow : ∀ i j, i < o'.n → j < o'.sz → ∃ v, c[q + (i * o'.sz + j)]? = some v ∧ RelV Z (h.set l o') pl w' (nth (o'.row i) j) v) (hro : o'.kd.ro = o.kd.ro) : RelO Z base (h.set l o') pl w' :=
  R.upd' (hro := hro) ho hp (Tr.upd R ho hp (by rw [hk, hk']) hg hz e (fun c1 el1 h1 => by rw [hb0] at h1; cases h1; exact ⟨c, hb, hc⟩)) e (.ofCells hk' ⟨c, el, hb, hsz, hrl, hrow⟩)
end Go.Fg
