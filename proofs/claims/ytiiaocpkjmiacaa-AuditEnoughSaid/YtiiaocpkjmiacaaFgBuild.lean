/- Composite literals and cuts of slices, over abstract values. Conditions: each result comes with the proposition under which it holds. -/
import Derived.Test.YtiiaocpkjmiacaaFgApp
namespace Go.Fg
set_option linter.unusedSimpArgs false
set_option linter.unusedVariables false
open Go.RowKit (Below)
variable {Z : Nat → Prop}

/-- An array of values stands to a list of abstract cells. -/
def RelL (Z : Nat → Prop) (h : List Ob) (pl : List Pl) (w : World) (cs : List D) (vs : Array Value) : Prop := vs.size = cs.length ∧ ∀ i, i < cs.length → RelV Z h pl w (nth cs i) (nthV vs.toList i)

theorem fold_set (off : Nat) : ∀ (l : List Value) (n : Nat) (c : Array Value), ((l.zipIdx n).foldl (fun (cs : Array Value) (x : Value × Nat) => cs.setIfInBounds (off + x.2) x.1) c).size = c.size ∧
    ∀ k, (((l.zipIdx n).foldl (fun (cs : Array Value) (x : Value × Nat) => cs.setIfInBounds (off + x.2) x.1) c)[k]?) = if off + n ≤ k ∧ k < off + n + l.length ∧ k < c.size then l[k - (off + n)]? else c[k]?
  | [], n, c => ⟨rfl, fun k => by rw [if_neg (by simp; omega)]; rfl⟩
  | v :: l, n, c => by
    obtain ⟨h1, h2⟩ := fold_set off l (n + 1) (c.setIfInBounds (off + n) v)
    simp only [List.zipIdx_cons, List.foldl_cons]
    refine ⟨by rw [h1]; simp, fun k => ?_⟩
    rw [h2 k]
    simp only [Array.size_setIfInBounds, List.length_cons]
    by_cases h3 : k = off + n
    · subst h3
      rw [if_neg (by omega), Array.getElem?_setIfInBounds_self]
      by_cases h4 : off + n < c.size
      · rw [if_pos h4, if_pos ⟨by omega, by omega, h4⟩]; simp
      · rw [if_neg h4, if_neg (by omega)]; simp; omega
    · rw [Array.getElem?_setIfInBounds_ne (by omega)]
      by_cases h5 : off + n ≤ k ∧ k < off + n + (l.length + 1) ∧ k < c.size
      · rw [if_pos h5, if_pos (by omega)]
        obtain ⟨m, rfl⟩ : ∃ m, k = off + n + (m + 1) := ⟨k - (off + n) - 1, by omega⟩
        rw [show off + n + (m + 1) - (off + (n + 1)) = m by omega, show off + n + (m + 1) - (off + n) = m + 1 by omega]; simp
      · rw [if_neg h5, if_neg (by omega)]

theorem fold_arr (off : Nat) (v : Array Value) (c : Array Value) : v.zipIdx.foldl (fun (cs : Array Value) (x : Value × Nat) => cs.setIfInBounds (off + x.2) x.1) c = (v.toList.zipIdx 0).foldl (fun (cs : Array Value) (x : Value × Nat) => cs.setIfInBounds (off + x.2) x.1) c := by
  rw [← Array.foldl_toList, Array.toList_zipIdx]

theorem RelL.splice {h : List Ob} {pl : List Pl} {w : World} {cs ds : List D} {vs us : Array Value} {off : Nat} (r : RelL Z h pl w cs vs) (q : RelL Z h pl w ds us) (hl : off + ds.length ≤ cs.length) :
    RelL Z h pl w (splice cs off ds) (us.zipIdx.foldl (fun (cs : Array Value) (x : Value × Nat) => cs.setIfInBounds (off + x.2) x.1) vs) := by
  obtain ⟨h1, h2⟩ := fold_set off us.toList 0 vs
  rw [fold_arr]
  refine ⟨by rw [h1, r.1, splice_length hl], fun i hi => ?_⟩
  rw [splice_length hl] at hi
  rw [nth_splice hl]
  have e : nthV (List.foldl (fun (cs : Array Value) (x : Value × Nat) => cs.setIfInBounds (off + x.2) x.1) vs (us.toList.zipIdx 0)).toList i = if off ≤ i ∧ i < off + ds.length then nthV us.toList (i - off) else nthV vs.toList i := by
    simp only [nthV, List.getD_eq_getElem?_getD, Array.getElem?_toList, h2 i, Nat.add_zero, Array.length_toList, q.1, r.1]
    by_cases h3 : off ≤ i ∧ i < off + ds.length
    · rw [if_pos ⟨h3.1, h3.2, hi⟩, if_pos h3]
    · rw [if_neg (by omega), if_neg h3]
  rw [e]
  split
  · exact q.2 _ (by omega)
  · exact r.2 _ hi

/-- The cells of a composite literal. -/
def pfill (place : Nat → Option (Nat × Nat)) (cells : List D) : List (Nat × Option (List D)) → Option (List D)
  | [] => some cells
  | (i, some ds) :: rest => match place i with
    | some (off, size) => bif Nat.beq ds.length size && Nat.ble (off + ds.length) cells.length then pfill place (splice cells off ds) rest else none
    | none => none
  | (_, none) :: _ => none

theorem pfill_ok {h : List Ob} {pl : List Pl} {w : World} (place : Nat → Option (Nat × Nat)) (ev : Operand → D) (a : Act) (hev : ∀ x, RelV Z h pl w (ev x) (a.eval x)) : ∀ (parts : List (Nat × Operand)) (cells cells' : List D) (vs : Array Value), RelL Z h pl w cells vs →
    pfill place cells (parts.map fun x => (x.1, cellsD (ev x.2))) = some cells' → ∃ vs', Instr.fill place vs (parts.map fun x => (x.1, a.eval x.2)) = some vs' ∧ RelL Z h pl w cells' vs'
  | [], cells, cells', vs, r, hh => by simp [pfill] at hh; subst hh; exact ⟨vs, rfl, r⟩
  | (i, x) :: parts, cells, cells', vs, r, hh => by
    simp only [List.map_cons] at hh ⊢
    cases hd : cellsD (ev x) with
    | none => rw [hd] at hh; simp [pfill] at hh
    | some ds =>
      rw [hd] at hh
      simp only [pfill] at hh
      cases hp : place i with
      | none => rw [hp] at hh; cases hh
      | some os =>
        obtain ⟨off, size⟩ := os
        rw [hp] at hh
        obtain ⟨hc, hh⟩ := cond_none hh
        simp only [Bool.and_eq_true, Nat.beq_eq, Nat.ble_eq] at hc
        obtain ⟨hc1, hc2⟩ := cellsD_ok (hev x) hd
        have q : RelL Z h pl w ds (a.eval x).cells := ⟨hc1, fun i hi => (hc2 i hi).1⟩
        obtain ⟨vs', h1, h2⟩ := pfill_ok place ev a hev parts _ _ _ (r.splice q hc.2) hh
        refine ⟨vs', ?_, h2⟩
        simp only [Instr.fill, hp]
        rw [if_neg (by simp only [hc1, r.1]; simp; omega)]
        exact h1

theorem zero_rel {h : List Ob} {pl : List Pl} {w : World} {y : Ty} {z : Value} (hz : z.cells.toList = y.zero) : RelL Z h pl w (y.zero.map ofCell) z.cells := by
  refine ⟨by rw [← hz]; simp, fun i hi => ?_⟩
  rw [← hz] at hi ⊢
  have hi' : i < z.cells.size := by simpa using hi
  refine .cl _ _ ?_
  simp only [nth, nthV, List.getD_eq_getElem?_getD, List.getElem?_map, Array.getElem?_toList, Array.getElem?_eq_getElem hi', Option.map_some, Option.getD_some]
  exact cl_ofCell _ _ _

def pplaces (L : Lay) : List (Nat × TypeId) → Option (List (Nat × Nat))
  | [] => some []
  | (off, u) :: r => match ty L u, pplaces L r with
    | some y, some ps => some ((off, y.size) :: ps)
    | _, _ => none
theorem run_places' {P : Program} {L : Lay} (hL : LayOk P L) (w : World) : ∀ (fs : List Field) (ps : List (Nat × Nat)), pplaces L (fs.map fun f => (f.offset, f.type)) = some ps → (fs.mapM fun f => Prod.mk f.offset <$> sizeOf f.type).run P w = .ok ps w
  | [], ps, h => by simp [pplaces] at h; subst h; simp
  | f :: fs, ps, h => by
    simp only [List.map_cons, pplaces] at h
    split at h
    · rename_i y ps' hy hps
      simp only [Option.some.injEq] at h
      subst h
      simp [List.mapM_cons, (hL _ _ hy).sizeOf, run_places' hL w fs ps' hps]
    · cases h

def pbuild (L : Lay) (fr : List (Nat × D)) (t : TypeId) (parts : List (Nat × Operand)) : Option D :=
  match ty L t with
  | some y => match y.k with
    | .struct fs => match pplaces L fs with
      | some ps => match pfill (fun i => ps[i]?) (y.zero.map ofCell) (parts.map fun x => (x.1, cellsD (evalO fr x.2))) with
        | some cs => some (.agg cs)
        | none => none
      | none => none
    | .array _ e => match ty L e with
      | some ye => match pfill (fun i => some (i * ye.size, ye.size)) (y.zero.map ofCell) (parts.map fun x => (x.1, cellsD (evalO fr x.2))) with
        | some cs => some (.agg cs)
        | none => none
      | none => none
    | _ => none
  | none => none

section
variable {P : Program} {L : Lay} {base nt : Nat} {s : St} {o : Oper}

theorem RelL.agg {h : List Ob} {pl : List Pl} {w : World} {cs : List D} {vs : Array Value} (r : RelL Z h pl w cs vs) : RelV Z h pl w (.agg cs) (.agg vs) := by
  have := RelV.agg (h := h) (pl := pl) (w := w) cs vs.toList (by simpa using r.1) r.2
  simpa using this

theorem parts_map (a : Act) (parts : Array (Nat × Operand)) : (parts.map fun (i, x) => (i, a.eval x)).toList = parts.toList.map fun x => (x.1, a.eval x.2) := by simp

theorem build_ok (hL : LayOk P L) {t : TypeId} {parts : Array (Nat × Operand)} (ho : o.op = .build t parts) {d : D} (h : pbuild L s.fr t parts.toList = some d) : PureOk P base nt o s d := by
  intro Z pl a w r
  unfold pbuild at h
  split at h
  · rename_i y hy'
    have hy := hL _ _ hy'
    obtain ⟨z, hz, hzr⟩ := hy.zeroValue
    split at h
    · rename_i fs hk
      split at h
      · rename_i ps hps
        split at h
        · rename_i cs hcs
          simp only [Option.some.injEq] at h
          subst h
          obtain ⟨g, hg, hm⟩ := under_struct hy hk
          obtain ⟨vs', h1, h2⟩ := pfill_ok (h := s.h) (pl := pl) (w := w) _ (evalO s.fr) a (fun x => r.eval x) parts.toList _ _ _ (zero_rel hz) hcs
          refine ⟨_, h2.agg, fun w' _ => ?_⟩
          have hpl := run_places' hL w' g.toList ps (by rw [hm]; exact hps)
          have h1' : Instr.fill (fun x => ps[x]?) z.cells (List.map (fun x => (x.fst, a.eval x.snd)) parts.toList) = some vs' := h1
          simp [execOp, ho, Instr.build, hzr, run_underlying hg, Array.mapM_eq_mapM_toList, hpl, h1']
        · cases h
      · cases h
    · rename_i n e hk
      split at h
      · rename_i ye hye
        split at h
        · rename_i cs hcs
          simp only [Option.some.injEq] at h
          subst h
          obtain ⟨vs', h1, h2⟩ := pfill_ok (h := s.h) (pl := pl) (w := w) _ (evalO s.fr) a (fun x => r.eval x) parts.toList _ _ _ (zero_rel hz) hcs
          refine ⟨_, h2.agg, fun w' _ => ?_⟩
          simp [execOp, ho, Instr.build, hzr, run_underlying (under_array hy hk), (hL _ _ hye).sizeOf, h1]
        · cases h
      · cases h
    · cases h
  · cases h

theorem nth_append_lt {a b : List D} {i : Nat} (h : i < a.length) : nth (a ++ b) i = nth a i := by simp only [nth, List.getD_eq_getElem?_getD, List.getElem?_append_left h]
theorem nth_append_ge {a b : List D} {i : Nat} (h : a.length ≤ i) : nth (a ++ b) i = nth b (i - a.length) := by simp only [nth, List.getD_eq_getElem?_getD, List.getElem?_append_right h]
theorem rep_length (n : Nat) (zs : List D) : (List.replicate n zs).flatten.length = n * zs.length := by simp
theorem nth_rep (zs : List D) : ∀ (n i : Nat), i < n * zs.length → nth (List.replicate n zs).flatten i = nth zs (i % zs.length)
  | 0, i, h => by simp at h
  | n + 1, i, h => by
    rw [List.replicate_succ, List.flatten_cons]
    rw [Nat.add_mul] at h
    by_cases hi : i < zs.length
    · rw [nth_append_lt hi, Nat.mod_eq_of_lt hi]
    · rw [nth_append_ge (by omega), nth_rep zs n _ (by omega)]
      congr 1
      rw [Nat.mod_eq_sub_mod (by omega : zs.length ≤ i)]

def pbsRow (len sz : Nat) (cells : List D) : Nat → List D := bif Nat.beq len 1 then fun _ => cells else fun k => (cells.drop (k * sz)).take sz
def pbuildSlice (L : Lay) (fr : List (Nat × D)) (h : List Ob) (t : TypeId) (len : Nat) (parts : List (Nat × Operand)) : Option (Prop × List Ob × D) :=
  match ty L t with
  | some ⟨.slice e, _, _, _⟩ => match ty L e with
    | some y => match pfill (fun i => some (i * y.size, y.size)) (List.replicate len (y.zero.map ofCell)).flatten (parts.map fun x => (x.1, cellsD (evalO fr x.2))) with
      | some cs => some (len * y.size ≤ 16777216 ∧ y.zero.length = y.size, h ++ [⟨.arr, 0, y.size, len, pbsRow len y.size cs⟩], .ref h.length 0 0 len)
      | none => none
    | none => none
  | _ => none
theorem pfill_length (place : Nat → Option (Nat × Nat)) : ∀ (ps : List (Nat × Option (List D))) (cells cells' : List D), pfill place cells ps = some cells' → cells'.length = cells.length
  | [], cells, cells', h => by simp [pfill] at h; rw [h]
  | (i, none) :: ps, cells, cells', h => by simp [pfill] at h
  | (i, some ds) :: ps, cells, cells', h => by
    simp only [pfill] at h
    split at h
    · obtain ⟨hc, h⟩ := cond_none h
      simp only [Bool.and_eq_true, Nat.beq_eq, Nat.ble_eq] at hc
      rw [pfill_length place ps _ _ h, splice_length hc.2]
    · cases h

theorem buildSlice_ok (hL : LayOk P L) {t : TypeId} {len : Nat} {parts : Array (Nat × Operand)} (ho : o.op = .buildSlice t len parts) {p : Prop} {h' : List Ob} {d : D} (h : pbuildSlice L s.fr s.h t len parts.toList = some (p, h', d)) (hp : p) : EffOk P base nt o s h' d := by
  intro Z pl a w r hbs
  unfold pbuildSlice at h
  split at h
  · rename_i e _ _ _ he
    split at h
    · rename_i y hy'
      split at h
      · rename_i cs hcs
        simp only [Option.some.injEq, Prod.mk.injEq] at h
        obtain ⟨rfl, rfl, rfl⟩ := h
        obtain ⟨h24, hzl⟩ := hp
        have hy := hL _ _ hy'
        obtain ⟨z, hz, hzr⟩ := hy.zeroValue
        have hzs : z.cells.size = y.size := by rw [← hzl, ← hz]; simp
        have ht := under_slice (hL _ _ he) rfl
        have zr := zero_rel (Z := Z) (h := s.h) (pl := pl) (w := w) hz
        have hml : (y.zero.map ofCell).length = y.size := by simp [hzl]
        have hlen : cs.length = len * y.size := by rw [pfill_length _ _ _ _ hcs, rep_length, hml]
        -- the zeros
        have init : ∀ zc : Array Value, (len * y.size = 0 → zc = #[]) → (len * y.size ≠ 0 → zc = z.cells) → RelL Z s.h pl w (List.replicate len (y.zero.map ofCell)).flatten ((Array.range (len * y.size)).map (zc[· % zc.size]!)) := by
          intro zc h0 h1
          refine ⟨by rw [rep_length, hml]; simp, fun i hi => ?_⟩
          rw [rep_length, hml] at hi
          have hne : len * y.size ≠ 0 := by omega
          have hzc := h1 hne
          subst hzc
          have hpos : 0 < y.size := Nat.pos_of_ne_zero (fun e => hne (by rw [e]; simp))
          rw [nth_rep _ _ _ (by rw [hml]; exact hi), hml]
          have h2 := zr.2 (i % y.size) (by rw [hml]; exact Nat.mod_lt _ hpos)
          have h3 : i % y.size < z.cells.size := by rw [hzs]; exact Nat.mod_lt _ hpos
          have : nthV (Array.map (fun x => z.cells[x % z.cells.size]!) (Array.range (len * y.size))).toList i = nthV z.cells.toList (i % y.size) := by
            simp only [nthV, List.getD_eq_getElem?_getD, Array.getElem?_toList, Array.getElem?_map, Array.getElem?_range, hi, if_true, Option.map_some, Option.getD_some, hzs]
            rw [getElem!_pos z.cells _ h3, Array.getElem?_eq_getElem h3]; rfl
          rw [this]; exact h2
        have fin : ∀ vs' : Array Value, RelL Z s.h pl w cs vs' → (execOp a.eval o).run P w = .ok (.value (.slice (some ⟨w.heap.size, 0, none⟩) len len)) (w.alloc (.cells vs' e)) →
            ∃ v w' pl', ((execOp a.eval o).run P w = .ok (.value v) w' ∨ ((execOp a.eval o).run P w = .ok .skip w' ∧ v = Go.undef)) ∧ Tr s.h pl w (s.h ++ [⟨.arr, 0, y.size, len, pbsRow len y.size cs⟩]) pl' w' ∧
              RelO Z base (s.h ++ [⟨.arr, 0, y.size, len, pbsRow len y.size cs⟩]) pl' w' ∧ RelV Z (s.h ++ [⟨.arr, 0, y.size, len, pbsRow len y.size cs⟩]) pl' w' (.ref s.h.length 0 0 len) v ∧ Below base w w' ∧ (calm o = true → Ext w w') := by
          intro vs' hr hrun
          have e1 : ∀ b, b < w.heap.size → (w.alloc (.cells vs' e)).heap[b]? = w.heap[b]? := fun b hb => heap_push_old w _ b hb
          have hnew : (w.alloc (.cells vs' e)).heap[w.heap.size]? = some (.cells vs' e (0, 0)) := heap_alloc_new w _
          have hpl : pl.length = s.h.length := r.o.len
          have T : Tr s.h pl w (s.h ++ [⟨.arr, 0, y.size, len, pbsRow len y.size cs⟩]) (pl ++ [some (w.heap.size, 0)]) (w.alloc (.cells vs' e)) := Tr.push r.o e1 _ _ (by intro b q h; simp at h; omega)
          have hrow : ∀ i, i < len → (pbsRow len y.size cs i).length = y.size ∧ ∀ j, j < y.size → nth (pbsRow len y.size cs i) j = nth cs (i * y.size + j) := by
            intro i hi
            unfold pbsRow
            by_cases h1 : len = 1
            · subst h1
              have : i = 0 := by omega
              subst this
              simp [hlen]
            · have : Nat.beq len 1 = false := by rw [← Bool.not_eq_true, Nat.beq_eq]; exact h1
              rw [this]
              have h2 := Nat.mul_le_mul_right y.size (show i + 1 ≤ len from hi)
              rw [Nat.add_mul] at h2
              refine ⟨by simp [hlen]; omega, fun j hj => ?_⟩
              simp only [cond_false]
              rw [nth_take hj, nth_drop]
          refine ⟨_, _, _, .inl hrun, T, RelO.push r.o e1 _ rfl (Nat.le_refl _) hbs hnew (by simp [hr.1, hlen]) (fun i hi => (hrow i hi).1) (fun i j hi hj => ?_), .ref _ _ _ _ ⟨.arr, 0, y.size, len, pbsRow len y.size cs⟩ (some (w.heap.size, 0)) _ len (by simp) (by rw [← hpl]; simp) rfl (Nat.le_refl _) (fun _ => .inr ⟨w.heap.size, 0, vs', e, rfl, by simp, hnew, by simp [hr.1, hlen], Nat.le_refl _⟩), below_alloc hbs _, fun _ => e1⟩
          have hj' : j < y.size := hj
          have hi' : i < len := hi
          have h2 := Nat.mul_le_mul_right y.size (show i + 1 ≤ len from hi')
          rw [Nat.add_mul] at h2
          have hlt : i * y.size + j < cs.length := by omega
          refine ⟨nthV vs'.toList (i * y.size + j), ?_, ?_⟩
          · have : i * y.size + j < vs'.size := by rw [hr.1]; exact hlt
            simp only [Nat.zero_add, nthV, List.getD_eq_getElem?_getD, Array.getElem?_toList, Array.getElem?_eq_getElem this, Option.getD_some]
          · show RelV _ _ _ _ (nth (pbsRow len y.size cs i) j) _
            rw [(hrow i hi').2 j hj']
            exact (hr.2 _ hlt).tr T
        by_cases h0 : len * y.size = 0
        · obtain ⟨vs', h1, h2⟩ := pfill_ok (h := s.h) (pl := pl) (w := w) _ (evalO s.fr) a (fun x => r.eval x) parts.toList _ _ _ (init #[] (fun _ => rfl) (fun h => absurd h0 h)) hcs
          rw [h0] at h1
          have e0 : Array.map (fun x => (#[] : Array Value)[x % (#[] : Array Value).size]!) (Array.range 0) = #[] := by simp
          rw [e0] at h1
          have e1 : ∀ f : Nat → Value, Array.map f (Array.range 0) = #[] := fun f => Array.eq_empty_of_size_eq_zero (by simp)
          refine fin vs' h2 ?_
          simp [execOp, ho, Instr.buildSlice, run_underlying ht, hy.sizeOf, h0, newRow, h1, e1]
        · obtain ⟨vs', h1, h2⟩ := pfill_ok (h := s.h) (pl := pl) (w := w) _ (evalO s.fr) a (fun x => r.eval x) parts.toList _ _ _ (init z.cells (fun h => absurd h h0) (fun _ => rfl)) hcs
          refine fin vs' h2 ?_
          have h24' : ¬ (16777216 < len * y.size) := by omega
          simp [execOp, ho, Instr.buildSlice, run_underlying ht, hy.sizeOf, hzr, h0, h24', newRow, h1]
      · cases h
    · cases h
  · cases h
end
end Go.Fg
