/- Operations that make or write memory, over abstract values and the abstract heap. Conditions: each comes with the proposition under which it goes through. -/
import Derived.Test.YtiiaocpkjmiacaaFgOp2
namespace Go.Fg
set_option linter.unusedSimpArgs false
set_option linter.unusedVariables false
open Go.RowKit (Below)
variable {Z : Nat → Prop}

/-- Old blocks stand. -/
def Ext (w w' : World) : Prop := ∀ b, b < w.heap.size → w'.heap[b]? = w.heap[b]?
theorem Ext.refl (w : World) : Ext w w := fun _ _ => rfl
theorem Ext.trans {a b c : World} (h : Ext a b) (k : Ext b c) : Ext a c := fun i hi => by
  have h1 := h i hi
  have h2 : i < b.heap.size := by
    rw [Array.getElem?_eq_getElem hi] at h1
    exact (Array.getElem?_eq_some_iff.1 h1).1
  rw [k i h2, h1]

/-- What writes into no block that stands. -/
def calm (o : Oper) : Bool := match o.op with
  | .store .. | .mapUpdate .. | .insert .. | .entryStore .. | .next .. => false
  | .call ⟨.builtin .len, _, _⟩ | .call ⟨.builtin .min, _, _⟩ | .call ⟨.builtin .max, _, _⟩ => true
  | .call ⟨.builtin _, _, _⟩ => false
  | _ => true
/-- What an operation that makes or writes memory comes to. -/
def EffOk (P : Program) (base nt : Nat) (o : Oper) (s : St) (h' : List Ob) (d : D) : Prop :=
  ∀ (Z : Nat → Prop) pl a w, Rel Z base nt s pl a w → base ≤ w.heap.size → ∃ v w' pl', ((execOp a.eval o).run P w = .ok (.value v) w' ∨ ((execOp a.eval o).run P w = .ok .skip w' ∧ v = Go.undef)) ∧
    Tr s.h pl w h' pl' w' ∧ RelO Z base h' pl' w' ∧ RelV Z h' pl' w' d v ∧ Below base w w' ∧ (calm o = true → Ext w w')
def EffOk0 (P : Program) (base nt : Nat) (o : Oper) (s : St) (h' : List Ob) (d : D) : Prop :=
  ∀ (Z : Nat → Prop) pl a w, Rel Z base nt s pl a w → base ≤ w.heap.size → ∃ v w' pl', ((execOp a.eval o).run P w = .ok (.value v) w' ∨ ((execOp a.eval o).run P w = .ok .skip w' ∧ v = Go.undef)) ∧
    Tr s.h pl w h' pl' w' ∧ RelO Z base h' pl' w' ∧ RelV Z h' pl' w' d v ∧ Below base w w'
theorem EffOk0.up {P : Program} {base nt : Nat} {o : Oper} {s : St} {h' : List Ob} {d : D} (h : EffOk0 P base nt o s h' d) (hc : calm o = false) : EffOk P base nt o s h' d := fun Z pl a w r hb =>
  let ⟨v, w', pl', h1, h2, h3, h4, h5⟩ := h Z pl a w r hb
  ⟨v, w', pl', h1, h2, h3, h4, h5, fun e => by rw [hc] at e; cases e⟩

/-- A Go value of one cell. -/
def oneV : Value → Bool
  | .agg _ | .tuple _ => false
  | _ => true
/-- A value of one cell. -/
def D.oneCell : D → Bool
  | .raw v => oneV v
  | .undef | .agg _ | .tup _ => false
  | _ => true
/-- The cells of a value. -/
def cellsD : D → Option (List D)
  | .agg cs => bif cs.all D.oneCell then some cs else none
  | d => bif d.oneCell then some [d] else none

theorem oneCell_ok {h : List Ob} {pl : List Pl} {w : World} {d : D} {v : Value} (r : RelV Z h pl w d v) (hd : d.oneCell = true) : oneV v = true := by
  cases r with
  | cl _ _ hc => cases hc <;> first | rfl | exact hd | (simp [D.oneCell] at hd)
  | ref => rfl
  | ptr => rfl
  | mref _ _ o p b ho hp hk hg hs => rw [hk.2]; unfold mval; split <;> rfl
  | clo => rfl
  | agg => simp [D.oneCell] at hd
  | tup => simp [D.oneCell] at hd

theorem cells_one {v : Value} (h : oneV v = true) : v.cells = #[v] := by cases v <;> first | rfl | cases h

theorem cellsD_ok {h : List Ob} {pl : List Pl} {w : World} {d : D} {v : Value} (r : RelV Z h pl w d v) {cs : List D} (hc : cellsD d = some cs) :
    v.cells.size = cs.length ∧ ∀ i, i < cs.length → RelV Z h pl w (nth cs i) (nthV v.cells.toList i) ∧ oneV (nthV v.cells.toList i) = true := by
  have one : ∀ d' : D, RelV Z h pl w d' v → (bif d'.oneCell then some [d'] else none) = some cs → v.cells.size = cs.length ∧ ∀ i, i < cs.length → RelV Z h pl w (nth cs i) (nthV v.cells.toList i) ∧ oneV (nthV v.cells.toList i) = true := by
    intro d' r' h'
    cases hd : d'.oneCell
    · rw [hd] at h'; cases h'
    · rw [hd] at h'
      simp only [cond_true, Option.some.injEq] at h'
      subst h'
      have ho := oneCell_ok r' hd
      rw [cells_one ho]
      refine ⟨rfl, fun i hi => ?_⟩
      have : i = 0 := by simp at hi; omega
      subst this
      exact ⟨r', ho⟩
  cases d with
  | agg cs' =>
    simp only [cellsD] at hc
    obtain ⟨ha, hc⟩ := cond_none hc
    cases hc
    obtain ⟨vs, rfl, hl, hr⟩ := inv_agg r
    refine ⟨by simp [Value.cells, hl], fun i hi => ⟨by simpa [Value.cells] using hr i hi, ?_⟩⟩
    refine oneCell_ok (by simpa [Value.cells] using hr i hi : RelV Z h pl w (nth cs i) _) ?_
    rw [List.all_eq_true] at ha
    have := ha (nth cs i) (by simp [nth, List.getD_eq_getElem?_getD, hi])
    exact this
  | _ => exact one _ r hc

/-! Writing a run of cells. -/
theorem run_storeCells {P : Program} (b : Nat) (el : TypeId) : ∀ (vs : List Value) (i q : Nat) (w : World) (c : Array Value), w.heap[b]? = some (.cells c el (0, 0)) → q + i + vs.length ≤ c.size → (∀ j, j < vs.length → oneV (nthV vs j) = true) →
    ∃ w' c', (storeCells ⟨b, q, none⟩ vs i).run P w = .ok () w' ∧ w'.heap[b]? = some (.cells c' el (0, 0)) ∧ c'.size = c.size ∧
      (∀ k, c'[k]? = if q + i ≤ k ∧ k < q + i + vs.length then vs[k - (q + i)]? else c[k]?) ∧ (∀ k, k ≠ b → w'.heap[k]? = w.heap[k]?) ∧ w'.heap.size = w.heap.size ∧ w'.os = w.os ∧ w'.tape = w.tape ∧ w'.output = w.output
  | [], i, q, w, c, hb, hs, ho => ⟨w, c, by simp [storeCells], hb, rfl, fun k => by rw [if_neg]; simp, fun _ _ => rfl, rfl, rfl, rfl, rfl⟩
  | v :: vs, i, q, w, c, hb, hs, ho => by
    simp only [List.length_cons] at hs
    have h0 : oneV v = true := ho 0 (by simp)
    have hlt : q + i < c.size := by omega
    have hcell : w.cell? ⟨b, q + i, none⟩ = some c[q + i] := by rw [cell_of_row w b _ c el (0, 0) hb]; simp [hlt]
    have hfro : w.frozen? ⟨b, q + i, none⟩ = false := frozen_of_row w b _ c el hb
    have hset := heap_setCell_same w b (q + i) c el v hb
    obtain ⟨w', c', h1, h2, h3, h4, h5, h6, h7, h8, h9⟩ := run_storeCells (P := P) b el vs (i + 1) q (w.setCell ⟨b, q + i, none⟩ v) _ hset (by simp; omega) (fun j hj => by
      have := ho (j + 1) (by simp; omega)
      simpa [nthV] using this)
    refine ⟨w', c', ?_, h2, by rw [h3]; simp, fun k => ?_, fun k hk => by rw [h5 k hk]; exact Below.heap_setCell _ _ _ _ hk, by rw [h6]; simp, by rw [h7]; rfl, by rw [h8]; rfl, by rw [h9]; rfl⟩
    · have hst : (store (⟨b, q + i, none⟩ : Addr) v).run P w = .ok () (w.setCell ⟨b, q + i, none⟩ v) := by
        cases v <;> first | (simp [oneV] at h0; done) | (simp [store, Sem.run, hcell, hfro])
      simp only [storeCells, Sem.run_bind, add_mk, hst, Result.andThen_ok]
      exact h1
    · rw [h4 k]
      by_cases h10 : q + i = k
      · subst h10
        rw [if_neg (by omega), if_pos (by simp)]
        simp [hlt]
      · by_cases h11 : q + i ≤ k ∧ k < q + i + (v :: vs).length
        · rw [if_pos h11, if_pos (by simp at h11; omega)]
          obtain ⟨m, rfl⟩ : ∃ m, k = q + i + (m + 1) := ⟨k - (q + i) - 1, by omega⟩
          rw [show q + i + (m + 1) - (q + i) = m + 1 by omega, show q + i + (m + 1) - (q + (i + 1)) = m by omega]
          simp
        · rw [if_neg h11, if_neg (by simp at h11; omega), Array.getElem?_setIfInBounds_ne (by omega)]

/-- Cells in the place of others. -/
def splice (cs : List D) (j : Nat) (ds : List D) : List D := cs.take j ++ ds ++ cs.drop (j + ds.length)
theorem splice_length {cs : List D} {j : Nat} {ds : List D} (h : j + ds.length ≤ cs.length) : (splice cs j ds).length = cs.length := by simp [splice]; omega
theorem nth_splice {cs : List D} {j : Nat} {ds : List D} (h : j + ds.length ≤ cs.length) (i : Nat) : nth (splice cs j ds) i = if j ≤ i ∧ i < j + ds.length then nth ds (i - j) else nth cs i := by
  simp only [nth, splice, List.getD_eq_getElem?_getD]
  by_cases h1 : i < j
  · rw [if_neg (by omega), List.append_assoc, List.getElem?_append_left (by simp; omega)]
    simp [h1]
  · by_cases h2 : i < j + ds.length
    · rw [if_pos ⟨by omega, h2⟩, List.append_assoc, List.getElem?_append_right (by simp; omega), List.getElem?_append_left (by simp; omega)]
      simp; congr 3; omega
    · rw [if_neg (by omega), List.getElem?_append_right (by simp; omega)]
      simp only [List.getElem?_drop, List.length_append, List.length_take]
      congr 2; omega
def setRow (o : Ob) (i : Nat) (cells : List D) : Ob :=
  { o with row := bif o.kd.isOne then fun _ => cells else fun k => bif Nat.beq k i then cells else o.row k }
theorem setRow_row {o : Ob} {i : Nat} {cells : List D} (h1 : o.kd.isOne = true → o.n = 1) {k : Nat} (hi : i < o.n) (hk : k < o.n) : (setRow o i cells).row k = if k = i then cells else o.row k := by
  unfold setRow
  cases h : o.kd.isOne
  · simp only [cond_false]
    by_cases hh : k = i
    · subst hh; simp
    · have : Nat.beq k i = false := by rw [← Bool.not_eq_true, Nat.beq_eq]; exact hh
      rw [this, if_neg hh]; rfl
  · have := h1 h
    simp only [cond_true]
    rw [if_pos (by omega)]

section
variable {P : Program} {L : Lay} {base nt : Nat} {s : St} {o : Oper}

theorem below_of {w w' : World} {b : Nat} (hb : base ≤ b) (h5 : ∀ k, k ≠ b → w'.heap[k]? = w.heap[k]?) (h6 : w'.heap.size = w.heap.size) (h7 : w'.os = w.os) (h8 : w'.tape = w.tape) (h9 : w'.output = w.output) : Below base w w' :=
  ⟨h7, h8, h9, by omega, fun k hk => h5 k (by omega)⟩

def pstore (L : Lay) (h : List Ob) (t : TypeId) (ad x : D) : Option (Prop × List Ob) :=
  match ty L t, ad, cellsD x with
  | some y, .ptr l g i j, some cs => match h[l]? with
    | some o => some (g = o.gen ∧ i < o.n ∧ j + cs.length ≤ o.sz ∧ cs.length = y.size ∧ (o.kd.isOne = true → o.n = 1) ∧ o.kd.ro = false, h.set l (setRow o i (splice (o.row i) j cs)))
    | none => none
  | _, _, _ => none
theorem store_ok0 (hL : LayOk P L) {t : TypeId} {ad x : Operand} (ho : o.op = .store t ad x) {p : Prop} {h' : List Ob} (h : pstore L s.h t (evalO s.fr ad) (evalO s.fr x) = some (p, h')) (hp : p) : EffOk0 P base nt o s h' .undef := by
  intro Z pl a w r hbs
  have hx := r.eval x
  have had := r.eval ad
  unfold pstore at h
  split at h
  · rename_i y l g i j cs hy' hptr hcs
    rw [hptr] at had
    split at h
    · rename_i ob hob
      simp only [Option.some.injEq, Prod.mk.injEq] at h
      obtain ⟨rfl, rfl⟩ := h
      obtain ⟨hg, hi, hj, hsz, h1, hro⟩ := hp
      have hy := hL _ _ hy'
      obtain ⟨o', p', adr, hv, ho', hp', hk', hg', hat⟩ := inv_ptr had
      rw [hob] at ho'; cases ho'
      obtain ⟨b, q, rfl, rfl⟩ := hat hg
      obtain ⟨hbase, xx⟩ := r.o.at_ l ob b q hob hp'
      obtain ⟨c, el, hb, hcsz, hrl, hrow⟩ := xx.cells hk'
      obtain ⟨hcl, hcr⟩ := cellsD_ok hx hcs
      have hrl' : j + cs.length ≤ (ob.row i).length := by rw [hrl i hi]; exact hj
      have hle : i * ob.sz + ob.sz ≤ ob.n * ob.sz := by
        have := Nat.mul_le_mul_right ob.sz (show i + 1 ≤ ob.n from hi); rw [Nat.add_mul] at this; omega
      obtain ⟨w', c', g1, g2, g3, g4, g5, g6, g7, g8, g9⟩ := run_storeCells (P := P) b el (a.eval x).cells.toList 0 (q + (i * ob.sz + j)) w c hb (by simp [hcl]; omega) (fun k hk => (hcr k (by simpa [hcl] using hk)).2)
      have T : Tr s.h pl w (s.h.set l (setRow ob i (splice (ob.row i) j cs))) pl w' := Tr.upd r.o hob hp' rfl rfl rfl (fun k hk _ => g5 k hk) (fun c1 el1 e1 => by rw [hb] at e1; cases e1; exact ⟨c', g2, g3⟩)
      refine ⟨Go.undef, w', pl, .inr ⟨?_, rfl⟩, T, ?_, .cl _ _ (.undef _), below_of (hbase hro) g5 g6 g7 g8 g9⟩
      · simp [execOp, ho, hv, Instr.storeAt, Instr.sureAddr, storeVar, hy.sizeOf, hcl, hsz, g1]
      · refine RelO.upd (hro := rfl) r.o hob hp' hk' hk' rfl rfl (fun k hk _ => g5 k hk) hb g2 g3 (by rw [g3]; exact hcsz) (fun k hk => ?_) (fun k m hk hm => ?_)
        · rw [setRow_row h1 hi hk]
          split
          · rw [splice_length hrl', hrl i hi]; rfl
          · exact hrl k hk
        · rw [setRow_row h1 hi hk]
          have hk' : k < ob.n := hk
          have hm' : m < ob.sz := hm
          show ∃ v, c'[q + (k * ob.sz + m)]? = some v ∧ _
          rw [g4]
          simp only [Nat.add_zero, Array.length_toList, hcl]
          by_cases hki : k = i
          · subst hki
            rw [if_pos rfl, nth_splice hrl']
            by_cases hmj : j ≤ m ∧ m < j + cs.length
            · rw [if_pos hmj, if_pos (by omega)]
              refine ⟨nthV (a.eval x).cells.toList (m - j), ?_, ((hcr (m - j) (by omega)).1).tr T⟩
              rw [show q + (k * ob.sz + m) - (q + (k * ob.sz + j)) = m - j by omega]
              simp only [nthV, List.getD_eq_getElem?_getD]
              rw [List.getElem?_eq_getElem (by simp [hcl]; omega)]; rfl
            · rw [if_neg hmj, if_neg (by omega)]
              obtain ⟨v, hv1, hr1⟩ := hrow k m hk' hm'
              exact ⟨v, hv1, hr1.tr T⟩
          · rw [if_neg hki, if_neg]
            · obtain ⟨v, hv1, hr1⟩ := hrow k m hk' hm'
              exact ⟨v, hv1, hr1.tr T⟩
            · intro hcon
              rcases Nat.lt_or_gt_of_ne hki with hlt | hlt
              · have := Nat.mul_le_mul_right ob.sz (show k + 1 ≤ i from hlt); rw [Nat.add_mul] at this; omega
              · have := Nat.mul_le_mul_right ob.sz (show i + 1 ≤ k from hlt); rw [Nat.add_mul] at this; omega
    · cases h
  · cases h

theorem below_alloc {w : World} (h : base ≤ w.heap.size) (ob : Obj) : Below base w (w.alloc ob) := (Below.refl base w).alloc h ob

/-- A new block of one row. -/
theorem new_one {pl : List Pl} {a : Act} {w : World} (r : Rel Z base nt s pl a w) (hbs : base ≤ w.heap.size) (el : TypeId) (v : Value) (cs : List D) (hl : v.cells.size = cs.length) (hr : ∀ i, i < cs.length → RelV Z s.h pl w (nth cs i) (nthV v.cells.toList i)) :
    Tr s.h pl w (s.h ++ [⟨.one, 0, cs.length, 1, fun _ => cs⟩]) (pl ++ [some (w.heap.size, 0)]) (w.alloc (.cells v.cells el)) ∧ RelO Z base (s.h ++ [⟨.one, 0, cs.length, 1, fun _ => cs⟩]) (pl ++ [some (w.heap.size, 0)]) (w.alloc (.cells v.cells el)) ∧
      RelV Z (s.h ++ [⟨.one, 0, cs.length, 1, fun _ => cs⟩]) (pl ++ [some (w.heap.size, 0)]) (w.alloc (.cells v.cells el)) (.ptr s.h.length 0 0 0) (.pointer (some ⟨w.heap.size, 0, none⟩)) := by
  have e : ∀ b, b < w.heap.size → (w.alloc (.cells v.cells el)).heap[b]? = w.heap[b]? := fun b hb => heap_push_old w _ b hb
  have hnew : (w.alloc (.cells v.cells el)).heap[w.heap.size]? = some (.cells v.cells el (0, 0)) := heap_alloc_new w _
  have T : Tr s.h pl w (s.h ++ [⟨.one, 0, cs.length, 1, fun _ => cs⟩]) (pl ++ [some (w.heap.size, 0)]) (w.alloc (.cells v.cells el)) := Tr.push r.o e _ _ (by intro b q h; simp at h; omega)
  refine ⟨T, ?_, ?_⟩
  · refine RelO.push r.o e _ rfl (Nat.le_refl _) hbs hnew (by simp [hl]) (fun _ _ => rfl) (fun i j hi hj => ?_)
    have hi0 : i = 0 := by simp at hi; omega
    subst hi0
    refine ⟨nthV v.cells.toList j, ?_, (hr j hj).tr T⟩
    simp only [Nat.zero_mul, Nat.zero_add, nthV, List.getD_eq_getElem?_getD]
    have : j < v.cells.size := by rw [hl]; exact hj
    rw [Array.getElem?_toList, Array.getElem?_eq_getElem this]; rfl
  · have hpl : pl.length = s.h.length := r.o.len
    exact .ptr _ _ _ _ ⟨.one, 0, cs.length, 1, fun _ => cs⟩ (some (w.heap.size, 0)) _ (by simp) (by rw [← hpl]; simp) rfl (Nat.le_refl _) (fun _ => ⟨_, _, rfl, by simp⟩)

theorem store_ok (hL : LayOk P L) {t : TypeId} {ad x : Operand} (ho : o.op = .store t ad x) {p : Prop} {h' : List Ob} (h : pstore L s.h t (evalO s.fr ad) (evalO s.fr x) = some (p, h')) (hp : p) : EffOk P base nt o s h' .undef :=
  (store_ok0 hL ho h hp).up (by simp [calm, ho])
theorem box_ok {t : TypeId} {x : Operand} (ho : o.op = .box t x) {cs : List D} (hx : cellsD (evalO s.fr x) = some cs) : EffOk P base nt o s (s.h ++ [⟨.one, 0, cs.length, 1, fun _ => cs⟩]) (.ptr s.h.length 0 0 0) := by
  intro Z pl a w r hbs
  obtain ⟨hcl, hcr⟩ := cellsD_ok (r.eval x) hx
  obtain ⟨h1, h2, h3⟩ := new_one r hbs t (a.eval x) cs hcl (fun i hi => (hcr i hi).1)
  refine ⟨_, _, _, .inl ?_, h1, h2, h3, below_alloc hbs _, fun _ b hb => heap_push_old _ _ b hb⟩
  simp [execOp, ho, Instr.box, newVar, newRow]

theorem alloc_ok (hL : LayOk P L) {t : TypeId} (ho : o.op = .alloc t) {y : Ty} (hy : ty L t = some y) : EffOk P base nt o s (s.h ++ [⟨.one, 0, (y.zero.map ofCell).length, 1, fun _ => y.zero.map ofCell⟩]) (.ptr s.h.length 0 0 0) := by
  intro Z pl a w r hbs
  obtain ⟨z, hz, hrun⟩ := (hL _ _ hy).zeroValue
  obtain ⟨h1, h2, h3⟩ := new_one r hbs t z (y.zero.map ofCell) (by rw [← hz]; simp) (fun i hi => by
    rw [← hz] at hi ⊢
    have hi' : i < z.cells.size := by simpa using hi
    refine .cl _ _ ?_
    simp only [nth, nthV, List.getD_eq_getElem?_getD, List.getElem?_map, Array.getElem?_toList, Array.getElem?_eq_getElem hi', Option.map_some, Option.getD_some]
    exact cl_ofCell _ _ _)
  refine ⟨_, _, _, .inl ?_, h1, h2, h3, below_alloc hbs _, fun _ b hb => heap_push_old _ _ b hb⟩
  simp [execOp, ho, Instr.alloc, newVar, newRow, hrun]
end
end Go.Fg
