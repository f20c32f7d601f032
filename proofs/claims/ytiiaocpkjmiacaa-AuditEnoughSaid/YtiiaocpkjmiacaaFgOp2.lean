/- More operations that only reckon and read, over abstract values: moves, picks, loads, addresses, fields, indexes, lengths, cuts of slices. Conditions: each result comes with the proposition under which it holds. -/
import Derived.Test.YtiiaocpkjmiacaaFgOp
namespace Go.Fg
set_option linter.unusedSimpArgs false
set_option linter.unusedVariables false
open Go.RowKit (Below)
variable {Z : Nat → Prop}

section
variable {P : Program} {L : Lay} {base nt : Nat} {s : St} {o : Oper}

theorem move_ok {x : Operand} (ho : o.op = .move x ∨ o.op = .assign x) : PureOk P base nt o s (evalO s.fr x) := by
  intro Z pl a w r
  refine ⟨_, r.eval x, fun w' _ => ?_⟩
  rcases ho with ho | ho <;> simp [execOp, ho]

theorem pick_ok {c x y : Operand} (ho : o.op = .pick c x y) {b : Bool} (hc : evalO s.fr c = .raw (.bool b)) : PureOk P base nt o s (bif b then evalO s.fr x else evalO s.fr y) := by
  intro Z pl a w r
  have h := r.eval c
  rw [hc] at h
  have e := inv_raw h
  cases b
  · exact ⟨_, r.eval y, fun w' _ => by simp [execOp, ho, e, asBool]⟩
  · exact ⟨_, r.eval x, fun w' _ => by simp [execOp, ho, e, asBool]⟩

/-- A variable of a type out of cells. -/
def mk (y : Ty) (cells : List D) : D := bif y.k.agg then .agg (cells.take y.size) else nth cells 0

/-- A type's zero value. -/
def zeroD (y : Ty) : D := bif y.k.agg then .agg (y.zero.map ofCell) else nth (y.zero.map ofCell) 0
theorem zeroD_ok {P : Program} {t : TypeId} {y : Ty} (h : TyOk P t y) {N : Nat → Prop} (w : World) : ∃ z, Cl N w (zeroD y) z ∧ ∀ w', (Go.zeroValue t).run P w' = .ok z w' := by
  have h1 := h.info
  have h2 := h.zag
  cases hi : P.info? t with
  | none => rw [hi] at h1; cases h1
  | some i =>
    rw [hi] at h1 h2
    simp at h1
    obtain ⟨_, _, z, hz, hz'⟩ := h1
    simp [hz] at h2
    refine ⟨z, ?_, fun w => by simp [Go.zeroValue, Go.typeInfo, hi, hz]⟩
    unfold zeroD
    rw [← h2, ← hz']
    cases z with
    | agg cs =>
      simp only [vAgg, cond_true]
      refine .agg _ cs.toList (by simp [Value.cells]) fun i hi => ?_
      have hi' : i < cs.size := by simpa [Value.cells] using hi
      have e1 : nth ((Value.agg cs).cells.toList.map ofCell) i = ofCell (nthV cs.toList i) := by
        simp [nth, nthV, Value.cells, List.getD_eq_getElem?_getD, hi']
      rw [e1]; exact cl_ofCell N w _
    | _ => simp only [vAgg, cond_false, Value.cells, nth, List.map_cons, List.map_nil, List.getD_cons_zero]; exact cl_ofCell N w _

theorem nth_take {cs : List D} {k i : Nat} (h : i < k) : nth (cs.take k) i = nth cs i := by
  simp only [nth, List.getD_eq_getElem?_getD, List.getElem?_take, h, if_true]
theorem nth_drop {cs : List D} {k i : Nat} : nth (cs.drop k) i = nth cs (k + i) := by
  simp only [nth, List.getD_eq_getElem?_getD, List.getElem?_drop]

/-- The load of a variable whose cells are known. -/
theorem run_loadVar {t : TypeId} {y : Ty} (ht : TyOk P t y) (w : World) (ad : Addr) (cells : List D) {h : List Ob} {pl : List Pl} (w0 : World) (hsz : y.size ≤ cells.length) (h1 : y.k.agg = false → y.size = 1)
    (hc : ∀ j, j < y.size → ∃ v, w.cell? (ad.add j) = some v ∧ RelV Z h pl w0 (nth cells j) v) :
    ∃ v, RelV Z h pl w0 (mk y cells) v ∧ ∀ w', (∀ j v, j < y.size → w.cell? (ad.add j) = some v → w'.cell? (ad.add j) = some v) → (loadVar t ad).run P w' = .ok v w' := by
  unfold mk
  cases hk : y.k.agg
  · have hs := h1 hk
    obtain ⟨v, hv, hr⟩ := hc 0 (by omega)
    refine ⟨v, hr, fun w' hw' => ?_⟩
    have := hw' 0 v (by omega) hv
    simp only [Addr.add_zero'] at this
    simp [loadVar, ht.isAgg, hk, this]
  · let f : Nat → Value := fun j => (w.cell? (ad.add j)).getD Go.undef
    refine ⟨.agg ((List.range y.size).map f).toArray, .agg _ _ (by simp; omega) (fun i hi => ?_), fun w' hw' => ?_⟩
    · have hi' : i < y.size := by simp at hi; omega
      obtain ⟨v, hv, hr⟩ := hc i hi'
      rw [nth_take hi']
      have : nthV ((List.range y.size).map f) i = v := by
        simp [nthV, List.getD_eq_getElem?_getD, hi', f, hv]
      rw [this]; exact hr
    · have hl : (loadCells ad y.size).run P w' = .ok ((List.range y.size).map f).toArray w' := run_loadCells w' ad y.size f (fun j hj => by
        obtain ⟨v, hv, _⟩ := hc j hj
        rw [hw' j v hj hv]; simp [f, hv])
      simp [loadVar, ht.isAgg, hk, ht.sizeOf, hl]

def pload (L : Lay) (h : List Ob) (t : TypeId) (d : D) : Ev :=
  match ty L t with
  | none => none
  | some y =>
    match d with
    | .ptr l g i j => match h[l]? with
      | some o => some (g = o.gen ∧ i < o.n ∧ j + y.size ≤ o.sz ∧ (y.k.agg = false → y.size = 1), mk y ((o.row i).drop j))
      | none => none
    | .ip cells => some (y.size ≤ cells.length ∧ (y.k.agg = false → y.size = 1), mk y cells)
    | _ => none

theorem add_mk (b o n : Nat) : (⟨b, o, none⟩ : Addr).add n = ⟨b, o + n, none⟩ := Addr.add_lit b o n

theorem load_ok (hL : LayOk P L) {t : TypeId} {x : Operand} (ho : o.op = .load t x) {p : Prop} {d : D} (h : pload L s.h t (evalO s.fr x) = some (p, d)) (hp : p) : PureOk P base nt o s d := by
  intro Z pl a w r
  have hx := r.eval x
  unfold pload at h
  cases ht : ty L t with
  | none => rw [ht] at h; cases h
  | some y =>
    have hy := hL t y ht
    rw [ht] at h
    dsimp only at h
    generalize evalO s.fr x = dx at *
    split at h
    · rename_i l g i j
      split at h
      · rename_i ob hob
        simp only [Option.some.injEq, Prod.mk.injEq] at h
        obtain ⟨rfl, rfl⟩ := h
        obtain ⟨hg, hi, hj, h1⟩ := hp
        obtain ⟨o', p', ad, hv, ho', hp', hk', hg', hat⟩ := inv_ptr hx
        rw [hob] at ho'; cases ho'
        obtain ⟨b, q, rfl, rfl⟩ := hat hg
        obtain ⟨hbase, xx⟩ := r.o.at_ l ob b q hob hp'
        obtain ⟨c, el, hb, hsz, hrl, hrow⟩ := xx.cells hk'
        obtain ⟨v, hr, hrun⟩ := run_loadVar hy w ⟨b, q + (i * ob.sz + j), none⟩ ((ob.row i).drop j) (h := s.h) (pl := pl) w (by simp [hrl i hi]; omega) h1 (fun k hk => by
          obtain ⟨v, hv, hr⟩ := hrow i (j + k) hi (by omega)
          refine ⟨v, ?_, by rw [nth_drop]; exact hr⟩
          rw [add_mk, cell_of_row w b _ c el (0, 0) hb, ← hv]
          congr 1; omega)
        refine ⟨v, hr, fun w' e => ?_⟩
        have := hrun w' (fun k v hk hv => cell_ext e hv)
        simp [execOp, ho, hv, Instr.loadAt, Instr.sureAddr, this]
      · cases h
    · rename_i cells
      simp only [Option.some.injEq, Prod.mk.injEq] at h
      obtain ⟨rfl, rfl⟩ := h
      obtain ⟨hsz, h1⟩ := hp
      obtain ⟨b, q, vs, hv, hc⟩ := inv_ip hx
      obtain ⟨v, hr, hrun⟩ := run_loadVar hy w ⟨b, q, none⟩ cells (h := s.h) (pl := pl) w hsz h1 (fun k hk => by
        obtain ⟨⟨_, h2⟩, h3⟩ := hc k (by omega)
        exact ⟨vs k, by rw [add_mk]; exact h2, .cl _ _ h3⟩)
      refine ⟨v, hr, fun w' e => ?_⟩
      have := hrun w' (fun k v hk hv => cell_ext e hv)
      simp [execOp, ho, hv, Instr.loadAt, Instr.sureAddr, this]
    · cases h

/-- The place of a field. -/
def pfield (L : Lay) (t : TypeId) (f : Nat) : Option (Nat × Ty) :=
  match ty L t with
  | some ⟨.struct fs, _, _, _⟩ => match fs[f]? with
    | some (off, u) => match ty L u with
      | some y => some (off, y)
      | none => none
    | none => none
  | _ => none
theorem pfield_ok (hL : LayOk P L) {t : TypeId} {f off : Nat} {y : Ty} (h : pfield L t f = some (off, y)) : ∃ g fd, P.underlying t = some (.struct g) ∧ g[f]? = some fd ∧ fd.offset = off ∧ TyOk P fd.type y := by
  unfold pfield at h
  split at h
  · rename_i fs _ _ _ he
    split at h
    · rename_i off' u hf
      split at h
      · rename_i y' hu
        simp only [Option.some.injEq, Prod.mk.injEq] at h
        obtain ⟨rfl, rfl⟩ := h
        obtain ⟨g, hg, hm⟩ := under_struct (hL _ _ he) rfl
        rw [← hm] at hf
        simp only [List.getElem?_map, Option.map_eq_some_iff, Prod.mk.injEq] at hf
        obtain ⟨fd, h1, h2, h3⟩ := hf
        exact ⟨g, fd, hg, by simpa using h1, h2, by rw [h3]; exact hL _ _ hu⟩
      · cases h
    · cases h
  · cases h

def pfieldAddr (L : Lay) (t : TypeId) (f : Nat) (d : D) : Ev :=
  match pfield L t f with
  | none => none
  | some (off, y) => match d with
    | .ptr l g i j => some (y.size ≠ 0, .ptr l g i (j + off))
    | .ip cells => some (y.size ≠ 0, .ip (cells.drop off))
    | _ => none
theorem fieldAddr_ok (hL : LayOk P L) {t : TypeId} {f : Nat} {x : Operand} (ho : o.op = .fieldAddr t x f) {p : Prop} {d : D} (h : pfieldAddr L t f (evalO s.fr x) = some (p, d)) (hp : p) : PureOk P base nt o s d := by
  intro Z pl a w r
  have hx := r.eval x
  unfold pfieldAddr at h
  split at h
  · cases h
  · rename_i off y hf
    obtain ⟨g, fd, hg, hfd, rfl, hy⟩ := pfield_ok hL hf
    have fin : ∀ (b q : Nat), y.size ≠ 0 → a.eval x = .pointer (some ⟨b, q, none⟩) → ∀ w' : World, (execOp a.eval o).run P w' = .ok (.value (.pointer (some ⟨b, q + fd.offset, none⟩))) w' := by
      intro b q hy0 he w'
      simp [execOp, ho, he, Instr.fieldAt, run_underlying hg, hfd, Instr.sureAddr, fieldPlace, hy.sizeOf, hy0, add_mk]
    generalize evalO s.fr x = dx at *
    split at h
    · rename_i l g i j
      simp only [Option.some.injEq, Prod.mk.injEq] at h
      obtain ⟨rfl, rfl⟩ := h
      obtain ⟨ob, pp, ad, hv, hob, hpp, hk', hgg, hat⟩ := inv_ptr hx
      by_cases hl : g = ob.gen
      · obtain ⟨b, q, rfl, rfl⟩ := hat hl
        exact ⟨_, .ptr _ _ _ _ ob _ _ hob hpp hk' hgg (fun _ => ⟨b, q, rfl, by simp only [Addr.mk.injEq, and_true, true_and]; omega⟩), fun w' _ => fin _ _ hp hv w'⟩
      · obtain ⟨b, q, sp⟩ := ad
        refine ⟨.pointer (some ((⟨b, q, sp⟩ : Addr).add fd.offset)), .ptr _ _ _ _ ob _ _ hob hpp hk' hgg (fun h => absurd h hl), fun w' _ => ?_⟩
        simp [execOp, ho, hv, Instr.fieldAt, run_underlying hg, hfd, Instr.sureAddr, fieldPlace, hy.sizeOf, hp]
    · rename_i cells
      simp only [Option.some.injEq, Prod.mk.injEq] at h
      obtain ⟨rfl, rfl⟩ := h
      obtain ⟨b, q, vs, hv, hc⟩ := inv_ip hx
      refine ⟨_, .cl _ _ (.ip _ b (q + fd.offset) (fun j => vs (fd.offset + j)) (fun j hj => ?_) (fun j hj => ?_)), fun w' _ => fin _ _ hp hv w'⟩
      · obtain ⟨⟨h1, h2⟩, h3⟩ := hc (fd.offset + j) (by simp at hj; omega)
        exact ⟨h1, by rw [Nat.add_assoc]; exact h2⟩
      · obtain ⟨⟨h1, h2⟩, h3⟩ := hc (fd.offset + j) (by simp at hj; omega)
        rw [nth_drop]; exact h3
    · cases h

/-- A part of an aggregate. -/
theorem run_part {t : TypeId} {y : Ty} (hy : TyOk P t y) (cs : List D) (vs : List Value) {h : List Ob} {pl : List Pl} {w0 : World} (hl : vs.length = cs.length) (hr : ∀ i, i < cs.length → RelV Z h pl w0 (nth cs i) (nthV vs i)) (off : Nat)
    (hsz : off + y.size ≤ cs.length) (h1 : y.k.agg = false → y.size = 1) : ∃ v, RelV Z h pl w0 (mk y (cs.drop off)) v ∧ ∀ w', (part t vs.toArray off).run P w' = .ok v w' := by
  unfold mk
  cases hk : y.k.agg
  · have hs := h1 hk
    refine ⟨nthV vs off, by simp only [cond_false]; rw [nth_drop]; exact hr off (by omega), fun w' => ?_⟩
    have hlt : off < vs.length := by omega
    simp [part, hy.isAgg, hk, nthV, List.getD_eq_getElem?_getD, hlt]
  · refine ⟨.agg ((vs.drop off).take y.size).toArray, .agg _ _ (by simp; omega) (fun i hi => ?_), fun w' => ?_⟩
    · have hi' : i < y.size := by simp at hi; omega
      rw [nth_take hi', nth_drop]
      have : nthV ((vs.drop off).take y.size) i = nthV vs (off + i) := by
        simp [nthV, List.getD_eq_getElem?_getD, hi']
      rw [this]; exact hr _ (by omega)
    · simp [part, hy.isAgg, hk, hy.sizeOf]

def pfieldV (L : Lay) (t : TypeId) (f : Nat) (d : D) : Ev :=
  match pfield L t f with
  | none => none
  | some (off, y) => match d with
    | .agg cs => some (off + y.size ≤ cs.length ∧ (y.k.agg = false → y.size = 1), mk y (cs.drop off))
    | _ => none
theorem fieldV_ok (hL : LayOk P L) {t : TypeId} {f : Nat} {x : Operand} (ho : o.op = .field t x f) {p : Prop} {d : D} (h : pfieldV L t f (evalO s.fr x) = some (p, d)) (hp : p) : PureOk P base nt o s d := by
  intro Z pl a w r
  have hx := r.eval x
  unfold pfieldV at h
  split at h
  · cases h
  · rename_i off y hf
    obtain ⟨g, fd, hg, hfd, rfl, hy⟩ := pfield_ok hL hf
    generalize evalO s.fr x = dx at *
    split at h
    · rename_i cs
      simp only [Option.some.injEq, Prod.mk.injEq] at h
      obtain ⟨rfl, rfl⟩ := h
      obtain ⟨vs, hv, hl, hr⟩ := inv_agg hx
      obtain ⟨v, hrv, hrun⟩ := run_part hy cs vs hl hr fd.offset hp.1 hp.2
      refine ⟨v, hrv, fun w' _ => ?_⟩
      simp [execOp, ho, hv, Instr.field, run_underlying hg, hfd, asAgg, hrun]
    · cases h

/-- The element that an index means. -/
def pelem (L : Lay) (t : TypeId) : Option (Nat × Bool × Nat) :=
  match ty L t with
  | some ⟨.slice e, _, _, _⟩ => match ty L e with
    | some y => some (y.size, true, 0)
    | none => none
  | some ⟨.array n e, _, _, _⟩ => match ty L e with
    | some y => some (y.size, false, n)
    | none => none
  | _ => none
theorem pelem_slice (hL : LayOk P L) {t : TypeId} {sz n : Nat} (h : pelem L t = some (sz, true, n)) : ∃ e y, P.underlying t = some (.slice e) ∧ TyOk P e y ∧ y.size = sz := by
  unfold pelem at h
  split at h
  · rename_i e _ _ _ he
    split at h
    · rename_i y hy
      simp only [Option.some.injEq, Prod.mk.injEq] at h
      exact ⟨e, y, under_slice (hL _ _ he) rfl, hL _ _ hy, h.1⟩
    · cases h
  · split at h
    · simp at h
    · cases h
  · cases h
theorem pelem_array (hL : LayOk P L) {t : TypeId} {sz n : Nat} (h : pelem L t = some (sz, false, n)) : ∃ e y, P.underlying t = some (.array n e) ∧ TyOk P e y ∧ y.size = sz := by
  unfold pelem at h
  split at h
  · split at h
    · simp at h
    · cases h
  · rename_i e _ _ _ he
    split at h
    · rename_i y hy
      simp only [Option.some.injEq, Prod.mk.injEq] at h
      obtain ⟨rfl, _, rfl⟩ := h
      exact ⟨e, y, under_array (hL _ _ he) rfl, hL _ _ hy, rfl⟩
    · cases h
  · cases h

def pindexAddr (L : Lay) (h : List Ob) (t : TypeId) (d ix : D) : Ev :=
  match ix with
  | .raw (.int _ i) => match pelem L t with
    | some (sz, true, _) => match d with
      | .ref l g off len => match h[l]? with
        | some o => some (g = o.gen ∧ o.sz = sz ∧ 0 ≤ i ∧ i < len, .ptr l g (off + i.toNat) 0)
        | none => none
      | .imm z n row => some (z = sz ∧ 0 ≤ i ∧ i < n, .ip (row i.toNat))
      | _ => none
    | some (sz, false, n) => match d with
      | .ptr l g a j => some (0 ≤ i ∧ i < n, .ptr l g a (j + i.toNat * sz))
      | .ip cells => some (0 ≤ i ∧ i < n, .ip (cells.drop (i.toNat * sz)))
      | _ => none
    | none => none
  | _ => none
theorem indexAddr_ok (hL : LayOk P L) {t : TypeId} {x ix : Operand} (ho : o.op = .indexAddr t x ix) {p : Prop} {d : D} (h : pindexAddr L s.h t (evalO s.fr x) (evalO s.fr ix) = some (p, d)) (hp : p) : PureOk P base nt o s d := by
  intro Z pl a w r
  have hx := r.eval x
  have hix := r.eval ix
  unfold pindexAddr at h
  generalize evalO s.fr x = dx at *
  generalize evalO s.fr ix = di at *
  split at h
  · rename_i k i
    have hi := inv_raw hix
    split at h
    · rename_i sz _ he
      obtain ⟨e, y, hu, hy, rfl⟩ := pelem_slice hL he
      split at h
      · rename_i l g off len
        split at h
        · rename_i ob hob
          simp only [Option.some.injEq, Prod.mk.injEq] at h
          obtain ⟨rfl, rfl⟩ := h
          obtain ⟨hg, hsz, h0, h1⟩ := hp
          obtain ⟨o', p', ad, cap, hv, ho', hp', hk', hg', hat⟩ := inv_ref hx
          rw [hob] at ho'; cases ho'
          rcases hat hg with ⟨h2, _⟩ | ⟨b, q, c, el, hpp, had, hb, hc, hlc⟩
          · omega
          · refine ⟨.pointer (some ⟨b, q + ((off + i.toNat) * ob.sz + 0), none⟩), .ptr _ _ _ _ ob _ _ hob hp' hk' hg' (fun _ => ⟨b, q, hpp, rfl⟩), fun w' _ => ?_⟩
            simp [execOp, ho, hv, hi, had, Instr.indexAt, asIntOf, run_underlying hu, h0, h1, hy.sizeOf, add_mk, hsz]
            rw [Nat.add_mul]; omega
        · cases h
      · rename_i z n row
        simp only [Option.some.injEq, Prod.mk.injEq] at h
        obtain ⟨rfl, rfl⟩ := h
        obtain ⟨rfl, h0, h1⟩ := hp
        obtain ⟨ad, cap, b, q, vs, hv, had, hlc, hs, hc⟩ := inv_imm hx
        have hlt : i.toNat < n := by omega
        refine ⟨.pointer (some ⟨b, q + i.toNat * y.size, none⟩), .cl _ _ (.ip _ b _ (fun j => vs i.toNat j) (fun j hj => ?_) (fun j hj => ?_)), fun w' _ => ?_⟩
        · rw [hs _ hlt] at hj
          obtain ⟨⟨h2, h3⟩, h4⟩ := hc i.toNat j hlt hj
          exact ⟨h2, by rw [Nat.add_assoc]; exact h3⟩
        · rw [hs _ hlt] at hj
          exact (hc i.toNat j hlt hj).2
        · simp [execOp, ho, hv, hi, had (by omega), Instr.indexAt, asIntOf, run_underlying hu, h0, h1, hy.sizeOf, add_mk]
      · cases h
    · rename_i sz n he
      obtain ⟨e, y, hu, hy, rfl⟩ := pelem_array hL he
      split at h
      · rename_i l g i0 j
        simp only [Option.some.injEq, Prod.mk.injEq] at h
        obtain ⟨rfl, rfl⟩ := h
        obtain ⟨h0, h1⟩ := hp
        obtain ⟨ob, pp, ad, hv, hob, hpp, hk', hgg, hat⟩ := inv_ptr hx
        refine ⟨.pointer (some (ad.add (i.toNat * y.size))), .ptr _ _ _ _ ob _ _ hob hpp hk' hgg (fun hg => ?_), fun w' _ => ?_⟩
        · obtain ⟨b, q, rfl, rfl⟩ := hat hg
          exact ⟨b, q, rfl, by rw [add_mk]; simp only [Addr.mk.injEq, and_true, true_and]; omega⟩
        · simp [execOp, ho, hv, hi, Instr.indexAt, asIntOf, run_underlying hu, h0, h1, hy.sizeOf, Instr.sureAddr]
      · rename_i cells
        simp only [Option.some.injEq, Prod.mk.injEq] at h
        obtain ⟨rfl, rfl⟩ := h
        obtain ⟨h0, h1⟩ := hp
        obtain ⟨b, q, vs, hv, hc⟩ := inv_ip hx
        refine ⟨_, .cl _ _ (.ip _ b (q + i.toNat * y.size) (fun j => vs (i.toNat * y.size + j)) (fun j hj => ?_) (fun j hj => ?_)), fun w' _ => ?_⟩
        · obtain ⟨⟨h1, h2⟩, h3⟩ := hc (i.toNat * y.size + j) (by simp at hj; omega)
          exact ⟨h1, by rw [Nat.add_assoc]; exact h2⟩
        · obtain ⟨⟨h1, h2⟩, h3⟩ := hc (i.toNat * y.size + j) (by simp at hj; omega)
          rw [nth_drop]; exact h3
        · simp [execOp, ho, hv, hi, Instr.indexAt, asIntOf, run_underlying hu, h0, h1, hy.sizeOf, Instr.sureAddr, add_mk]
      · cases h
    · cases h
  · cases h

/-- An index into an array value or a string. -/
def pindex (L : Lay) (t : TypeId) (d ix : D) : Ev :=
  match ix with
  | .raw (.int _ i) => match d with
    | .agg cs => match ty L t with
      | some ⟨.array n e, _, _, _⟩ => match ty L e with
        | some y => some (0 ≤ i ∧ i < n ∧ i.toNat * y.size + y.size ≤ cs.length ∧ (y.k.agg = false → y.size = 1), mk y (cs.drop (i.toNat * y.size)))
        | none => none
      | _ => none
    | .raw (.string b) => match ty L t with
      | some ⟨.str, _, _, _⟩ => some (0 ≤ i ∧ i < b.size, .raw (.int .u8 (b.data.getD i.toNat 0).toNat))
      | _ => none
    | _ => none
  | _ => none
theorem index_ok (hL : LayOk P L) {t : TypeId} {x ix : Operand} (ho : o.op = .index t x ix) {p : Prop} {d : D} (h : pindex L t (evalO s.fr x) (evalO s.fr ix) = some (p, d)) (hp : p) : PureOk P base nt o s d := by
  intro Z pl a w r
  have hx := r.eval x
  have hix := r.eval ix
  unfold pindex at h
  generalize evalO s.fr x = dx at *
  generalize evalO s.fr ix = di at *
  split at h
  · rename_i k i
    have hi := inv_raw hix
    split at h
    · rename_i cs
      split at h
      · rename_i n e _ _ _ he
        split at h
        · rename_i y hy'
          have hy := hL _ _ hy'
          simp only [Option.some.injEq, Prod.mk.injEq] at h
          obtain ⟨rfl, rfl⟩ := h
          obtain ⟨h0, h1, h2, h3⟩ := hp
          obtain ⟨vs, hv, hl, hr⟩ := inv_agg hx
          obtain ⟨v, hrv, hrun⟩ := run_part hy cs vs hl hr _ h2 h3
          refine ⟨v, hrv, fun w' _ => ?_⟩
          simp [execOp, ho, hv, hi, Instr.index, asIntOf, run_underlying (under_array (hL _ _ he) rfl), h0, h1, hy.sizeOf, hrun]
        · cases h
      · cases h
    · rename_i b
      split at h
      · rename_i he
        simp only [Option.some.injEq, Prod.mk.injEq] at h
        obtain ⟨rfl, rfl⟩ := h
        obtain ⟨h0, h1⟩ := hp
        have hv := inv_raw hx
        refine ⟨_, .cl _ _ (.raw _), fun w' _ => ?_⟩
        have hlt : i.toNat < b.size := by omega
        have : b[i.toNat]? = some (b.data.getD i.toNat 0) := by
          rw [getElem?_pos b i.toNat hlt]
          show some (b.data[i.toNat]) = _
          rw [Array.getD_eq_getD_getElem?, Array.getElem?_eq_getElem (by exact hlt)]
          rfl
        simp [execOp, ho, hv, hi, Instr.index, asIntOf, run_underlying (under_str (hL _ _ he) rfl), h0, this]
      · cases h
    · cases h
  · cases h

theorem extract_ok {x : Operand} {i : Nat} (ho : o.op = .extract x i) {cs : List D} (hx : evalO s.fr x = .tup cs) (hi : i < cs.length) : PureOk P base nt o s (nth cs i) := by
  intro Z pl a w r
  have h := r.eval x
  rw [hx] at h
  obtain ⟨vs, hv, hl, hr⟩ := inv_tup h
  refine ⟨_, hr i hi, fun w' _ => ?_⟩
  have : i < vs.length := by omega
  simp [execOp, ho, hv, Instr.extract, nthV, List.getD_eq_getElem?_getD, this]

theorem unop_ok {u : UnOp} {t : TypeId} {x : Operand} (ho : o.op = .unOp u t x) {b : Bool} (hu : u = .not) (hx : evalO s.fr x = .raw (.bool b)) : PureOk P base nt o s (.raw (.bool (!b))) := by
  intro Z pl a w r
  have h := r.eval x
  rw [hx] at h
  have hv := inv_raw h
  exact ⟨_, .cl _ _ (.raw _), fun w' _ => by simp [execOp, ho, hv, hu, Op.unary]⟩
theorem neg_ok {u : UnOp} {t : TypeId} {x : Operand} (ho : o.op = .unOp u t x) {k : IntKind} {n : Int} (hu : u = .neg) (hx : evalO s.fr x = .raw (.int k n)) : PureOk P base nt o s (.raw (.int k (k.wrap (0 - n)))) := by
  intro Z pl a w r
  have h := r.eval x
  rw [hx] at h
  have hv := inv_raw h
  exact ⟨_, .cl _ _ (.raw _), fun w' _ => by simp [execOp, ho, hv, hu, Op.unary, Op.intArith]⟩
theorem inv_ok {u : UnOp} {t : TypeId} {x : Operand} (ho : o.op = .unOp u t x) {k : IntKind} {n : Int} (hu : u = .xor) (hx : evalO s.fr x = .raw (.int k n)) : PureOk P base nt o s (.raw (.int k (bits .xor k (if k.signed then -1 else k.max) n))) := by
  intro Z pl a w r
  have h := r.eval x
  rw [hx] at h
  have hv := inv_raw h
  exact ⟨_, .cl _ _ (.raw _), fun w' _ => by simp [execOp, ho, hv, hu, Op.unary, Op.intBits, bits]⟩

/-- No nil pointer, no nil function. -/
def D.there : D → Bool
  | .ptr _ _ _ _ | .ip _ | .clo _ _ _ => true
  | .raw (.func (.func _) _ _) => true
  | _ => false
theorem nilCheck_ok {x : Operand} (ho : o.op = .nilCheck x) {d : D} (hx : evalO s.fr x = d) (hd : d.there = true) : PureOk P base nt o s d := by
  intro Z pl a w r
  have h := r.eval x
  rw [hx] at h
  cases d <;> try (simp only [D.there, Bool.false_eq_true] at hd; done)
  case ptr l g i j =>
    obtain ⟨_, _, ad, hv, _⟩ := inv_ptr h
    exact ⟨_, h, fun w' _ => by simp [execOp, ho, hv]⟩
  case ip cs =>
    obtain ⟨_, _, _, hv, _⟩ := inv_ip h
    exact ⟨_, h, fun w' _ => by simp [execOp, ho, hv]⟩
  case raw v =>
    have hv := inv_raw h
    cases v with
    | func fn first caps =>
      cases fn with
      | func f => exact ⟨_, h, fun w' _ => by simp [execOp, ho, hv]⟩
      | _ => simp only [D.there, Bool.false_eq_true] at hd
    | _ => simp only [D.there, Bool.false_eq_true] at hd
  case clo f nf cs =>
    obtain ⟨vs, hv, _⟩ := inv_clo h
    exact ⟨_, h, fun w' _ => by simp [execOp, ho, hv]⟩

/-- An integer to another kind; a string type to another one. -/
def pconv (L : Lay) (src dst : TypeId) : D → Ev
  | .raw (.int _ n) => match ty L dst, ty L src with
    | some ⟨.int k, _, _, _⟩, some _ => some (True, .raw (.int k (k.wrap n)))
    | _, _ => none
  | .raw (.string b) => match ty L dst, ty L src with
    | some ⟨.str, _, _, _⟩, some ⟨.str, _, _, _⟩ => some (True, .raw (.string b))
    | _, _ => none
  | _ => none
theorem conv_ok (hL : LayOk P L) {src dst : TypeId} {x : Operand} (ho : o.op = .convert src dst x) {p : Prop} {d : D} (h : pconv L src dst (evalO s.fr x) = some (p, d)) : PureOk P base nt o s d := by
  intro Z pl a w r
  have hx := r.eval x
  unfold pconv at h
  generalize evalO s.fr x = dx at *
  split at h
  · split at h
    · rename_i k _ _ _ ys hd hs
      simp only [Option.some.injEq, Prod.mk.injEq] at h
      obtain ⟨rfl, rfl⟩ := h
      have hv := inv_raw hx
      refine ⟨_, .cl _ _ (.raw _), fun w' _ => ?_⟩
      obtain ⟨sd, h1, h2⟩ := (hL _ _ hs).under
      simp [execOp, ho, hv, convert, run_underlying h1, run_underlying (under_int (hL _ _ hd) rfl), Conv.intToInt]
    · cases h
  · split at h
    · rename_i hd hs
      simp only [Option.some.injEq, Prod.mk.injEq] at h
      obtain ⟨rfl, rfl⟩ := h
      have hv := inv_raw hx
      refine ⟨_, .cl _ _ (.raw _), fun w' _ => ?_⟩
      simp [execOp, ho, hv, convert, run_underlying (under_str (hL _ _ hs) rfl), run_underlying (under_str (hL _ _ hd) rfl)]
    · cases h
  · cases h

/-- The length of a slice or a string. -/
def plen (L : Lay) (t : TypeId) : D → Ev
  | .ref _ _ _ n => match ty L t with
    | some ⟨.slice _, _, _, _⟩ => some (True, .raw (.int .i64 n))
    | _ => none
  | .imm _ n _ => match ty L t with
    | some ⟨.slice _, _, _, _⟩ => some (True, .raw (.int .i64 n))
    | _ => none
  | .nil => match ty L t with
    | some ⟨.slice _, _, _, _⟩ => some (True, .raw (.int .i64 0))
    | _ => none
  | .raw (.string b) => match ty L t with
    | some ⟨.str, _, _, _⟩ => some (True, .raw (.int .i64 b.size))
    | _ => none
  | _ => none
theorem run_builtin {P : Program} {o : Oper} {a : Act} {bi : Builtin} {args : Array Operand} {tys : Array TypeId} (ho : o.op = .call ⟨.builtin bi, args, tys⟩) (w : World) :
    (execOp a.eval o).run P w = (builtin bi tys o.type (args.map fun | .const _ => true | _ => false) (args.map a.eval)).run P w := by
  simp [execOp, ho, resolve, invoke]
  rfl
theorem len_ok (hL : LayOk P L) {x : Operand} {t : TypeId} (ho : o.op = .call ⟨.builtin .len, #[x], #[t]⟩) {p : Prop} {d : D} (h : plen L t (evalO s.fr x) = some (p, d)) : PureOk P base nt o s d := by
  intro Z pl a w r
  have hx := r.eval x
  unfold plen at h
  generalize evalO s.fr x = dx at *
  split at h
  · split at h
    · rename_i he
      simp only [Option.some.injEq, Prod.mk.injEq] at h
      obtain ⟨rfl, rfl⟩ := h
      obtain ⟨_, _, ad, cap, hv, _⟩ := inv_ref hx
      refine ⟨_, .cl _ _ (.raw _), fun w' _ => ?_⟩
      rw [run_builtin ho]
      simp [builtin, Builtin.len_, hv, run_underlying (under_slice (hL _ _ he) rfl), goInt]
    · cases h
  · split at h
    · rename_i he
      simp only [Option.some.injEq, Prod.mk.injEq] at h
      obtain ⟨rfl, rfl⟩ := h
      obtain ⟨ad, cap, _, _, _, hv, _⟩ := inv_imm hx
      refine ⟨_, .cl _ _ (.raw _), fun w' _ => ?_⟩
      rw [run_builtin ho]
      simp [builtin, Builtin.len_, hv, run_underlying (under_slice (hL _ _ he) rfl), goInt]
    · cases h
  · split at h
    · rename_i he
      simp only [Option.some.injEq, Prod.mk.injEq] at h
      obtain ⟨rfl, rfl⟩ := h
      obtain ⟨ad, hv⟩ := inv_nil hx
      refine ⟨_, .cl _ _ (.raw _), fun w' _ => ?_⟩
      rw [run_builtin ho]
      simp [builtin, Builtin.len_, hv, run_underlying (under_slice (hL _ _ he) rfl), goInt]
    · cases h
  · split at h
    · rename_i he
      simp only [Option.some.injEq, Prod.mk.injEq] at h
      obtain ⟨rfl, rfl⟩ := h
      have hv := inv_raw hx
      refine ⟨_, .cl _ _ (.raw _), fun w' _ => ?_⟩
      rw [run_builtin ho]
      simp [builtin, Builtin.len_, hv, run_underlying (under_str (hL _ _ he) rfl), goInt]
    · cases h
  · cases h

/-- The greater, the lesser of integers. -/
def imax (x y : Int) : Int := if y > x then y else x
def imin (x y : Int) : Int := if y < x then y else x
theorem imax_def (x y : Int) : imax x y = max x y := by unfold imax; split <;> omega
theorem imin_def (x y : Int) : imin x y = min x y := by unfold imin; split <;> omega
theorem max2_ok {x y : Operand} {tys : Array TypeId} (ho : o.op = .call ⟨.builtin .max, #[x, y], tys⟩) {k k' : IntKind} {m n : Int} (hx : evalO s.fr x = .raw (.int k m)) (hy : evalO s.fr y = .raw (.int k' n)) : PureOk P base nt o s (.raw (.int k (max m n))) := by
  intro Z pl a w r
  have h1 := r.eval x
  have h2 := r.eval y
  rw [hx] at h1; rw [hy] at h2
  refine ⟨_, .cl _ _ (.raw _), fun w' _ => ?_⟩
  rw [run_builtin ho]
  simp [builtin, Builtin.max_, inv_raw h1, inv_raw h2, Builtin.max2]
  split <;> omega
theorem min2_ok {x y : Operand} {tys : Array TypeId} (ho : o.op = .call ⟨.builtin .min, #[x, y], tys⟩) {k k' : IntKind} {m n : Int} (hx : evalO s.fr x = .raw (.int k m)) (hy : evalO s.fr y = .raw (.int k' n)) : PureOk P base nt o s (.raw (.int k (min m n))) := by
  intro Z pl a w r
  have h1 := r.eval x
  have h2 := r.eval y
  rw [hx] at h1; rw [hy] at h2
  refine ⟨_, .cl _ _ (.raw _), fun w' _ => ?_⟩
  rw [run_builtin ho]
  simp [builtin, Builtin.min_, inv_raw h1, inv_raw h2, Builtin.min2]
  split <;> omega

/-- A function value with what it captured. -/
theorem makeFunc_ok {f : FuncId} {first caps : Array Operand} (ho : o.op = .makeFunc (.func f) first caps) : PureOk P base nt o s (.clo f first.size ((first.toList ++ caps.toList).map (evalO s.fr))) := by
  intro Z pl a w r
  refine ⟨.func (.func f) (((first.toList ++ caps.toList).map a.eval).take first.size).toArray (((first.toList ++ caps.toList).map a.eval).drop first.size).toArray, .clo f first.size _ ((first.toList ++ caps.toList).map a.eval) (by simp) (fun i hi => ?_), fun w' _ => ?_⟩
  · have hi' : i < (first.toList ++ caps.toList).length := by simpa using hi
    simp only [nth, nthV, List.getD_eq_getElem?_getD, List.getElem?_map]
    rw [List.getElem?_eq_getElem hi']
    exact r.eval _
  · have e1 : Array.map a.eval caps = (List.map a.eval caps.toList).toArray := Array.ext' (by simp)
    have e2 : Array.map a.eval first = (List.map a.eval first.toList).toArray := Array.ext' (by simp)
    have e3 : ((first.toList ++ caps.toList).map a.eval).take first.size = first.toList.map a.eval := by rw [List.map_append, List.take_append_of_le_length (by simp), List.take_of_length_le (by simp)]
    have e4 : ((first.toList ++ caps.toList).map a.eval).drop first.size = caps.toList.map a.eval := by rw [List.map_append, List.drop_append_of_le_length (by simp), List.drop_of_length_le (by simp), List.nil_append]
    rw [e3, e4]
    simp [execOp, ho, Instr.makeFunc, e1, e2]
end
end Go.Fg
