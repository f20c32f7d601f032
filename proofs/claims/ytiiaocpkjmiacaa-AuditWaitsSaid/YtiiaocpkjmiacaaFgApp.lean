/- append, over abstract values and the abstract heap: whether it finds room or grows, the abstract heap is the same. Conditions: lengths below 2^32, elements of at most 1024 bytes. -/
import Derived.Test.YtiiaocpkjmiacaaFgEff
namespace Go.Fg
set_option linter.unusedSimpArgs false
set_option linter.unusedVariables false
open Go.RowKit (Below)
variable {Z : Nat → Prop}

/-- The elements of a slice: under what, how many, cells of each, the rows. -/
def psrc (h : List Ob) : D → Option (Prop × Nat × Nat × (Nat → List D))
  | .ref l g off n => match h[l]? with
    | some o => some (g = o.gen ∧ off + n ≤ o.n, n, o.sz, fun k => o.row (off + k))
    | none => none
  | .imm sz n row => some (True, n, sz, row)
  | _ => none

structure Src (Z : Nat → Prop) (h : List Ob) (pl : List Pl) (w : World) (v : Value) (n sz : Nat) (rows : Nat → List D) (a : Option Addr) (cap : Nat) (vs : Nat → Nat → Value) : Prop where
  v : v = .slice a n cap
  len : ∀ i, i < n → (rows i).length = sz
  cell : ∀ i j, i < n → j < sz → ∃ b q, a = some ⟨b, q, none⟩ ∧ w.cell? ⟨b, q + (i * sz + j), none⟩ = some (vs i j)
  rel : ∀ i j, i < n → j < sz → RelV Z h pl w (nth (rows i) j) (vs i j)

theorem psrc_ok {base : Nat} {h : List Ob} {pl : List Pl} {w : World} (R : RelO Z base h pl w) {d : D} {v : Value} (r : RelV Z h pl w d v) {p : Prop} {n sz : Nat} {rows : Nat → List D} (e : psrc h d = some (p, n, sz, rows)) (hp : p) : ∃ a cap vs, Src Z h pl w v n sz rows a cap vs := by
  unfold psrc at e
  split at e
  · rename_i l g off k
    split at e
    · rename_i o ho
      simp only [Option.some.injEq, Prod.mk.injEq] at e
      obtain ⟨rfl, rfl, rfl, rfl⟩ := e
      obtain ⟨o', p', a, cap, hv, ho', hp', hk', hg', hat⟩ := inv_ref r
      rw [ho] at ho'; cases ho'
      have hn := hp.2
      rcases hat hp.1 with ⟨h1, h2⟩ | ⟨b, q, c, el, hpp, ha, hb, hc, hl⟩
      · subst h1
        exact ⟨a, cap, fun _ _ => Go.undef, hv, fun i hi => by omega, fun i j hi => by omega, fun i j hi => by omega⟩
      · subst hpp
        obtain ⟨hbase, xx⟩ := R.at_ l o b q ho hp'
        obtain ⟨c', el', hb', hcs, hrl, hrow⟩ := xx.cells hk'
        rw [hb] at hb'; cases hb'
        refine ⟨a, cap, fun i j => (c[q + ((off + i) * o.sz + j)]?).getD Go.undef, hv, fun i hi => hrl _ (by omega), fun i j hi hj => ?_, fun i j hi hj => ?_⟩
        · obtain ⟨u, hu, hr⟩ := hrow (off + i) j (by omega) hj
          refine ⟨b, q + off * o.sz, ha, ?_⟩
          rw [cell_of_row w b _ c el (0, 0) hb, show q + off * o.sz + (i * o.sz + j) = q + ((off + i) * o.sz + j) by rw [Nat.add_mul]; omega, hu]; rfl
        · obtain ⟨u, hu, hr⟩ := hrow (off + i) j (by omega) hj
          simp only [hu, Option.getD_some]; exact hr
    · cases e
  · simp only [Option.some.injEq, Prod.mk.injEq] at e
    obtain ⟨rfl, rfl, rfl, rfl⟩ := e
    obtain ⟨a, cap, b, q, vs, hv, ha, hl, hs, hc⟩ := inv_imm r
    exact ⟨a, cap, vs, hv, hs, fun i j hi hj => ⟨b, q, ha (by omega), (hc i j hi hj).1.2⟩, fun i j hi hj => .cl _ _ (hc i j hi hj).2⟩
  · cases e

/-- The cells, row by row. -/
def flat (n sz : Nat) (vs : Nat → Nat → Value) : List Value := (List.range (n * sz)).map fun k => vs (k / sz) (k % sz)
theorem flat_length (n sz : Nat) (vs : Nat → Nat → Value) : (flat n sz vs).length = n * sz := by simp [flat]
theorem flat_get {n sz : Nat} {vs : Nat → Nat → Value} {i j : Nat} (hi : i < n) (hj : j < sz) : (flat n sz vs)[i * sz + j]? = some (vs i j) := by
  have h1 : i * sz + j < n * sz := by have := Nat.mul_le_mul_right sz (show i + 1 ≤ n from hi); rw [Nat.add_mul] at this; omega
  have h2 : (i * sz + j) / sz = i := by rw [Nat.mul_comm, Nat.mul_add_div (by omega), Nat.div_eq_of_lt hj]; rfl
  have h3 : (i * sz + j) % sz = j := by rw [Nat.mul_comm, Nat.mul_add_mod, Nat.mod_eq_of_lt hj]
  simp [flat, h1, h2, h3]
theorem div_lt {n sz k : Nat} (h : k < n * sz) : k / sz < n ∧ k % sz < sz ∧ k / sz * sz + k % sz = k := by
  have h0 : 0 < sz := Nat.pos_of_ne_zero (fun e => by subst e; simp at h)
  exact ⟨Nat.div_lt_of_lt_mul (by rw [Nat.mul_comm]; exact h), Nat.mod_lt _ h0, by rw [Nat.mul_comm]; exact Nat.div_add_mod k sz⟩

theorem Src.first {P : Program} {h : List Ob} {pl : List Pl} {w : World} {v : Value} {n sz : Nat} {rows : Nat → List D} {a : Option Addr} {cap : Nat} {vs : Nat → Nat → Value} (S : Src Z h pl w v n sz rows a cap vs) (w' : World) (hw : w'.heap = w.heap) :
    (Builtin.firstCells sz n v).run P w' = .ok (flat n sz vs).toArray w' := by
  rw [S.v]
  cases a with
  | none =>
    have : n * sz = 0 := by
      by_cases h : n * sz = 0
      · exact h
      · obtain ⟨h1, h2, _⟩ := div_lt (n := n) (sz := sz) (k := 0) (by omega)
        obtain ⟨b, q, hh, _⟩ := S.cell _ _ h1 h2
        cases hh
    simp [Builtin.firstCells, flat, this]
  | some ad =>
    refine run_firstCells_some w' sz n ad n cap _ (flat_length _ _ _) (fun k u hu => ?_)
    have hk : k < n * sz := by have := (List.getElem?_eq_some_iff.1 hu).1; rw [flat_length] at this; exact this
    obtain ⟨h1, h2, h3⟩ := div_lt hk
    obtain ⟨b, q, hh, hc⟩ := S.cell _ _ h1 h2
    cases hh
    rw [← h3, flat_get h1 h2] at hu
    cases hu
    rw [add_mk, World.cell?_of_block (w := w) (by rw [hw]), ← h3, hc]
    simp only [h3]

theorem zeroCells_size (z : Array Value) (n : Nat) : (Builtin.zeroCells z n).size = n * z.size := by simp [Builtin.zeroCells]

/-- append that grows. -/
theorem run_append_grown {P : Program} {t ty e : TypeId} {y : Ty} (ht : P.underlying t = some (.slice e)) (hy : TyOk P e y) (hz : y.zero.length = y.size) (w : World) (b : Option Addr) (sLen sCap : Nat) (olds : List Value) (c : Option Addr) (n cc : Nat) (news : List Value)
    (hold : ∀ w' : World, w'.heap = w.heap → (Builtin.firstCells y.size sLen (.slice b sLen sCap)).run P w' = .ok olds.toArray w') (hnew : ∀ w' : World, w'.heap = w.heap → (Builtin.firstCells y.size n (.slice c n cc)).run P w' = .ok news.toArray w')
    (hg : sCap < sLen + n) (h63 : sLen + n ≤ 4294967296) (hby : y.bytes ≤ 1024) :
    ∃ cap' rest, (Builtin.append_ #[t, t] ty #[.slice b sLen sCap, .slice c n cc]).run P w = .ok (.slice (some ⟨w.heap.size, 0, none⟩) (sLen + n) cap') (w.drew.alloc (.cells (olds.toArray ++ news.toArray ++ rest) e)) ∧
      sLen + n ≤ cap' ∧ rest.size = (cap' - (sLen + n)) * y.size := by
  obtain ⟨z, hzz, hzr⟩ := hy.zeroValue
  obtain ⟨i, hi, hi1, hi2⟩ := hy.typeInfo w
  refine ⟨grownCap w (sLen + n) sCap e, Builtin.zeroCells z.cells (grownCap w (sLen + n) sCap e - (sLen + n)), ?_, grownCap_ge _ _ _ _, by rw [zeroCells_size]; congr 1; rw [← hz, ← hzz]; simp⟩
  have hi' : ∀ w, (typeInfo e).run P w = .ok i w := fun w => by
    obtain ⟨i', h1, h2, h3⟩ := hy.typeInfo w
    have h4 := hy.info
    cases hx : P.info? e with
    | none => rw [hx] at h4; cases h4
    | some k =>
      simp [typeInfo, hx] at hi ⊢
      exact hi
  have hn : ¬ (sLen + n ≤ sCap) := by omega
  have h63' : ¬ (9223372036854775807 < ((sLen : Int) + (n : Int))) := by omega
  have h48 : Builtin.nextslicecap (sLen + n) sCap * y.bytes ≤ 281474976710656 := growslice_fits hg (by
    have := Nat.mul_le_mul (show sLen + n ≤ 4294967296 from h63) hby; omega)
  have h48' : ¬ (281474976710656 < Builtin.nextslicecap (sLen + n) sCap * i.bytes) := by rw [hi2]; omega
  have ho := hold w.drew rfl
  have hw := hnew w.drew rfl
  simp [Builtin.append_, run_underlying ht, hy.sizeOf, hi', hzr, Builtin.lenOf, hn, h63', h48', Question.forced, newRow, grownCap, ho, hw, askRoom, mark, Sem.run]
  rw [← Array.append_assoc]; simp

/-- append that finds room. -/
theorem run_append_in {P : Program} {t ty e : TypeId} {y : Ty} (ht : P.underlying t = some (.slice e)) (hy : TyOk P e y) (w : World) (b q sLen sCap : Nat) (c : Option Addr) (n cc : Nat) (news : List Value)
    (hnew : (Builtin.firstCells y.size n (.slice c n cc)).run P w = .ok news.toArray w) (hroom : sLen + n ≤ sCap) {w' : World} (hst : (storeCells ⟨b, q + sLen * y.size, none⟩ news).run P w = .ok () w') :
    (Builtin.append_ #[t, t] ty #[.slice (some ⟨b, q, none⟩) sLen sCap, .slice c n cc]).run P w = .ok (.slice (some ⟨b, q, none⟩) (sLen + n) sCap) w' := by
  simp [Builtin.append_, run_underlying ht, hy.sizeOf, Builtin.lenOf, hroom, hnew, add_mk, hst]
theorem run_append_none {P : Program} {t ty e : TypeId} {y : Ty} (ht : P.underlying t = some (.slice e)) (hy : TyOk P e y) (w : World) (b : Option Addr) (c : Option Addr) (cc : Nat) :
    (Builtin.append_ #[t, t] ty #[.slice b 0 0, .slice c 0 cc]).run P w = .ok (.slice b 0 0) w := by
  cases b <;> cases c <;> simp [Builtin.append_, run_underlying ht, hy.sizeOf, Builtin.lenOf, Builtin.firstCells, loadCells, loadCellsFrom, storeCells]

/-- The rows of a slice behind an append. -/
def appRow (len off : Nat) (r1 r2 : Nat → List D) : Nat → List D := fun k => bif Nat.blt k len then r1 (off + k) else r2 (k - len)
theorem appRow_lt {len off k : Nat} {r1 r2 : Nat → List D} (h : k < len) : appRow len off r1 r2 k = r1 (off + k) := by
  have : Nat.blt k len = true := by simpa [Nat.blt_eq] using h
  simp [appRow, this]
theorem appRow_ge {len off k : Nat} {r1 r2 : Nat → List D} (h : len ≤ k) : appRow len off r1 r2 k = r2 (k - len) := by
  have : Nat.blt k len = false := by rw [← Bool.not_eq_true, Nat.blt_eq]; omega
  simp [appRow, this]

/-- Bounds on which no append ends the call. -/
def appFits (y : Ty) (n : Nat) : Prop := n ≤ 4294967296 ∧ y.bytes ≤ 1024 ∧ y.zero.length = y.size

def papp (L : Lay) (h : List Ob) (t : TypeId) (s x : D) : Option (Prop × List Ob × D) :=
  match ty L t, psrc h x with
  | some ⟨.slice e, _, _, _⟩, some (px, n, sz, rows) => match ty L e, s with
    | some y, .nil => some (px ∧ sz = y.size ∧ appFits y n ∧ (∀ k, k < n → (rows k).all D.oneCell = true), h ++ [⟨.arr, 0, y.size, n, rows⟩], .ref h.length 0 0 n)
    | some y, .ref l g off len => match h[l]? with
      | some o => some (px ∧ g = o.gen ∧ off + len = o.n ∧ o.sz = y.size ∧ sz = y.size ∧ appFits y (len + n) ∧ (∀ k, k < n → (rows k).all D.oneCell = true) ∧ o.kd.ro = false, h.set l ⟨.arr, o.gen + 1, y.size, len + n, appRow len off o.row rows⟩, .ref l (o.gen + 1) 0 (len + n))
      | none => none
    | _, _ => none
  | _, _ => none

theorem Tr.bump {base : Nat} {h : List Ob} {pl : List Pl} {w w' : World} (R : RelO Z base h pl w) {l : Nat} {o o' : Ob} {p p' : Pl} (ho : h[l]? = some o) (hp : pl[l]? = some p) (hkd : o'.kd.ty = o.kd.ty) (hg : o.gen < o'.gen)
    (e : ∀ k, k < w.heap.size → (∀ q, p ≠ some (k, q)) → w'.heap[k]? = w.heap[k]?) (hp' : ∀ b q, p' = some (b, q) → (∃ q', p = some (b, q')) ∨ w.heap.size ≤ b) : Tr h pl w (h.set l o') (pl.set l p') w' where
  old := fun k hk hlt => by
    have hne : ∀ q, p ≠ some (k, q) := fun q hq => hk l q (by rw [hp, hq])
    refine ⟨fun l' q hl' => ?_, e k hlt hne⟩
    by_cases hll : l = l'
    · subst hll
      have : (pl.set l p')[l]? = some p' := by simp [ltp_of_some hp]
      rw [this] at hl'
      simp only [Option.some.injEq] at hl'
      rcases hp' k q hl' with ⟨q', h1⟩ | h1
      · exact hne q' h1
      · omega
    · rw [List.getElem?_set_ne hll] at hl'; exact hk l' q hl'
  obj := fun l' o1 p1 ho1 hp1 => by
    by_cases hll : l = l'
    · subst hll
      rw [ho] at ho1; cases ho1
      exact ⟨o', p', by simp [lt_of_some ho], by simp [ltp_of_some hp], by omega, hkd, fun h => by omega⟩
    · exact ⟨o1, p1, by rw [List.getElem?_set_ne hll]; exact ho1, by rw [List.getElem?_set_ne hll]; exact hp1, Nat.le_refl _, rfl, fun _ => ⟨rfl, rfl⟩⟩
  shape := fun l' o1 o2 b1 q1 ho1 ho2 hgg hp1 c el hb => by
    by_cases hll : l = l'
    · subst hll
      rw [ho] at ho1; cases ho1
      have : (h.set l o')[l]? = some o' := by simp [lt_of_some ho]
      rw [this] at ho2; cases ho2; omega
    · refine ⟨c, ?_, rfl⟩
      rw [e b1 (R.lt hp1).1 (fun q hq => hll (R.inj l l' b1 q q1 (by rw [hp, hq]) hp1))]; exact hb

theorem RelO.bump {base : Nat} {h : List Ob} {pl : List Pl} {w w' : World} (R : RelO Z base h pl w) {l : Nat} {o o' : Ob} {p : Pl} (ho : h[l]? = some o) (hp : pl[l]? = some p) (hk : o.kd.ty = 0) (hk' : o'.kd.ty = 0) (hg : o.gen < o'.gen)
    (e : ∀ k, k < w.heap.size → (∀ q, p ≠ some (k, q)) → w'.heap[k]? = w.heap[k]?) {b' q' : Nat} (hp' : (∃ q0, p = some (b', q0)) ∨ w.heap.size ≤ b') (hbase : base ≤ b') {c : Array Value} {el : TypeId} (hb : w'.heap[b']? = some (.cells c el (0, 0)))
    (hsz : q' + o'.n * o'.sz ≤ c.size) (hrl : ∀ i, i < o'.n → (o'.row i).length = o'.sz)
    (hrow : ∀ i j, i < o'.n → j < o'.sz → ∃ v, c[q' + (i * o'.sz + j)]? = some v ∧ RelV Z (h.set l o') (pl.set l (some (b', q'))) w' (nth (o'.row i) j) v) : RelO Z base (h.set l o') (pl.set l (some (b', q'))) w' := by
  have T : Tr h pl w (h.set l o') (pl.set l (some (b', q'))) w' := Tr.bump R ho hp (by rw [hk, hk']) hg e (fun b q hbq => by simp at hbq; obtain ⟨rfl, rfl⟩ := hbq; exact hp')
  have hself : (pl.set l (some (b', q')))[l]? = some (some (b', q')) := by simp [ltp_of_some hp]
  have other : ∀ (l1 b q : Nat), l ≠ l1 → pl[l1]? = some (some (b, q)) → b ≠ b' := by
    intro l1 b q hl h1 hbb
    subst hbb
    rcases hp' with ⟨q0, h2⟩ | h2
    · exact hl (R.inj l l1 b q0 q (by rw [hp, h2]) h1)
    · have := (R.lt h1).1; omega
  refine ⟨by simp [R.len], ?_, ?_, ?_⟩
  · intro l1 l2 b q1 q2 h1 h2
    by_cases e1 : l = l1
    · subst e1
      rw [hself] at h1; simp only [Option.some.injEq, Prod.mk.injEq] at h1
      by_cases e2 : l = l2
      · exact e2
      · rw [List.getElem?_set_ne e2] at h2
        exact absurd h1.1.symm (other l2 b q2 e2 h2)
    · rw [List.getElem?_set_ne e1] at h1
      by_cases e2 : l = l2
      · subst e2
        rw [hself] at h2; simp only [Option.some.injEq, Prod.mk.injEq] at h2
        exact absurd h2.1.symm (other l1 b q1 e1 h1)
      · rw [List.getElem?_set_ne e2] at h2
        exact R.inj l1 l2 b q1 q2 h1 h2
  · intro l1 o1 ho1 h1
    by_cases e1 : l = l1
    · subst e1; rw [hself] at h1; cases h1
    · rw [List.getElem?_set_ne e1] at h1 ho1; exact R.noRow l1 o1 ho1 h1
  · intro l1 o1 b q ho1 h1
    by_cases e1 : l = l1
    · subst e1
      rw [hself] at h1; simp only [Option.some.injEq, Prod.mk.injEq] at h1
      obtain ⟨rfl, rfl⟩ := h1
      have : (h.set l o')[l]? = some o' := by simp [lt_of_some ho]
      rw [this] at ho1; cases ho1
      exact ⟨fun _ => hbase, .ofCells hk' ⟨c, el, hb, hsz, hrl, hrow⟩⟩
    · rw [List.getElem?_set_ne e1] at h1 ho1
      obtain ⟨g1, x⟩ := R.at_ l1 o1 b q ho1 h1
      have hne : ∀ q0, p ≠ some (b, q0) := fun q0 hq => e1 (R.inj l l1 b q0 q (by rw [hp, hq]) h1)
      exact ⟨g1, x.to rfl rfl rfl (e b (R.lt h1).1 hne) (fun _ _ => rfl) fun i j v _ _ hr => hr.tr T⟩

section
variable {P : Program} {L : Lay} {base nt : Nat} {s : St} {o : Oper}

theorem append_nil_ok0 (hL : LayOk P L) {t : TypeId} {x0 x : Operand} (ho : o.op = .call ⟨.builtin .append, #[x0, x], #[t, t]⟩) (hx0 : evalO s.fr x0 = .nil) {p : Prop} {h' : List Ob} {d : D} (h : papp L s.h t .nil (evalO s.fr x) = some (p, h', d)) (hp : p) : EffOk0 P base nt o s h' d := by
  intro Z pl a w r hbs
  have hr0 := r.eval x0
  have hrx := r.eval x
  rw [hx0] at hr0
  unfold papp at h
  split at h
  · rename_i e _ _ _ px n sz rows he hsrc
    cases hye : ty L e with
    | none => rw [hye] at h; cases h
    | some y =>
      rw [hye] at h
      simp only [Option.some.injEq, Prod.mk.injEq] at h
      obtain ⟨rfl, rfl, rfl⟩ := h
      obtain ⟨hpx, rfl, ⟨h63, hby, hzl⟩, hone⟩ := hp
      have hy := hL _ _ hye
      have ht := under_slice (hL _ _ he) rfl
      obtain ⟨a0, hv0⟩ := inv_nil hr0
      obtain ⟨ax, capx, vs, S⟩ := psrc_ok r.o hrx hsrc hpx
      have hpl : pl.length = s.h.length := r.o.len
      by_cases hn : n = 0
      · subst hn
        have T : Tr s.h pl w (s.h ++ [⟨.arr, 0, y.size, 0, rows⟩]) (pl ++ [none]) w := Tr.push r.o (fun _ _ => rfl) _ _ (by intro b q e; cases e)
        refine ⟨_, w, pl ++ [none], .inl ?_, T, r.o.phantom _ rfl, .ref _ _ _ _ ⟨.arr, 0, y.size, 0, rows⟩ none a0 0 (by simp) (by rw [← hpl]; simp) rfl (Nat.le_refl _) (fun _ => .inl ⟨rfl, rfl⟩), Below.refl _ _⟩
        rw [run_builtin ho]
        simp [builtin, hv0, S.v, run_append_none ht hy]
      · obtain ⟨cap', rest, hrun, hcap, hrest⟩ := run_append_grown (ty := o.type) ht hy hzl w a0 0 0 [] ax n capx (flat n y.size vs) (fun w' _ => by cases a0 <;> simp [Builtin.firstCells, loadCells, loadCellsFrom]) (fun w' hw => by rw [← S.v]; exact S.first w' hw) (by omega) (by omega) hby
        simp only [Nat.zero_add, Array.empty_append] at hrun hcap hrest
        have e1 : ∀ b, b < w.heap.size → (w.drew.alloc (.cells ((flat n y.size vs).toArray ++ rest) e)).heap[b]? = w.heap[b]? := fun b hb => heap_push_old w.drew _ b hb
        have hnew : (w.drew.alloc (.cells ((flat n y.size vs).toArray ++ rest) e)).heap[w.heap.size]? = some (.cells ((flat n y.size vs).toArray ++ rest) e (0, 0)) := heap_alloc_new w.drew _
        have T : Tr s.h pl w (s.h ++ [⟨.arr, 0, y.size, n, rows⟩]) (pl ++ [some (w.heap.size, 0)]) (w.drew.alloc (.cells ((flat n y.size vs).toArray ++ rest) e)) := Tr.push r.o e1 _ _ (by intro b q h; simp at h; omega)
        refine ⟨.slice (some ⟨w.heap.size, 0, none⟩) n cap', _, _, .inl ?_, T, RelO.push r.o e1 _ rfl (Nat.le_refl _) hbs hnew (by simp [flat_length]) S.len (fun i j hi hj => ⟨vs i j, ?_, (S.rel i j hi hj).tr T⟩), .ref _ _ _ _ ⟨.arr, 0, y.size, n, rows⟩ (some (w.heap.size, 0)) _ cap' (by simp) (by rw [← hpl]; simp) rfl (Nat.le_refl _) (fun _ => .inr ⟨w.heap.size, 0, _, e, rfl, by simp, hnew, ?_, hcap⟩), ?_⟩
        · rw [run_builtin ho]
          have : (Array.map a.eval #[x0, x]) = #[.slice a0 0 0, .slice ax n capx] := by simp [hv0, S.v]
          rw [this]
          simp only [builtin, Sem.run_bind, hrun, Result.andThen_ok, Sem.run_pure]
        · have hg := flat_get (vs := vs) hi hj
          have hlt := (List.getElem?_eq_some_iff.1 hg).1
          rw [Nat.zero_add, Array.getElem?_append_left (by simpa using hlt)]
          simpa using hg
        · simp only [Nat.zero_add, Array.size_append, List.size_toArray, flat_length, hrest]
          rw [← Nat.add_mul]; exact Nat.mul_le_mul_right _ (by omega)
        · exact ((Below.refl base w).drew).alloc hbs _
  · cases h

theorem append_ref_ok0 (hL : LayOk P L) {t : TypeId} {x0 x : Operand} {l g off len : Nat} (ho : o.op = .call ⟨.builtin .append, #[x0, x], #[t, t]⟩) (hx0 : evalO s.fr x0 = .ref l g off len) {p : Prop} {h' : List Ob} {d : D} (h : papp L s.h t (.ref l g off len) (evalO s.fr x) = some (p, h', d)) (hp : p) : EffOk0 P base nt o s h' d := by
  intro Z pl a w r hbs
  have hr0 := r.eval x0
  have hrx := r.eval x
  rw [hx0] at hr0
  unfold papp at h
  split at h
  · rename_i e _ _ _ px n sz rows he hsrc
    cases hye : ty L e with
    | none => rw [hye] at h; cases h
    | some y =>
      rw [hye] at h
      dsimp only at h
      split at h
      · rename_i ob hob
        simp only [Option.some.injEq, Prod.mk.injEq] at h
        obtain ⟨rfl, rfl, rfl⟩ := h
        obtain ⟨hpx, hg, hoff, hosz, rfl, ⟨h63, hby, hzl⟩, hone, hro⟩ := hp
        have hy := hL _ _ hye
        have ht := under_slice (hL _ _ he) rfl
        obtain ⟨o', p', a0, cap0, hv0, ho', hp', hk', hg', hat⟩ := inv_ref hr0
        rw [hob] at ho'; cases ho'
        obtain ⟨ax, capx, vs, S⟩ := psrc_ok r.o hrx hsrc hpx
        have hev : (Array.map a.eval #[x0, x]) = #[.slice a0 len cap0, .slice ax n capx] := by simp [hv0, S.v]
        have fin : ∀ {v : Value} {w' : World}, (Builtin.append_ #[t, t] o.type #[.slice a0 len cap0, .slice ax n capx]).run P w = .ok v w' → (execOp a.eval o).run P w = .ok (.value v) w' := by
          intro v w' hrun
          rw [run_builtin ho, hev]
          simp only [builtin, Sem.run_bind, hrun, Result.andThen_ok, Sem.run_pure]
        -- grown: into a new block
        have grown : ∀ (vo : Nat → Nat → Value) (hold : ∀ w' : World, w'.heap = w.heap → (Builtin.firstCells y.size len (.slice a0 len cap0)).run P w' = .ok (flat len y.size vo).toArray w')
            (hlen : ∀ i, i < len → (ob.row (off + i)).length = y.size) (hrel : ∀ i j, i < len → j < y.size → RelV Z s.h pl w (nth (ob.row (off + i)) j) (vo i j)), cap0 < len + n →
            ∃ v w' pl', ((execOp a.eval o).run P w = .ok (.value v) w' ∨ ((execOp a.eval o).run P w = .ok .skip w' ∧ v = Go.undef)) ∧ Tr s.h pl w (s.h.set l ⟨.arr, ob.gen + 1, y.size, len + n, appRow len off ob.row rows⟩) pl' w' ∧
              RelO Z base (s.h.set l ⟨.arr, ob.gen + 1, y.size, len + n, appRow len off ob.row rows⟩) pl' w' ∧ RelV Z (s.h.set l ⟨.arr, ob.gen + 1, y.size, len + n, appRow len off ob.row rows⟩) pl' w' (.ref l (ob.gen + 1) 0 (len + n)) v ∧ Below base w w' := by
          intro vo hold hlen hrel hlt
          obtain ⟨cap', rest, hrun, hcap, hrest⟩ := run_append_grown (ty := o.type) ht hy hzl w a0 len cap0 (flat len y.size vo) ax n capx (flat n y.size vs) hold (fun w' hw => by rw [← S.v]; exact S.first w' hw) hlt h63 hby
          have e1 : ∀ b, b < w.heap.size → (w.drew.alloc (.cells ((flat len y.size vo).toArray ++ (flat n y.size vs).toArray ++ rest) e)).heap[b]? = w.heap[b]? := fun b hb => heap_push_old w.drew _ b hb
          have hnew : (w.drew.alloc (.cells ((flat len y.size vo).toArray ++ (flat n y.size vs).toArray ++ rest) e)).heap[w.heap.size]? = some (.cells ((flat len y.size vo).toArray ++ (flat n y.size vs).toArray ++ rest) e (0, 0)) := heap_alloc_new w.drew _
          have T := Tr.bump (o' := ⟨.arr, ob.gen + 1, y.size, len + n, appRow len off ob.row rows⟩) (p' := some (w.heap.size, 0)) r.o hob hp' hk'.symm (Nat.lt_succ_self _) (fun k hk _ => e1 k hk) (by intro b q h; simp at h; exact .inr (by omega))
          refine ⟨_, _, _, .inl (fin hrun), T, RelO.bump r.o hob hp' hk' rfl (Nat.lt_succ_self _) (fun k hk _ => e1 k hk) (.inr (Nat.le_refl _)) hbs hnew ?_ (fun i hi => ?_) (fun i j hi hj => ?_), .ref _ _ _ _ ⟨.arr, ob.gen + 1, y.size, len + n, appRow len off ob.row rows⟩ (some (w.heap.size, 0)) _ cap' (by simp [lt_of_some hob]) (by simp [ltp_of_some hp']) rfl (Nat.le_refl _) (fun _ => .inr ⟨w.heap.size, 0, _, e, rfl, by simp, hnew, ?_, hcap⟩), ((Below.refl base w).drew).alloc hbs _⟩
          · simp [flat_length, Nat.add_mul]
          · by_cases hik : i < len
            · show (appRow len off ob.row rows i).length = _
              rw [appRow_lt hik]; exact hlen i hik
            · show (appRow len off ob.row rows i).length = _
              rw [appRow_ge (by omega)]; exact S.len _ (by have : i < len + n := hi; omega)
          · have hj' : j < y.size := hj
            have hi' : i < len + n := hi
            show ∃ v, ((flat len y.size vo).toArray ++ (flat n y.size vs).toArray ++ rest)[0 + (i * y.size + j)]? = some v ∧ RelV _ _ _ _ (nth (appRow len off ob.row rows i) j) v
            by_cases hik : i < len
            · rw [appRow_lt hik]
              refine ⟨vo i j, ?_, (hrel i j hik hj').tr T⟩
              have hgt := flat_get (vs := vo) hik hj'
              have hlt' := (List.getElem?_eq_some_iff.1 hgt).1
              rw [Nat.zero_add, Array.getElem?_append_left (by simp; omega), Array.getElem?_append_left (by simpa using hlt')]
              simpa using hgt
            · rw [appRow_ge (by omega)]
              refine ⟨vs (i - len) j, ?_, (S.rel (i - len) j (by omega) hj').tr T⟩
              have hgt := flat_get (vs := vs) (show i - len < n by omega) hj'
              have hlt' := (List.getElem?_eq_some_iff.1 hgt).1
              have e2 : i * y.size + j - (flat len y.size vo).length = (i - len) * y.size + j := by
                rw [flat_length]
                have : i = (i - len) + len := by omega
                conv => lhs; rw [this, Nat.add_mul]
                omega
              have e3 : (flat len y.size vo).length ≤ i * y.size + j := by
                rw [flat_length]
                have := Nat.mul_le_mul_right y.size (show len ≤ i by omega); omega
              rw [Nat.zero_add, Array.getElem?_append_left (by simp; omega), Array.getElem?_append_right (by simpa using e3)]
              simp only [List.size_toArray]
              rw [e2]; simpa using hgt
          · simp only [Nat.zero_add, Array.size_append, List.size_toArray, flat_length, hrest]
            rw [← Nat.add_mul, ← Nat.add_mul]; exact Nat.mul_le_mul_right _ (by omega)
        rcases hat hg with ⟨h1, h2⟩ | ⟨b, q, c, el, hpp, ha0, hb, hcs, hlc⟩
        · subst h1
          subst h2
          by_cases hn : n = 0
          · subst hn
            -- nothing to nothing
            have hrun := run_append_none (ty := o.type) ht hy w a0 ax capx
            cases hpo : p' with
            | none =>
              subst hpo
              have T := Tr.bump (o' := ⟨.arr, ob.gen + 1, y.size, 0 + 0, appRow 0 off ob.row rows⟩) (p' := none) r.o hob hp' hk'.symm (Nat.lt_succ_self _) (fun k hk _ => rfl) (by intro b q h; cases h)
              have hset : pl.set l none = pl := by
                apply List.ext_getElem?; intro i
                by_cases hi : l = i
                · subst hi; rw [hp']; simp [ltp_of_some hp']
                · rw [List.getElem?_set_ne hi]
              rw [hset] at T
              refine ⟨_, w, pl, .inl (fin hrun), T, ?_, .ref _ _ _ _ ⟨.arr, ob.gen + 1, y.size, 0 + 0, appRow 0 off ob.row rows⟩ none a0 0 (by simp [lt_of_some hob]) hp' rfl (Nat.le_refl _) (fun _ => .inl ⟨rfl, rfl⟩), Below.refl _ _⟩
              refine ⟨by simp [r.o.len], r.o.inj, fun l1 o1 ho1 h1 => ?_, fun l1 o1 b q ho1 h1 => ?_⟩
              · by_cases e1 : l = l1
                · subst e1
                  rw [List.getElem?_set_self (lt_of_some hob)] at ho1; cases ho1; rfl
                · rw [List.getElem?_set_ne e1] at ho1; exact r.o.noRow l1 o1 ho1 h1
              · by_cases e1 : l = l1
                · subst e1; rw [hp'] at h1; cases h1
                · rw [List.getElem?_set_ne e1] at ho1
                  obtain ⟨g1, x⟩ := r.o.at_ l1 o1 b q ho1 h1
                  exact ⟨g1, x.to rfl rfl rfl rfl (fun _ _ => rfl) fun i j v _ _ hr => hr.tr T⟩
            | some bq =>
              obtain ⟨b, q⟩ := bq
              subst hpo
              obtain ⟨g1, x⟩ := r.o.at_ l ob b q hob hp'
              obtain ⟨c, el, g2, g3, g4, g5⟩ := x.cells hk'
              have T := Tr.bump (o' := ⟨.arr, ob.gen + 1, y.size, 0 + 0, appRow 0 off ob.row rows⟩) (p' := some (b, q)) r.o hob hp' hk'.symm (Nat.lt_succ_self _) (fun k hk _ => rfl) (by intro b1 q1 h; simp at h; exact .inl ⟨q, by rw [h.1]⟩)
              exact ⟨_, w, _, .inl (fin hrun), T, RelO.bump r.o hob hp' hk' rfl (Nat.lt_succ_self _) (fun k hk _ => rfl) (.inl ⟨q, rfl⟩) (g1 hro) g2 (by simp; omega) (fun i hi => by simp at hi) (fun i j hi => by simp at hi),
                .ref _ _ _ _ ⟨.arr, ob.gen + 1, y.size, 0 + 0, appRow 0 off ob.row rows⟩ (some (b, q)) a0 0 (by simp [lt_of_some hob]) (by simp [ltp_of_some hp']) rfl (Nat.le_refl _) (fun _ => .inl ⟨rfl, rfl⟩), Below.refl _ _⟩
          · exact grown (fun _ _ => Go.undef) (fun w' _ => by cases a0 <;> simp [Builtin.firstCells, loadCells, loadCellsFrom, flat]) (fun i hi => by omega) (fun i j hi => by omega) (by omega)
        · subst hpp
          obtain ⟨hbase, x⟩ := r.o.at_ l ob b q hob hp'
          have hbase := hbase hro
          obtain ⟨c', el', hb', hcsz, hrl, hrow⟩ := x.cells hk'
          rw [hb] at hb'; cases hb'
          rw [hosz] at hcs hcsz hrl hrow ha0
          by_cases hroom : len + n ≤ cap0
          · -- in place
            have hfit : q + off * y.size + len * y.size + n * y.size ≤ c.size := by
              have h1 := Nat.mul_le_mul_right y.size (show off + (len + n) ≤ off + cap0 by omega)
              simp only [Nat.add_mul] at h1 hcs
              omega
            obtain ⟨w', c', g1, g2, g3, g4, g5, g6, g7, g8, g9⟩ := run_storeCells (P := P) b el (flat n y.size vs) 0 (q + off * y.size + len * y.size) w c hb (by simp [flat_length]; omega) (fun k hk => by
              rw [flat_length] at hk
              obtain ⟨k1, k2, k3⟩ := div_lt hk
              have hg := flat_get (vs := vs) k1 k2
              rw [k3] at hg
              have : nthV (flat n y.size vs) k = vs (k / y.size) (k % y.size) := by simp [nthV, List.getD_eq_getElem?_getD, hg]
              rw [this]
              refine oneCell_ok (S.rel _ _ k1 k2) ?_
              have h2 := hone _ k1
              rw [List.all_eq_true] at h2
              refine h2 _ ?_
              have h3 : k % y.size < (rows (k / y.size)).length := by rw [S.len _ k1]; exact k2
              simp only [nth, List.getD_eq_getElem?_getD, List.getElem?_eq_getElem h3, Option.getD_some]
              exact List.getElem_mem h3)
            subst ha0
            have hrun := run_append_in (ty := o.type) ht hy w b (q + off * y.size) len cap0 ax n capx (flat n y.size vs) (by rw [← S.v]; exact S.first w rfl) hroom g1
            have he : ∀ k, k < w.heap.size → (∀ q1, (some (b, q) : Pl) ≠ some (k, q1)) → w'.heap[k]? = w.heap[k]? := fun k _ hk => g5 k (fun hkb => hk q (by rw [hkb]))
            have T := Tr.bump (o' := ⟨.arr, ob.gen + 1, y.size, len + n, appRow len off ob.row rows⟩) (p' := some (b, q + off * y.size)) r.o hob hp' hk'.symm (Nat.lt_succ_self _) he (by intro b1 q1 h; simp at h; exact .inl ⟨q, by rw [h.1]⟩)
            refine ⟨_, w', _, .inl (fin hrun), T, RelO.bump r.o hob hp' hk' rfl (Nat.lt_succ_self _) he (.inl ⟨q, rfl⟩) hbase g2 ?_ (fun i hi => ?_) (fun i j hi hj => ?_), .ref _ _ _ _ ⟨.arr, ob.gen + 1, y.size, len + n, appRow len off ob.row rows⟩ (some (b, q + off * y.size)) _ cap0 (by simp [lt_of_some hob]) (by simp [ltp_of_some hp']) rfl (Nat.le_refl _) (fun _ => .inr ⟨b, q + off * y.size, c', el, rfl, by simp, g2, ?_, hroom⟩), below_of hbase g5 g6 g7 g8 g9⟩
            · rw [g3]; simp only [Nat.add_mul]; omega
            · by_cases hik : i < len
              · show (appRow len off ob.row rows i).length = _
                rw [appRow_lt hik]; exact hrl _ (by omega)
              · show (appRow len off ob.row rows i).length = _
                rw [appRow_ge (by omega)]; exact S.len _ (by have : i < len + n := hi; omega)
            · have hj' : j < y.size := hj
              have hi' : i < len + n := hi
              show ∃ v, c'[q + off * y.size + (i * y.size + j)]? = some v ∧ RelV _ _ _ _ (nth (appRow len off ob.row rows i) j) v
              rw [g4]
              simp only [flat_length, Nat.add_zero]
              by_cases hik : i < len
              · rw [appRow_lt hik, if_neg]
                · obtain ⟨v, hv, hr⟩ := hrow (off + i) j (by omega) hj'
                  refine ⟨v, ?_, hr.tr T⟩
                  rw [← hv]; congr 1; rw [Nat.add_mul]; omega
                · have := Nat.mul_le_mul_right y.size (show i + 1 ≤ len from hik); rw [Nat.add_mul] at this; omega
              · have h1 := Nat.mul_le_mul_right y.size (show len ≤ i by omega)
                have h2 : i * y.size = (i - len) * y.size + len * y.size := by rw [← Nat.add_mul]; congr 1; omega
                have h3 := Nat.mul_le_mul_right y.size (show (i - len) + 1 ≤ n by omega)
                rw [Nat.add_mul] at h3
                rw [appRow_ge (by omega), if_pos (by omega)]
                refine ⟨vs (i - len) j, ?_, (S.rel (i - len) j (by omega) hj').tr T⟩
                rw [show q + off * y.size + (i * y.size + j) - (q + off * y.size + len * y.size) = (i - len) * y.size + j by omega]
                exact flat_get (by omega) hj'
            · rw [g3]; simp only [Nat.zero_add, Nat.add_mul] at hcs ⊢; omega
          · refine grown (fun i j => (c[q + ((off + i) * y.size + j)]?).getD Go.undef) (fun w' hw => ?_) (fun i hi => hrl _ (by omega)) (fun i j hi hj => ?_) (by omega)
            · have S0 : Src Z s.h pl w (.slice a0 len cap0) len y.size (fun k => ob.row (off + k)) a0 cap0 (fun i j => (c[q + ((off + i) * y.size + j)]?).getD Go.undef) := by
                refine ⟨rfl, fun i hi => hrl _ (by omega), fun i j hi hj => ⟨b, q + off * y.size, ha0, ?_⟩, fun i j hi hj => ?_⟩
                · obtain ⟨u, hu, hr⟩ := hrow (off + i) j (by omega) hj
                  rw [cell_of_row w b _ c el (0, 0) hb, show q + off * y.size + (i * y.size + j) = q + ((off + i) * y.size + j) by rw [Nat.add_mul]; omega, hu]; rfl
                · obtain ⟨u, hu, hr⟩ := hrow (off + i) j (by omega) hj
                  simp only [hu, Option.getD_some]; exact hr
              exact S0.first w' hw
            · obtain ⟨u, hu, hr⟩ := hrow (off + i) j (by omega) hj
              simp only [hu, Option.getD_some]; exact hr
      · cases h
  · cases h
theorem append_nil_ok (hL : LayOk P L) {t : TypeId} {x0 x : Operand} (ho : o.op = .call ⟨.builtin .append, #[x0, x], #[t, t]⟩) (hx0 : evalO s.fr x0 = .nil) {p : Prop} {h' : List Ob} {d : D} (h : papp L s.h t .nil (evalO s.fr x) = some (p, h', d)) (hp : p) : EffOk P base nt o s h' d :=
  (append_nil_ok0 hL ho hx0 h hp).up (by simp [calm, ho])
theorem append_ref_ok (hL : LayOk P L) {t : TypeId} {x0 x : Operand} {l g off len : Nat} (ho : o.op = .call ⟨.builtin .append, #[x0, x], #[t, t]⟩) (hx0 : evalO s.fr x0 = .ref l g off len) {p : Prop} {h' : List Ob} {d : D} (h : papp L s.h t (.ref l g off len) (evalO s.fr x) = some (p, h', d)) (hp : p) : EffOk P base nt o s h' d :=
  (append_ref_ok0 hL ho hx0 h hp).up (by simp [calm, ho])
end
end Go.Fg


