/- Walks of the functions that the statement reaches. No conditions: contracts and laws. -/
import Derived.Test.YtbijdpnacnnaoaaGreatFgEff
import Derived.ChangeKeysEq
namespace Go.Fg
set_option linter.unusedSimpArgs false
set_option linter.unusedVariables false
open Go.RowKit (Below)
variable {Z : Nat → Prop}

/-- The elements of a slice: under what, how many, cells of each, the rows. -/
def psrc (h : List Ob) : D → Option (Prop × Nat × Nat × (Nat → List D))
  | .ref l g off n => match h[l]? with
    | some o => some (g = o.gen ∧ off + n ≤ o.n, n, o.sz, fun k => o.row (off + k))
    | none => none
  | .imm sz n row => some (True, n, sz, row)
  | _ => none

structure Src (Z : Nat → Prop) (h : List Ob) (pl : List Pl) (w : World) (v : Value) (n sz : Nat) (rows : Nat → List D) (a : Option Addr) (cap : Nat) (vs : Nat → Nat → Value) : Prop where
  v : v = .slice a n cap
  len : ∀ i, i < n → (rows i).length = sz
  cell : ∀ i j, i < n → j < sz → ∃ b q, a = some ⟨b, q, none⟩ ∧ w.cell? ⟨b, q + (i * sz + j), none⟩ = some (vs i j)
  rel : ∀ i j, i < n → j < sz → RelV Z h pl w (nth (rows i) j) (vs i j)

theorem psrc_ok {base : Nat} {h : List Ob} {pl : List Pl} {w : World} (R : RelO Z base h pl w) {d : D} {v : Value} (r : RelV Z h pl w d v) {p : Prop} {n sz : Nat} {rows : Nat → List D} (e : psrc h d = some (p, n, sz, rows)) (hp : p) : ∃ a cap vs, Src Z h pl w v n sz rows a cap vs := by
  unfold psrc at e
  split at e
  · rename_i l g off k
    split at e
    · rename_i o ho
      simp only [Option.some.injEq, Prod.mk.injEq] at e
      obtain ⟨rfl, rfl, rfl, rfl⟩ := e
      obtain ⟨o', p', a, cap, hv, ho', hp', hk', hg', hat⟩ := inv_ref r
      rw [ho] at ho'; cases ho'
      have hn := hp.2
      rcases hat hp.1 with ⟨h1, h2⟩ | ⟨b, q, c, el, hpp, ha, hb, hc, hl⟩
      · subst h1
        exact ⟨a, cap, fun _ _ => Go.undef, hv, fun i hi => by omega, fun i j hi => by omega, fun i j hi => by omega⟩
      · subst hpp
        obtain ⟨hbase, xx⟩ := R.at_ l o b q ho hp'
        obtain ⟨c', el', hb', hcs, hrl, hrow⟩ := xx.cells hk'
        rw [hb] at hb'; cases hb'
        refine ⟨a, cap, fun i j => (c[q + ((off + i) * o.sz + j)]?).getD Go.undef, hv, fun i hi => hrl _ (by omega), fun i j hi hj => ?_, fun i j hi hj => ?_⟩
        · obtain ⟨u, hu, hr⟩ := hrow (off + i) j (by omega) hj
          refine ⟨b, q + off * o.sz, ha, ?_⟩
          rw [cell_of_row w b _ c el (0, 0) hb, show q + off * o.sz + (i * o.sz + j) = q + ((off + i) * o.sz + j) by rw [Nat.add_mul]; omega, hu]; rfl
        · obtain ⟨u, hu, hr⟩ := hrow (off + i) j (by omega) hj
          simp only [hu, Option.getD_some]; exact hr
    · cases e
  · simp only [Option.some.injEq, Prod.mk.injEq] at e
    obtain ⟨rfl, rfl, rfl, rfl⟩ := e
    obtain ⟨a, cap, b, q, vs, hv, ha, hl, hs, hc⟩ := inv_imm r
    exact ⟨a, cap, vs, hv, hs, fun i j hi hj => ⟨b, q, ha (by omega), (hc i j hi hj).1.2⟩, fun i j hi hj => .cl _ _ (hc i j hi hj).2⟩
  · cases e

/-- The cells, row by row. -/
def flat (n sz : Nat) (vs : Nat → Nat → Value) : List Value := (List.range (n * sz)).map fun k => vs (k / sz) (k % sz)
theorem flat_length (n sz : Nat) (vs : Nat → Nat → Value) : (flat n sz vs).length = n * sz := by simp [flat]
theorem flat_get {n sz : Nat} {vs : Nat → Nat → Value} {i j : Nat} (hi : i < n) (hj : j < sz) : (flat n sz vs)[i * sz + j]? = some (vs i j) := by
  have h1 : i * sz + j < n * sz := by have := Nat.mul_le_mul_right sz (show i + 1 ≤ n from hi); rw [Nat.add_mul] at this; omega
  have h2 : (i * sz + j) / sz = i := by rw [Nat.mul_comm, Nat.mul_add_div (by omega), Nat.div_eq_of_lt hj]; rfl
  have h3 : (i * sz + j) % sz = j := by rw [Nat.mul_comm, Nat.mul_add_mod, Nat.mod_eq_of_lt hj]
  simp [flat, h1, h2, h3]
theorem div_lt {n sz k : Nat} (h : k < n * sz) : k / sz < n ∧ k % sz < sz ∧ k / sz * sz + k % sz = k := by
  have h0 : 0 < sz := Nat.pos_of_ne_zero (fun e => by subst e; simp at h)
  exact ⟨Nat.div_lt_of_lt_mul (by rw [Nat.mul_comm]; exact h), Nat.mod_lt _ h0, by rw [Nat.mul_comm]; exact Nat.div_add_mod k sz⟩

theorem Src.first {P : Program} {h : List Ob} {pl : List Pl} {w : World} {v : Value} {n sz : Nat} {rows : Nat → List D} {a : Option Addr} {cap : Nat} {vs : Nat → Nat → Value} (S : Src Z h pl w v n sz rows a cap vs) (w' : World) (hw : w'.heap = w.heap) :
    (Builtin.firstCells sz n v).run P w' = .ok (flat n sz vs).toArray w' := by
  rw [S.v]
  cases a with
  | none =>
    have : n * sz = 0 := by
      by_cases h : n * sz = 0
      · exact h
      · obtain ⟨h1, h2, _⟩ := div_lt (n := n) (sz := sz) (k := 0) (by omega)
        obtain ⟨b, q, hh, _⟩ := S.cell _ _ h1 h2
        cases hh
    simp [Builtin.firstCells, flat, this]
  | some ad =>
    refine run_firstCells_some w' sz n ad n cap _ (flat_length _ _ _) (fun k u hu => ?_)
    have hk : k < n * sz := by have := (List.getElem?_eq_some_iff.1 hu).1; rw [flat_length] at this; exact this
    obtain ⟨h1, h2, h3⟩ := div_lt hk
    obtain ⟨b, q, hh, hc⟩ := S.cell _ _ h1 h2
    cases hh
    rw [← h3, flat_get h1 h2] at hu
    cases hu
    rw [add_mk, World.cell?_of_block (w := w) (by rw [hw]), ← h3, hc]
    simp only [h3]

theorem zeroCells_size (z : Array Value) (n : Nat) : (Builtin.zeroCells z n).size = n * z.size := by simp [Builtin.zeroCells]

/-- append that grows. -/
theorem run_append_grown {P : Program} {t ty e : TypeId} {y : Ty} (ht : P.underlying t = some (.slice e)) (hy : TyOk P e y) (hz : y.zero.length = y.size) (w : World) (b : Option Addr) (sLen sCap : Nat) (olds : List Value) (c : Option Addr) (n cc : Nat) (news : List Value)
    (hold : ∀ w' : World, w'.heap = w.heap → (Builtin.firstCells y.size sLen (.slice b sLen sCap)).run P w' = .ok olds.toArray w') (hnew : ∀ w' : World, w'.heap = w.heap → (Builtin.firstCells y.size n (.slice c n cc)).run P w' = .ok news.toArray w')
    (hg : sCap < sLen + n) (h63 : sLen + n ≤ 4294967296) (hby : y.bytes ≤ 1024) :
    ∃ cap' rest, (Builtin.append_ #[t, t] ty #[.slice b sLen sCap, .slice c n cc]).run P w = .ok (.slice (some ⟨w.heap.size, 0, none⟩) (sLen + n) cap') (w.drew.alloc (.cells (olds.toArray ++ news.toArray ++ rest) e)) ∧
      sLen + n ≤ cap' ∧ rest.size = (cap' - (sLen + n)) * y.size := by
  obtain ⟨z, hzz, hzr⟩ := hy.zeroValue
  obtain ⟨i, hi, hi1, hi2⟩ := hy.typeInfo w
  refine ⟨grownCap w (sLen + n) sCap e, Builtin.zeroCells z.cells (grownCap w (sLen + n) sCap e - (sLen + n)), ?_, grownCap_ge _ _ _ _, by rw [zeroCells_size]; congr 1; rw [← hz, ← hzz]; simp⟩
  have hi' : ∀ w, (typeInfo e).run P w = .ok i w := fun w => by
    obtain ⟨i', h1, h2, h3⟩ := hy.typeInfo w
    have h4 := hy.info
    cases hx : P.info? e with
    | none => rw [hx] at h4; cases h4
    | some k =>
      simp [typeInfo, hx] at hi ⊢
      exact hi
  have hn : ¬ (sLen + n ≤ sCap) := by omega
  have h63' : ¬ (9223372036854775807 < ((sLen : Int) + (n : Int))) := by omega
  have h48 : Builtin.nextslicecap (sLen + n) sCap * y.bytes ≤ 281474976710656 := growslice_fits hg (by
    have := Nat.mul_le_mul (show sLen + n ≤ 4294967296 from h63) hby; omega)
  have h48' : ¬ (281474976710656 < Builtin.nextslicecap (sLen + n) sCap * i.bytes) := by rw [hi2]; omega
  have ho := hold w.drew rfl
  have hw := hnew w.drew rfl
  simp [Builtin.append_, run_underlying ht, hy.sizeOf, hi', hzr, Builtin.lenOf, hn, h63', h48', Question.forced, newRow, grownCap, ho, hw, askRoom, mark, Sem.run]
  rw [← Array.append_assoc]; simp

/-- append that finds room. -/
theorem run_append_in {P : Program} {t ty e : TypeId} {y : Ty} (ht : P.underlying t = some (.slice e)) (hy : TyOk P e y) (w : World) (b q sLen sCap : Nat) (c : Option Addr) (n cc : Nat) (news : List Value)
    (hnew : (Builtin.firstCells y.size n (.slice c n cc)).run P w = .ok news.toArray w) (hroom : sLen + n ≤ sCap) {w' : World} (hst : (storeCells ⟨b, q + sLen * y.size, none⟩ news).run P w = .ok () w') :
    (Builtin.append_ #[t, t] ty #[.slice (some ⟨b, q, none⟩) sLen sCap, .slice c n cc]).run P w = .ok (.slice (some ⟨b, q, none⟩) (sLen + n) sCap) w' := by
  simp [Builtin.append_, run_underlying ht, hy.sizeOf, Builtin.lenOf, hroom, hnew, add_mk, hst]
theorem run_append_none {P : Program} {t ty e : TypeId} {y : Ty} (ht : P.underlying t = some (.slice e)) (hy : TyOk P e y) (w : World) (b : Option Addr) (c : Option Addr) (cc : Nat) :
    (Builtin.append_ #[t, t] ty #[.slice b 0 0, .slice c 0 cc]).run P w = .ok (.slice b 0 0) w := by
  cases b <;> cases c <;> simp [Builtin.append_, run_underlying ht, hy.sizeOf, Builtin.lenOf, Builtin.firstCells, loadCells, loadCellsFrom, storeCells]

/-- The rows of a slice behind an append. -/
def appRow (len off : Nat) (r1 r2 : Nat → List D) : Nat → List D := fun k => bif Nat.blt k len then r1 (off + k) else r2 (k - len)
theorem appRow_lt {len off k : Nat} {r1 r2 : Nat → List D} (h : k < len) : appRow len off r1 r2 k = r1 (off + k) := by
  have : Nat.blt k len = true := by simpa [Nat.blt_eq] using h
  simp [appRow, this]
theorem appRow_ge {len off k : Nat} {r1 r2 : Nat → List D} (h : len ≤ k) : appRow len off r1 r2 k = r2 (k - len) := by
  have : Nat.blt k len = false := by rw [← Bool.not_eq_true, Nat.blt_eq]; omega
  simp [appRow, this]

/-- Bounds on which no append ends the call. -/
def appFits (y : Ty) (n : Nat) : Prop := n ≤ 4294967296 ∧ y.bytes ≤ 1024 ∧ y.zero.length = y.size

def papp (L : Lay) (h : List Ob) (t : TypeId) (s x : D) : Option (Prop × List Ob × D) :=
  match ty L t, psrc h x with
  | some ⟨.slice e, _, _, _⟩, some (px, n, sz, rows) => match ty L e, s with
    | some y, .nil => some (px ∧ sz = y.size ∧ appFits y n ∧ (∀ k, k < n → (rows k).all D.oneCell = true), h ++ [⟨.arr, 0, y.size, n, rows⟩], .ref h.length 0 0 n)
    | some y, .ref l g off len => match h[l]? with
      | some o => some (px ∧ g = o.gen ∧ off + len = o.n ∧ o.sz = y.size ∧ sz = y.size ∧ appFits y (len + n) ∧ (∀ k, k < n → (rows k).all D.oneCell = true) ∧ o.kd.ro = false, h.set l ⟨.arr, o.gen + 1, y.size, len + n, appRow len off o.row rows⟩, .ref l (o.gen + 1) 0 (len + n))
      | none => none
    | _, _ => none
  | _, _ => none

theorem Tr.bump {base : Nat} {h : List Ob} {pl : List Pl} {w w' : World} (R : RelO Z base h pl w) {l : Nat} {o o' : Ob} {p p' : Pl} (ho : h[l]? = some o) (hp : pl[l]? = some p) (hkd : o'.kd.ty = o.kd.ty) (hg : o.gen < o'.gen)
    (e : ∀ k, k < w.heap.size → (∀ q, p ≠ some (k, q)) → w'.heap[k]? = w.heap[k]?) (hp' : ∀ b q, p' = some (b, q) → (∃ q', p = some (b, q')) ∨ w.heap.size ≤ b) : Tr h pl w (h.set l o') (pl.set l p') w' where
  old := fun k hk hlt => by
    have hne : ∀ q, p ≠ some (k, q) := fun q hq => hk l q (by rw [hp, hq])
    refine ⟨fun l' q hl' => ?_, e k hlt hne⟩
    by_cases hll : l = l'
    · subst hll
      have : (pl.set l p')[l]? = some p' := by simp [ltp_of_some hp]
      rw [this] at hl'
      simp only [Option.some.injEq] at hl'
      rcases hp' k q hl' with ⟨q', h1⟩ | h1
      · exact hne q' h1
      · omega
    · rw [List.getElem?_set_ne hll] at hl'; exact hk l' q hl'
  obj := fun l' o1 p1 ho1 hp1 => by
    by_cases hll : l = l'
    · subst hll
      rw [ho] at ho1; cases ho1
      exact ⟨o', p', by simp [lt_of_some ho], by simp [ltp_of_some hp], by omega, hkd, fun h => by omega⟩
    · exact ⟨o1, p1, by rw [List.getElem?_set_ne hll]; exact ho1, by rw [List.getElem?_set_ne hll]; exact hp1, Nat.le_refl _, rfl, fun _ => ⟨rfl, rfl⟩⟩
  shape := fun l' o1 o2 b1 q1 ho1 ho2 hgg hp1 c el hb => by
    by_cases hll : l = l'
    · subst hll
      rw [ho] at ho1; cases ho1
      have : (h.set l o')[l]? = some o' := by simp [lt_of_some ho]
      rw [this] at ho2; cases ho2; omega
    · refine ⟨c, ?_, rfl⟩
      rw [e b1 (R.lt hp1).1 (fun q hq => hll (R.inj l l' b1 q q1 (by rw [hp, hq]) hp1))]; exact hb

theorem RelO.bump {base : Nat} {h : List Ob} {pl : List Pl} {w w' : World} (R : RelO Z base h pl w) {l : Nat} {o o' : Ob} {p : Pl} (ho : h[l]? = some o) (hp : pl[l]? = some p) (hk : o.kd.ty = 0) (hk' : o'.kd.ty = 0) (hg : o.gen < o'.gen)
    (e : ∀ k, k < w.heap.size → (∀ q, p ≠ some (k, q)) → w'.heap[k]? = w.heap[k]?) {b' q' : Nat} (hp' : (∃ q0, p = some (b', q0)) ∨ w.heap.size ≤ b') (hbase : base ≤ b') {c : Array Value} {el : TypeId} (hb : w'.heap[b']? = some (.cells c el (0, 0)))
    (hsz : q' + o'.n * o'.sz ≤ c.size) (hrl : ∀ i, i < o'.n → (o'.row i).length = o'.sz)
    (hrow : ∀ i j, i < o'.n → j < o'.sz → ∃ v, c[q' + (i * o'.sz + j)]? = some v ∧ RelV Z (h.set l o') (pl.set l (some (b', q'))) w' (nth (o'.row i) j) v) : RelO Z base (h.set l o') (pl.set l (some (b', q'))) w' := by
  have T : Tr h pl w (h.set l o') (pl.set l (some (b', q'))) w' := Tr.bump R ho hp (by rw [hk, hk']) hg e (fun b q hbq => by simp at hbq; obtain ⟨rfl, rfl⟩ := hbq; exact hp')
  have hself : (pl.set l (some (b', q')))[l]? = some (some (b', q')) := by simp [ltp_of_some hp]
  have other : ∀ (l1 b q : Nat), l ≠ l1 → pl[l1]? = some (some (b, q)) → b ≠ b' := by
    intro l1 b q hl h1 hbb
    subst hbb
    rcases hp' with ⟨q0, h2⟩ | h2
    · exact hl (R.inj l l1 b q0 q (by rw [hp, h2]) h1)
    · have := (R.lt h1).1; omega
  refine ⟨by simp [R.len], ?_, ?_, ?_⟩
  · intro l1 l2 b q1 q2 h1 h2
    by_cases e1 : l = l1
    · subst e1
      rw [hself] at h1; simp only [Option.some.injEq, Prod.mk.injEq] at h1
      by_cases e2 : l = l2
      · exact e2
      · rw [List.getElem?_set_ne e2] at h2
        exact absurd h1.1.symm (other l2 b q2 e2 h2)
    · rw [List.getElem?_set_ne e1] at h1
      by_cases e2 : l = l2
      · subst e2
        rw [hself] at h2; simp only [Option.some.injEq, Prod.mk.injEq] at h2
        exact absurd h2.1.symm (other l1 b q1 e1 h1)
      · rw [List.getElem?_set_ne e2] at h2
        exact R.inj l1 l2 b q1 q2 h1 h2
  · intro l1 o1 ho1 h1
    by_cases e1 : l = l1
    · subst e1; rw [hself] at h1; cases h1
    · rw [List.getElem?_set_ne e1] at h1 ho1; exact R.noRow l1 o1 ho1 h1
  · intro l1 o1 b q ho1 h1
    by_cases e1 : l = l1
    · subst e1
      rw [hself] at h1; simp only [Option.some.injEq, Prod.mk.injEq] at h1
      obtain ⟨rfl, rfl⟩ := h1
      have : (h.set l o')[l]? = some o' := by simp [lt_of_some ho]
      rw [this] at ho1; cases ho1
      exact ⟨fun _ => hbase, .ofCells hk' ⟨c, el, hb, hsz, hrl, hrow⟩⟩
    · rw [List.getElem?_set_ne e1] at h1 ho1
      obtain ⟨g1, x⟩ := R.at_ l1 o1 b q ho1 h1
      have hne : ∀ q0, p ≠ some (b, q0) := fun q0 hq => e1 (R.inj l l1 b q0 q (by rw [hp, hq]) h1)
      exact ⟨g1, x.to rfl rfl rfl (e b (R.lt h1).1 hne) (fun _ _ => rfl) fun i j v _ _ hr => hr.tr T⟩

section
variable {P : Program} {L : Lay} {base nt : Nat} {s : St} {o : Oper}

theorem append_nil_ok0 (hL : LayOk P L) {t : TypeId} {x0 x : Operand} (ho : o.op = .call ⟨.builtin .append, #[x0, x], #[t, t]⟩) (hx0 : evalO s.fr x0 = .nil) {p : Prop} {h' : List Ob} {d : D} (h : papp L s.h t .nil (evalO s.fr x) = some (p, h', d)) (hp : p) : EffOk0 P base nt o s h' d := by
  intro Z pl a w r hbs
  have hr0 := r.eval x0
  have hrx := r.eval x
  rw [hx0] at hr0
  unfold papp at h
  split at h
  · rename_i e _ _ _ px n sz rows he hsrc
    cases hye : ty L e with
    | none => rw [hye] at h; cases h
    | some y =>
      rw [hye] at h
      simp only [Option.some.injEq, Prod.mk.injEq] at h
      obtain ⟨rfl, rfl, rfl⟩ := h
      obtain ⟨hpx, rfl, ⟨h63, hby, hzl⟩, hone⟩ := hp
      have hy := hL _ _ hye
      have ht := under_slice (hL _ _ he) rfl
      obtain ⟨a0, hv0⟩ := inv_nil hr0
      obtain ⟨ax, capx, vs, S⟩ := psrc_ok r.o hrx hsrc hpx
      have hpl : pl.length = s.h.length := r.o.len
      by_cases hn : n = 0
      · subst hn
        have T : Tr s.h pl w (s.h ++ [⟨.arr, 0, y.size, 0, rows⟩]) (pl ++ [none]) w := Tr.push r.o (fun _ _ => rfl) _ _ (by intro b q e; cases e)
        refine ⟨_, w, pl ++ [none], .inl ?_, T, r.o.phantom _ rfl, .ref _ _ _ _ ⟨.arr, 0, y.size, 0, rows⟩ none a0 0 (by simp) (by rw [← hpl]; simp) rfl (Nat.le_refl _) (fun _ => .inl ⟨rfl, rfl⟩), Below.refl _ _⟩
        rw [run_builtin ho]
        simp [builtin, hv0, S.v, run_append_none ht hy]
      · obtain ⟨cap', rest, hrun, hcap, hrest⟩ := run_append_grown (ty := o.type) ht hy hzl w a0 0 0 [] ax n capx (flat n y.size vs) (fun w' _ => by cases a0 <;> simp [Builtin.firstCells, loadCells, loadCellsFrom]) (fun w' hw => by rw [← S.v]; exact S.first w' hw) (by omega) (by omega) hby
        simp only [Nat.zero_add, Array.empty_append] at hrun hcap hrest
        have e1 : ∀ b, b < w.heap.size → (w.drew.alloc (.cells ((flat n y.size vs).toArray ++ rest) e)).heap[b]? = w.heap[b]? := fun b hb => heap_push_old w.drew _ b hb
        have hnew : (w.drew.alloc (.cells ((flat n y.size vs).toArray ++ rest) e)).heap[w.heap.size]? = some (.cells ((flat n y.size vs).toArray ++ rest) e (0, 0)) := heap_alloc_new w.drew _
        have T : Tr s.h pl w (s.h ++ [⟨.arr, 0, y.size, n, rows⟩]) (pl ++ [some (w.heap.size, 0)]) (w.drew.alloc (.cells ((flat n y.size vs).toArray ++ rest) e)) := Tr.push r.o e1 _ _ (by intro b q h; simp at h; omega)
        refine ⟨.slice (some ⟨w.heap.size, 0, none⟩) n cap', _, _, .inl ?_, T, RelO.push r.o e1 _ rfl (Nat.le_refl _) hbs hnew (by simp [flat_length]) S.len (fun i j hi hj => ⟨vs i j, ?_, (S.rel i j hi hj).tr T⟩), .ref _ _ _ _ ⟨.arr, 0, y.size, n, rows⟩ (some (w.heap.size, 0)) _ cap' (by simp) (by rw [← hpl]; simp) rfl (Nat.le_refl _) (fun _ => .inr ⟨w.heap.size, 0, _, e, rfl, by simp, hnew, ?_, hcap⟩), ?_⟩
        · rw [run_builtin ho]
          have : (Array.map a.eval #[x0, x]) = #[.slice a0 0 0, .slice ax n capx] := by simp [hv0, S.v]
          rw [this]
          simp only [builtin, Sem.run_bind, hrun, Result.andThen_ok, Sem.run_pure]
        · have hg := flat_get (vs := vs) hi hj
          have hlt := (List.getElem?_eq_some_iff.1 hg).1
          rw [Nat.zero_add, Array.getElem?_append_left (by simpa using hlt)]
          simpa using hg
        · simp only [Nat.zero_add, Array.size_append, List.size_toArray, flat_length, hrest]
          rw [← Nat.add_mul]; exact Nat.mul_le_mul_right _ (by omega)
        · exact ((Below.refl base w).drew).alloc hbs _
  · cases h

theorem append_ref_ok0 (hL : LayOk P L) {t : TypeId} {x0 x : Operand} {l g off len : Nat} (ho : o.op = .call ⟨.builtin .append, #[x0, x], #[t, t]⟩) (hx0 : evalO s.fr x0 = .ref l g off len) {p : Prop} {h' : List Ob} {d : D} (h : papp L s.h t (.ref l g off len) (evalO s.fr x) = some (p, h', d)) (hp : p) : EffOk0 P base nt o s h' d := by
  intro Z pl a w r hbs
  have hr0 := r.eval x0
  have hrx := r.eval x
  rw [hx0] at hr0
  unfold papp at h
  split at h
  · rename_i e _ _ _ px n sz rows he hsrc
    cases hye : ty L e with
    | none => rw [hye] at h; cases h
    | some y =>
      rw [hye] at h
      dsimp only at h
      split at h
      · rename_i ob hob
        simp only [Option.some.injEq, Prod.mk.injEq] at h
        obtain ⟨rfl, rfl, rfl⟩ := h
        obtain ⟨hpx, hg, hoff, hosz, rfl, ⟨h63, hby, hzl⟩, hone, hro⟩ := hp
        have hy := hL _ _ hye
        have ht := under_slice (hL _ _ he) rfl
        obtain ⟨o', p', a0, cap0, hv0, ho', hp', hk', hg', hat⟩ := inv_ref hr0
        rw [hob] at ho'; cases ho'
        obtain ⟨ax, capx, vs, S⟩ := psrc_ok r.o hrx hsrc hpx
        have hev : (Array.map a.eval #[x0, x]) = #[.slice a0 len cap0, .slice ax n capx] := by simp [hv0, S.v]
        have fin : ∀ {v : Value} {w' : World}, (Builtin.append_ #[t, t] o.type #[.slice a0 len cap0, .slice ax n capx]).run P w = .ok v w' → (execOp a.eval o).run P w = .ok (.value v) w' := by
          intro v w' hrun
          rw [run_builtin ho, hev]
          simp only [builtin, Sem.run_bind, hrun, Result.andThen_ok, Sem.run_pure]
        -- grown: into a new block
        have grown : ∀ (vo : Nat → Nat → Value) (hold : ∀ w' : World, w'.heap = w.heap → (Builtin.firstCells y.size len (.slice a0 len cap0)).run P w' = .ok (flat len y.size vo).toArray w')
            (hlen : ∀ i, i < len → (ob.row (off + i)).length = y.size) (hrel : ∀ i j, i < len → j < y.size → RelV Z s.h pl w (nth (ob.row (off + i)) j) (vo i j)), cap0 < len + n →
            ∃ v w' pl', ((execOp a.eval o).run P w = .ok (.value v) w' ∨ ((execOp a.eval o).run P w = .ok .skip w' ∧ v = Go.undef)) ∧ Tr s.h pl w (s.h.set l ⟨.arr, ob.gen + 1, y.size, len + n, appRow len off ob.row rows⟩) pl' w' ∧
              RelO Z base (s.h.set l ⟨.arr, ob.gen + 1, y.size, len + n, appRow len off ob.row rows⟩) pl' w' ∧ RelV Z (s.h.set l ⟨.arr, ob.gen + 1, y.size, len + n, appRow len off ob.row rows⟩) pl' w' (.ref l (ob.gen + 1) 0 (len + n)) v ∧ Below base w w' := by
          intro vo hold hlen hrel hlt
          obtain ⟨cap', rest, hrun, hcap, hrest⟩ := run_append_grown (ty := o.type) ht hy hzl w a0 len cap0 (flat len y.size vo) ax n capx (flat n y.size vs) hold (fun w' hw => by rw [← S.v]; exact S.first w' hw) hlt h63 hby
          have e1 : ∀ b, b < w.heap.size → (w.drew.alloc (.cells ((flat len y.size vo).toArray ++ (flat n y.size vs).toArray ++ rest) e)).heap[b]? = w.heap[b]? := fun b hb => heap_push_old w.drew _ b hb
          have hnew : (w.drew.alloc (.cells ((flat len y.size vo).toArray ++ (flat n y.size vs).toArray ++ rest) e)).heap[w.heap.size]? = some (.cells ((flat len y.size vo).toArray ++ (flat n y.size vs).toArray ++ rest) e (0, 0)) := heap_alloc_new w.drew _
          have T := Tr.bump (o' := ⟨.arr, ob.gen + 1, y.size, len + n, appRow len off ob.row rows⟩) (p' := some (w.heap.size, 0)) r.o hob hp' hk'.symm (Nat.lt_succ_self _) (fun k hk _ => e1 k hk) (by intro b q h; simp at h; exact .inr (by omega))
          refine ⟨_, _, _, .inl (fin hrun), T, RelO.bump r.o hob hp' hk' rfl (Nat.lt_succ_self _) (fun k hk _ => e1 k hk) (.inr (Nat.le_refl _)) hbs hnew ?_ (fun i hi => ?_) (fun i j hi hj => ?_), .ref _ _ _ _ ⟨.arr, ob.gen + 1, y.size, len + n, appRow len off ob.row rows⟩ (some (w.heap.size, 0)) _ cap' (by simp [lt_of_some hob]) (by simp [ltp_of_some hp']) rfl (Nat.le_refl _) (fun _ => .inr ⟨w.heap.size, 0, _, e, rfl, by simp, hnew, ?_, hcap⟩), ((Below.refl base w).drew).alloc hbs _⟩
          · simp [flat_length, Nat.add_mul]
          · by_cases hik : i < len
            · show (appRow len off ob.row rows i).length = _
              rw [appRow_lt hik]; exact hlen i hik
            · show (appRow len off ob.row rows i).length = _
              rw [appRow_ge (by omega)]; exact S.len _ (by have : i < len + n := hi; omega)
          · have hj' : j < y.size := hj
            have hi' : i < len + n := hi
            show ∃ v, ((flat len y.size vo).toArray ++ (flat n y.size vs).toArray ++ rest)[0 + (i * y.size + j)]? = some v ∧ RelV _ _ _ _ (nth (appRow len off ob.row rows i) j) v
            by_cases hik : i < len
            · rw [appRow_lt hik]
              refine ⟨vo i j, ?_, (hrel i j hik hj').tr T⟩
              have hgt := flat_get (vs := vo) hik hj'
              have hlt' := (List.getElem?_eq_some_iff.1 hgt).1
              rw [Nat.zero_add, Array.getElem?_append_left (by simp; omega), Array.getElem?_append_left (by simpa using hlt')]
              simpa using hgt
            · rw [appRow_ge (by omega)]
              refine ⟨vs (i - len) j, ?_, (S.rel (i - len) j (by omega) hj').tr T⟩
              have hgt := flat_get (vs := vs) (show i - len < n by omega) hj'
              have hlt' := (List.getElem?_eq_some_iff.1 hgt).1
              have e2 : i * y.size + j - (flat len y.size vo).length = (i - len) * y.size + j := by
                rw [flat_length]
                have : i = (i - len) + len := by omega
                conv => lhs; rw [this, Nat.add_mul]
                omega
              have e3 : (flat len y.size vo).length ≤ i * y.size + j := by
                rw [flat_length]
                have := Nat.mul_le_mul_right y.size (show len ≤ i by omega); omega
              rw [Nat.zero_add, Array.getElem?_append_left (by simp; omega), Array.getElem?_append_right (by simpa using e3)]
              simp only [List.size_toArray]
              rw [e2]; simpa using hgt
          · simp only [Nat.zero_add, Array.size_append, List.size_toArray, flat_length, hrest]
            rw [← Nat.add_mul, ← Nat.add_mul]; exact Nat.mul_le_mul_right _ (by omega)
        rcases hat hg with ⟨h1, h2⟩ | ⟨b, q, c, el, hpp, ha0, hb, hcs, hlc⟩
        · subst h1
          subst h2
          by_cases hn : n = 0
          · subst hn
            -- nothing to nothing
            have hrun := run_append_none (ty := o.type) ht hy w a0 ax capx
            cases hpo : p' with
            | none =>
              subst hpo
              have T := Tr.bump (o' := ⟨.arr, ob.gen + 1, y.size, 0 + 0, appRow 0 off ob.row rows⟩) (p' := none) r.o hob hp' hk'.symm (Nat.lt_succ_self _) (fun k hk _ => rfl) (by intro b q h; cases h)
              have hset : pl.set l none = pl := by
                apply List.ext_getElem?; intro i
                by_cases hi : l = i
                · subst hi; rw [hp']; simp [ltp_of_some hp']
                · rw [List.getElem?_set_ne hi]
              rw [hset] at T
              refine ⟨_, w, pl, .inl (fin hrun), T, ?_, .ref _ _ _ _ ⟨.arr, ob.gen + 1, y.size, 0 + 0, appRow 0 off ob.row rows⟩ none a0 0 (by simp [lt_of_some hob]) hp' rfl (Nat.le_refl _) (fun _ => .inl ⟨rfl, rfl⟩), Below.refl _ _⟩
              refine ⟨by simp [r.o.len], r.o.inj, fun l1 o1 ho1 h1 => ?_, fun l1 o1 b q ho1 h1 => ?_⟩
              · by_cases e1 : l = l1
                · subst e1
                  rw [List.getElem?_set_self (lt_of_some hob)] at ho1; cases ho1; rfl
                · rw [List.getElem?_set_ne e1] at ho1; exact r.o.noRow l1 o1 ho1 h1
              · by_cases e1 : l = l1
                · subst e1; rw [hp'] at h1; cases h1
                · rw [List.getElem?_set_ne e1] at ho1
                  obtain ⟨g1, x⟩ := r.o.at_ l1 o1 b q ho1 h1
                  exact ⟨g1, x.to rfl rfl rfl rfl (fun _ _ => rfl) fun i j v _ _ hr => hr.tr T⟩
            | some bq =>
              obtain ⟨b, q⟩ := bq
              subst hpo
              obtain ⟨g1, x⟩ := r.o.at_ l ob b q hob hp'
              obtain ⟨c, el, g2, g3, g4, g5⟩ := x.cells hk'
              have T := Tr.bump (o' := ⟨.arr, ob.gen + 1, y.size, 0 + 0, appRow 0 off ob.row rows⟩) (p' := some (b, q)) r.o hob hp' hk'.symm (Nat.lt_succ_self _) (fun k hk _ => rfl) (by intro b1 q1 h; simp at h; exact .inl ⟨q, by rw [h.1]⟩)
              exact ⟨_, w, _, .inl (fin hrun), T, RelO.bump r.o hob hp' hk' rfl (Nat.lt_succ_self _) (fun k hk _ => rfl) (.inl ⟨q, rfl⟩) (g1 hro) g2 (by simp; omega) (fun i hi => by simp at hi) (fun i j hi => by simp at hi),
                .ref _ _ _ _ ⟨.arr, ob.gen + 1, y.size, 0 + 0, appRow 0 off ob.row rows⟩ (some (b, q)) a0 0 (by simp [lt_of_some hob]) (by simp [ltp_of_some hp']) rfl (Nat.le_refl _) (fun _ => .inl ⟨rfl, rfl⟩), Below.refl _ _⟩
          · exact grown (fun _ _ => Go.undef) (fun w' _ => by cases a0 <;> simp [Builtin.firstCells, loadCells, loadCellsFrom, flat]) (fun i hi => by omega) (fun i j hi => by omega) (by omega)
        · subst hpp
          obtain ⟨hbase, x⟩ := r.o.at_ l ob b q hob hp'
          have hbase := hbase hro
          obtain ⟨c', el', hb', hcsz, hrl, hrow⟩ := x.cells hk'
          rw [hb] at hb'; cases hb'
          rw [hosz] at hcs hcsz hrl hrow ha0
          by_cases hroom : len + n ≤ cap0
          · -- in place
            have hfit : q + off * y.size + len * y.size + n * y.size ≤ c.size := by
              have h1 := Nat.mul_le_mul_right y.size (show off + (len + n) ≤ off + cap0 by omega)
              simp only [Nat.add_mul] at h1 hcs
              omega
            obtain ⟨w', c', g1, g2, g3, g4, g5, g6, g7, g8, g9⟩ := run_storeCells (P := P) b el (flat n y.size vs) 0 (q + off * y.size + len * y.size) w c hb (by simp [flat_length]; omega) (fun k hk => by
              rw [flat_length] at hk
              obtain ⟨k1, k2, k3⟩ := div_lt hk
              have hg := flat_get (vs := vs) k1 k2
              rw [k3] at hg
              have : nthV (flat n y.size vs) k = vs (k / y.size) (k % y.size) := by simp [nthV, List.getD_eq_getElem?_getD, hg]
              rw [this]
              refine oneCell_ok (S.rel _ _ k1 k2) ?_
              have h2 := hone _ k1
              rw [List.all_eq_true] at h2
              refine h2 _ ?_
              have h3 : k % y.size < (rows (k / y.size)).length := by rw [S.len _ k1]; exact k2
              simp only [nth, List.getD_eq_getElem?_getD, List.getElem?_eq_getElem h3, Option.getD_some]
              exact List.getElem_mem h3)
            subst ha0
            have hrun := run_append_in (ty := o.type) ht hy w b (q + off * y.size) len cap0 ax n capx (flat n y.size vs) (by rw [← S.v]; exact S.first w rfl) hroom g1
            have he : ∀ k, k < w.heap.size → (∀ q1, (some (b, q) : Pl) ≠ some (k, q1)) → w'.heap[k]? = w.heap[k]? := fun k _ hk => g5 k (fun hkb => hk q (by rw [hkb]))
            have T := Tr.bump (o' := ⟨.arr, ob.gen + 1, y.size, len + n, appRow len off ob.row rows⟩) (p' := some (b, q + off * y.size)) r.o hob hp' hk'.symm (Nat.lt_succ_self _) he (by intro b1 q1 h; simp at h; exact .inl ⟨q, by rw [h.1]⟩)
            refine ⟨_, w', _, .inl (fin hrun), T, RelO.bump r.o hob hp' hk' rfl (Nat.lt_succ_self _) he (.inl ⟨q, rfl⟩) hbase g2 ?_ (fun i hi => ?_) (fun i j hi hj => ?_), .ref _ _ _ _ ⟨.arr, ob.gen + 1, y.size, len + n, appRow len off ob.row rows⟩ (some (b, q + off * y.size)) _ cap0 (by simp [lt_of_some hob]) (by simp [ltp_of_some hp']) rfl (Nat.le_refl _) (fun _ => .inr ⟨b, q + off * y.size, c', el, rfl, by simp, g2, ?_, hroom⟩), below_of hbase g5 g6 g7 g8 g9⟩
            · rw [g3]; simp only [Nat.add_mul]; omega
            · by_cases hik : i < len
              · show (appRow len off ob.row rows i).length = _
                rw [appRow_lt hik]; exact hrl _ (by omega)
              · show (appRow len off ob.row rows i).length = _
                rw [appRow_ge (by omega)]; exact S.len _ (by have : i < len + n := hi; omega)
            · have hj' : j < y.size := hj
              have hi' : i < len + n := hi
              show ∃ v, c'[q + off * y.size + (i * y.size + j)]? = some v ∧ RelV _ _ _ _ (nth (appRow len off ob.row rows i) j) v
              rw [g4]
              simp only [flat_length, Nat.add_zero]
              by_cases hik : i < len
              · rw [appRow_lt hik, if_neg]
                · obtain ⟨v, hv, hr⟩ := hrow (off + i) j (by omega) hj'
                  refine ⟨v, ?_, hr.tr T⟩
                  rw [← hv]; congr 1; rw [Nat.add_mul]; omega
                · have := Nat.mul_le_mul_right y.size (show i + 1 ≤ len from hik); rw [Nat.add_mul] at this; omega
              · have h1 := Nat.mul_le_mul_right y.size (show len ≤ i by omega)
                have h2 : i * y.size = (i - len) * y.size + len * y.size := by rw [← Nat.add_mul]; congr 1; omega
                have h3 := Nat.mul_le_mul_right y.size (show (i - len) + 1 ≤ n by omega)
                rw [Nat.add_mul] at h3
                rw [appRow_ge (by omega), if_pos (by omega)]
                refine ⟨vs (i - len) j, ?_, (S.rel (i - len) j (by omega) hj').tr T⟩
                rw [show q + off * y.size + (i * y.size + j) - (q + off * y.size + len * y.size) = (i - len) * y.size + j by omega]
                exact flat_get (by omega) hj'
            · rw [g3]; simp only [Nat.zero_add, Nat.add_mul] at hcs ⊢; omega
          · refine grown (fun i j => (c[q + ((off + i) * y.size + j)]?).getD Go.undef) (fun w' hw => ?_) (fun i hi => hrl _ (by omega)) (fun i j hi hj => ?_) (by omega)
            · have S0 : Src Z s.h pl w (.slice a0 len cap0) len y.size (fun k => ob.row (off + k)) a0 cap0 (fun i j => (c[q + ((off + i) * y.size + j)]?).getD Go.undef) := by
                refine ⟨rfl, fun i hi => hrl _ (by omega), fun i j hi hj => ⟨b, q + off * y.size, ha0, ?_⟩, fun i j hi hj => ?_⟩
                · obtain ⟨u, hu, hr⟩ := hrow (off + i) j (by omega) hj
                  rw [cell_of_row w b _ c el (0, 0) hb, show q + off * y.size + (i * y.size + j) = q + ((off + i) * y.size + j) by rw [Nat.add_mul]; omega, hu]; rfl
                · obtain ⟨u, hu, hr⟩ := hrow (off + i) j (by omega) hj
                  simp only [hu, Option.getD_some]; exact hr
              exact S0.first w' hw
            · obtain ⟨u, hu, hr⟩ := hrow (off + i) j (by omega) hj
              simp only [hu, Option.getD_some]; exact hr
      · cases h
  · cases h
theorem append_nil_ok (hL : LayOk P L) {t : TypeId} {x0 x : Operand} (ho : o.op = .call ⟨.builtin .append, #[x0, x], #[t, t]⟩) (hx0 : evalO s.fr x0 = .nil) {p : Prop} {h' : List Ob} {d : D} (h : papp L s.h t .nil (evalO s.fr x) = some (p, h', d)) (hp : p) : EffOk P base nt o s h' d :=
  (append_nil_ok0 hL ho hx0 h hp).up (by simp [calm, ho])
theorem append_ref_ok (hL : LayOk P L) {t : TypeId} {x0 x : Operand} {l g off len : Nat} (ho : o.op = .call ⟨.builtin .append, #[x0, x], #[t, t]⟩) (hx0 : evalO s.fr x0 = .ref l g off len) {p : Prop} {h' : List Ob} {d : D} (h : papp L s.h t (.ref l g off len) (evalO s.fr x) = some (p, h', d)) (hp : p) : EffOk P base nt o s h' d :=
  (append_ref_ok0 hL ho hx0 h hp).up (by simp [calm, ho])
end
end Go.Fg
namespace Go.Fg
set_option linter.unusedSimpArgs false
set_option linter.unusedVariables false
open Go.RowKit (Below)
variable {Z : Nat → Prop}

/-- An array of values stands to a list of abstract cells. -/
def RelL (Z : Nat → Prop) (h : List Ob) (pl : List Pl) (w : World) (cs : List D) (vs : Array Value) : Prop := vs.size = cs.length ∧ ∀ i, i < cs.length → RelV Z h pl w (nth cs i) (nthV vs.toList i)

theorem fold_set (off : Nat) : ∀ (l : List Value) (n : Nat) (c : Array Value), ((l.zipIdx n).foldl (fun (cs : Array Value) (x : Value × Nat) => cs.setIfInBounds (off + x.2) x.1) c).size = c.size ∧
    ∀ k, (((l.zipIdx n).foldl (fun (cs : Array Value) (x : Value × Nat) => cs.setIfInBounds (off + x.2) x.1) c)[k]?) = if off + n ≤ k ∧ k < off + n + l.length ∧ k < c.size then l[k - (off + n)]? else c[k]?
  | [], n, c => ⟨rfl, fun k => by rw [if_neg (by simp; omega)]; rfl⟩
  | v :: l, n, c => by
    obtain ⟨h1, h2⟩ := fold_set off l (n + 1) (c.setIfInBounds (off + n) v)
    simp only [List.zipIdx_cons, List.foldl_cons]
    refine ⟨by rw [h1]; simp, fun k => ?_⟩
    rw [h2 k]
    simp only [Array.size_setIfInBounds, List.length_cons]
    by_cases h3 : k = off + n
    · subst h3
      rw [if_neg (by omega), Array.getElem?_setIfInBounds_self]
      by_cases h4 : off + n < c.size
      · rw [if_pos h4, if_pos ⟨by omega, by omega, h4⟩]; simp
      · rw [if_neg h4, if_neg (by omega)]; simp; omega
    · rw [Array.getElem?_setIfInBounds_ne (by omega)]
      by_cases h5 : off + n ≤ k ∧ k < off + n + (l.length + 1) ∧ k < c.size
      · rw [if_pos h5, if_pos (by omega)]
        obtain ⟨m, rfl⟩ : ∃ m, k = off + n + (m + 1) := ⟨k - (off + n) - 1, by omega⟩
        rw [show off + n + (m + 1) - (off + (n + 1)) = m by omega, show off + n + (m + 1) - (off + n) = m + 1 by omega]; simp
      · rw [if_neg h5, if_neg (by omega)]

theorem fold_arr (off : Nat) (v : Array Value) (c : Array Value) : v.zipIdx.foldl (fun (cs : Array Value) (x : Value × Nat) => cs.setIfInBounds (off + x.2) x.1) c = (v.toList.zipIdx 0).foldl (fun (cs : Array Value) (x : Value × Nat) => cs.setIfInBounds (off + x.2) x.1) c := by
  rw [← Array.foldl_toList, Array.toList_zipIdx]

theorem RelL.splice {h : List Ob} {pl : List Pl} {w : World} {cs ds : List D} {vs us : Array Value} {off : Nat} (r : RelL Z h pl w cs vs) (q : RelL Z h pl w ds us) (hl : off + ds.length ≤ cs.length) :
    RelL Z h pl w (splice cs off ds) (us.zipIdx.foldl (fun (cs : Array Value) (x : Value × Nat) => cs.setIfInBounds (off + x.2) x.1) vs) := by
  obtain ⟨h1, h2⟩ := fold_set off us.toList 0 vs
  rw [fold_arr]
  refine ⟨by rw [h1, r.1, splice_length hl], fun i hi => ?_⟩
  rw [splice_length hl] at hi
  rw [nth_splice hl]
  have e : nthV (List.foldl (fun (cs : Array Value) (x : Value × Nat) => cs.setIfInBounds (off + x.2) x.1) vs (us.toList.zipIdx 0)).toList i = if off ≤ i ∧ i < off + ds.length then nthV us.toList (i - off) else nthV vs.toList i := by
    simp only [nthV, List.getD_eq_getElem?_getD, Array.getElem?_toList, h2 i, Nat.add_zero, Array.length_toList, q.1, r.1]
    by_cases h3 : off ≤ i ∧ i < off + ds.length
    · rw [if_pos ⟨h3.1, h3.2, hi⟩, if_pos h3]
    · rw [if_neg (by omega), if_neg h3]
  rw [e]
  split
  · exact q.2 _ (by omega)
  · exact r.2 _ hi

/-- The cells of a composite literal. -/
def pfill (place : Nat → Option (Nat × Nat)) (cells : List D) : List (Nat × Option (List D)) → Option (List D)
  | [] => some cells
  | (i, some ds) :: rest => match place i with
    | some (off, size) => bif Nat.beq ds.length size && Nat.ble (off + ds.length) cells.length then pfill place (splice cells off ds) rest else none
    | none => none
  | (_, none) :: _ => none

theorem pfill_ok {h : List Ob} {pl : List Pl} {w : World} (place : Nat → Option (Nat × Nat)) (ev : Operand → D) (a : Act) (hev : ∀ x, RelV Z h pl w (ev x) (a.eval x)) : ∀ (parts : List (Nat × Operand)) (cells cells' : List D) (vs : Array Value), RelL Z h pl w cells vs →
    pfill place cells (parts.map fun x => (x.1, cellsD (ev x.2))) = some cells' → ∃ vs', Instr.fill place vs (parts.map fun x => (x.1, a.eval x.2)) = some vs' ∧ RelL Z h pl w cells' vs'
  | [], cells, cells', vs, r, hh => by simp [pfill] at hh; subst hh; exact ⟨vs, rfl, r⟩
  | (i, x) :: parts, cells, cells', vs, r, hh => by
    simp only [List.map_cons] at hh ⊢
    cases hd : cellsD (ev x) with
    | none => rw [hd] at hh; simp [pfill] at hh
    | some ds =>
      rw [hd] at hh
      simp only [pfill] at hh
      cases hp : place i with
      | none => rw [hp] at hh; cases hh
      | some os =>
        obtain ⟨off, size⟩ := os
        rw [hp] at hh
        obtain ⟨hc, hh⟩ := cond_none hh
        simp only [Bool.and_eq_true, Nat.beq_eq, Nat.ble_eq] at hc
        obtain ⟨hc1, hc2⟩ := cellsD_ok (hev x) hd
        have q : RelL Z h pl w ds (a.eval x).cells := ⟨hc1, fun i hi => (hc2 i hi).1⟩
        obtain ⟨vs', h1, h2⟩ := pfill_ok place ev a hev parts _ _ _ (r.splice q hc.2) hh
        refine ⟨vs', ?_, h2⟩
        simp only [Instr.fill, hp]
        rw [if_neg (by simp only [hc1, r.1]; simp; omega)]
        exact h1

theorem zero_rel {h : List Ob} {pl : List Pl} {w : World} {y : Ty} {z : Value} (hz : z.cells.toList = y.zero) : RelL Z h pl w (y.zero.map ofCell) z.cells := by
  refine ⟨by rw [← hz]; simp, fun i hi => ?_⟩
  rw [← hz] at hi ⊢
  have hi' : i < z.cells.size := by simpa using hi
  refine .cl _ _ ?_
  simp only [nth, nthV, List.getD_eq_getElem?_getD, List.getElem?_map, Array.getElem?_toList, Array.getElem?_eq_getElem hi', Option.map_some, Option.getD_some]
  exact cl_ofCell _ _ _

def pplaces (L : Lay) : List (Nat × TypeId) → Option (List (Nat × Nat))
  | [] => some []
  | (off, u) :: r => match ty L u, pplaces L r with
    | some y, some ps => some ((off, y.size) :: ps)
    | _, _ => none
theorem run_places' {P : Program} {L : Lay} (hL : LayOk P L) (w : World) : ∀ (fs : List Field) (ps : List (Nat × Nat)), pplaces L (fs.map fun f => (f.offset, f.type)) = some ps → (fs.mapM fun f => Prod.mk f.offset <$> sizeOf f.type).run P w = .ok ps w
  | [], ps, h => by simp [pplaces] at h; subst h; simp
  | f :: fs, ps, h => by
    simp only [List.map_cons, pplaces] at h
    split at h
    · rename_i y ps' hy hps
      simp only [Option.some.injEq] at h
      subst h
      simp [List.mapM_cons, (hL _ _ hy).sizeOf, run_places' hL w fs ps' hps]
    · cases h

def pbuild (L : Lay) (fr : List (Nat × D)) (t : TypeId) (parts : List (Nat × Operand)) : Option D :=
  match ty L t with
  | some y => match y.k with
    | .struct fs => match pplaces L fs with
      | some ps => match pfill (fun i => ps[i]?) (y.zero.map ofCell) (parts.map fun x => (x.1, cellsD (evalO fr x.2))) with
        | some cs => some (.agg cs)
        | none => none
      | none => none
    | .array _ e => match ty L e with
      | some ye => match pfill (fun i => some (i * ye.size, ye.size)) (y.zero.map ofCell) (parts.map fun x => (x.1, cellsD (evalO fr x.2))) with
        | some cs => some (.agg cs)
        | none => none
      | none => none
    | _ => none
  | none => none

section
variable {P : Program} {L : Lay} {base nt : Nat} {s : St} {o : Oper}

theorem RelL.agg {h : List Ob} {pl : List Pl} {w : World} {cs : List D} {vs : Array Value} (r : RelL Z h pl w cs vs) : RelV Z h pl w (.agg cs) (.agg vs) := by
  have := RelV.agg (h := h) (pl := pl) (w := w) cs vs.toList (by simpa using r.1) r.2
  simpa using this

theorem build_ok (hL : LayOk P L) {t : TypeId} {parts : Array (Nat × Operand)} (ho : o.op = .build t parts) {d : D} (h : pbuild L s.fr t parts.toList = some d) : PureOk P base nt o s d := by
  intro Z pl a w r
  unfold pbuild at h
  split at h
  · rename_i y hy'
    have hy := hL _ _ hy'
    obtain ⟨z, hz, hzr⟩ := hy.zeroValue
    split at h
    · rename_i fs hk
      split at h
      · rename_i ps hps
        split at h
        · rename_i cs hcs
          simp only [Option.some.injEq] at h
          subst h
          obtain ⟨g, hg, hm⟩ := under_struct hy hk
          obtain ⟨vs', h1, h2⟩ := pfill_ok (h := s.h) (pl := pl) (w := w) _ (evalO s.fr) a (fun x => r.eval x) parts.toList _ _ _ (zero_rel hz) hcs
          refine ⟨_, h2.agg, fun w' _ => ?_⟩
          have hpl := run_places' hL w' g.toList ps (by rw [hm]; exact hps)
          have h1' : Instr.fill (fun x => ps[x]?) z.cells (List.map (fun x => (x.fst, a.eval x.snd)) parts.toList) = some vs' := h1
          simp [execOp, ho, Instr.build, hzr, run_underlying hg, Array.mapM_eq_mapM_toList, hpl, h1']
        · cases h
      · cases h
    · rename_i n e hk
      split at h
      · rename_i ye hye
        split at h
        · rename_i cs hcs
          simp only [Option.some.injEq] at h
          subst h
          obtain ⟨vs', h1, h2⟩ := pfill_ok (h := s.h) (pl := pl) (w := w) _ (evalO s.fr) a (fun x => r.eval x) parts.toList _ _ _ (zero_rel hz) hcs
          refine ⟨_, h2.agg, fun w' _ => ?_⟩
          simp [execOp, ho, Instr.build, hzr, run_underlying (under_array hy hk), (hL _ _ hye).sizeOf, h1]
        · cases h
      · cases h
    · cases h
  · cases h

theorem nth_append_lt {a b : List D} {i : Nat} (h : i < a.length) : nth (a ++ b) i = nth a i := by simp only [nth, List.getD_eq_getElem?_getD, List.getElem?_append_left h]
theorem nth_append_ge {a b : List D} {i : Nat} (h : a.length ≤ i) : nth (a ++ b) i = nth b (i - a.length) := by simp only [nth, List.getD_eq_getElem?_getD, List.getElem?_append_right h]
theorem rep_length (n : Nat) (zs : List D) : (List.replicate n zs).flatten.length = n * zs.length := by simp
theorem nth_rep (zs : List D) : ∀ (n i : Nat), i < n * zs.length → nth (List.replicate n zs).flatten i = nth zs (i % zs.length)
  | 0, i, h => by simp at h
  | n + 1, i, h => by
    rw [List.replicate_succ, List.flatten_cons]
    rw [Nat.add_mul] at h
    by_cases hi : i < zs.length
    · rw [nth_append_lt hi, Nat.mod_eq_of_lt hi]
    · rw [nth_append_ge (by omega), nth_rep zs n _ (by omega)]
      congr 1
      rw [Nat.mod_eq_sub_mod (by omega : zs.length ≤ i)]

def pbsRow (len sz : Nat) (cells : List D) : Nat → List D := bif Nat.beq len 1 then fun _ => cells else fun k => (cells.drop (k * sz)).take sz
def pbuildSlice (L : Lay) (fr : List (Nat × D)) (h : List Ob) (t : TypeId) (len : Nat) (parts : List (Nat × Operand)) : Option (Prop × List Ob × D) :=
  match ty L t with
  | some ⟨.slice e, _, _, _⟩ => match ty L e with
    | some y => match pfill (fun i => some (i * y.size, y.size)) (List.replicate len (y.zero.map ofCell)).flatten (parts.map fun x => (x.1, cellsD (evalO fr x.2))) with
      | some cs => some (len * y.size ≤ 16777216 ∧ y.zero.length = y.size, h ++ [⟨.arr, 0, y.size, len, pbsRow len y.size cs⟩], .ref h.length 0 0 len)
      | none => none
    | none => none
  | _ => none
theorem pfill_length (place : Nat → Option (Nat × Nat)) : ∀ (ps : List (Nat × Option (List D))) (cells cells' : List D), pfill place cells ps = some cells' → cells'.length = cells.length
  | [], cells, cells', h => by simp [pfill] at h; rw [h]
  | (i, none) :: ps, cells, cells', h => by simp [pfill] at h
  | (i, some ds) :: ps, cells, cells', h => by
    simp only [pfill] at h
    split at h
    · obtain ⟨hc, h⟩ := cond_none h
      simp only [Bool.and_eq_true, Nat.beq_eq, Nat.ble_eq] at hc
      rw [pfill_length place ps _ _ h, splice_length hc.2]
    · cases h

theorem buildSlice_ok (hL : LayOk P L) {t : TypeId} {len : Nat} {parts : Array (Nat × Operand)} (ho : o.op = .buildSlice t len parts) {p : Prop} {h' : List Ob} {d : D} (h : pbuildSlice L s.fr s.h t len parts.toList = some (p, h', d)) (hp : p) : EffOk P base nt o s h' d := by
  intro Z pl a w r hbs
  unfold pbuildSlice at h
  split at h
  · rename_i e _ _ _ he
    split at h
    · rename_i y hy'
      split at h
      · rename_i cs hcs
        simp only [Option.some.injEq, Prod.mk.injEq] at h
        obtain ⟨rfl, rfl, rfl⟩ := h
        obtain ⟨h24, hzl⟩ := hp
        have hy := hL _ _ hy'
        obtain ⟨z, hz, hzr⟩ := hy.zeroValue
        have hzs : z.cells.size = y.size := by rw [← hzl, ← hz]; simp
        have ht := under_slice (hL _ _ he) rfl
        have zr := zero_rel (Z := Z) (h := s.h) (pl := pl) (w := w) hz
        have hml : (y.zero.map ofCell).length = y.size := by simp [hzl]
        have hlen : cs.length = len * y.size := by rw [pfill_length _ _ _ _ hcs, rep_length, hml]
        -- the zeros
        have init : ∀ zc : Array Value, (len * y.size = 0 → zc = #[]) → (len * y.size ≠ 0 → zc = z.cells) → RelL Z s.h pl w (List.replicate len (y.zero.map ofCell)).flatten ((Array.range (len * y.size)).map (zc[· % zc.size]!)) := by
          intro zc h0 h1
          refine ⟨by rw [rep_length, hml]; simp, fun i hi => ?_⟩
          rw [rep_length, hml] at hi
          have hne : len * y.size ≠ 0 := by omega
          have hzc := h1 hne
          subst hzc
          have hpos : 0 < y.size := Nat.pos_of_ne_zero (fun e => hne (by rw [e]; simp))
          rw [nth_rep _ _ _ (by rw [hml]; exact hi), hml]
          have h2 := zr.2 (i % y.size) (by rw [hml]; exact Nat.mod_lt _ hpos)
          have h3 : i % y.size < z.cells.size := by rw [hzs]; exact Nat.mod_lt _ hpos
          have : nthV (Array.map (fun x => z.cells[x % z.cells.size]!) (Array.range (len * y.size))).toList i = nthV z.cells.toList (i % y.size) := by
            simp only [nthV, List.getD_eq_getElem?_getD, Array.getElem?_toList, Array.getElem?_map, Array.getElem?_range, hi, if_true, Option.map_some, Option.getD_some, hzs]
            rw [getElem!_pos z.cells _ h3, Array.getElem?_eq_getElem h3]; rfl
          rw [this]; exact h2
        have fin : ∀ vs' : Array Value, RelL Z s.h pl w cs vs' → (execOp a.eval o).run P w = .ok (.value (.slice (some ⟨w.heap.size, 0, none⟩) len len)) (w.alloc (.cells vs' e)) →
            ∃ v w' pl', ((execOp a.eval o).run P w = .ok (.value v) w' ∨ ((execOp a.eval o).run P w = .ok .skip w' ∧ v = Go.undef)) ∧ Tr s.h pl w (s.h ++ [⟨.arr, 0, y.size, len, pbsRow len y.size cs⟩]) pl' w' ∧
              RelO Z base (s.h ++ [⟨.arr, 0, y.size, len, pbsRow len y.size cs⟩]) pl' w' ∧ RelV Z (s.h ++ [⟨.arr, 0, y.size, len, pbsRow len y.size cs⟩]) pl' w' (.ref s.h.length 0 0 len) v ∧ Below base w w' ∧ (calm o = true → Ext w w') := by
          intro vs' hr hrun
          have e1 : ∀ b, b < w.heap.size → (w.alloc (.cells vs' e)).heap[b]? = w.heap[b]? := fun b hb => heap_push_old w _ b hb
          have hnew : (w.alloc (.cells vs' e)).heap[w.heap.size]? = some (.cells vs' e (0, 0)) := heap_alloc_new w _
          have hpl : pl.length = s.h.length := r.o.len
          have T : Tr s.h pl w (s.h ++ [⟨.arr, 0, y.size, len, pbsRow len y.size cs⟩]) (pl ++ [some (w.heap.size, 0)]) (w.alloc (.cells vs' e)) := Tr.push r.o e1 _ _ (by intro b q h; simp at h; omega)
          have hrow : ∀ i, i < len → (pbsRow len y.size cs i).length = y.size ∧ ∀ j, j < y.size → nth (pbsRow len y.size cs i) j = nth cs (i * y.size + j) := by
            intro i hi
            unfold pbsRow
            by_cases h1 : len = 1
            · subst h1
              have : i = 0 := by omega
              subst this
              simp [hlen]
            · have : Nat.beq len 1 = false := by rw [← Bool.not_eq_true, Nat.beq_eq]; exact h1
              rw [this]
              have h2 := Nat.mul_le_mul_right y.size (show i + 1 ≤ len from hi)
              rw [Nat.add_mul] at h2
              refine ⟨by simp [hlen]; omega, fun j hj => ?_⟩
              simp only [cond_false]
              rw [nth_take hj, nth_drop]
          refine ⟨_, _, _, .inl hrun, T, RelO.push r.o e1 _ rfl (Nat.le_refl _) hbs hnew (by simp [hr.1, hlen]) (fun i hi => (hrow i hi).1) (fun i j hi hj => ?_), .ref _ _ _ _ ⟨.arr, 0, y.size, len, pbsRow len y.size cs⟩ (some (w.heap.size, 0)) _ len (by simp) (by rw [← hpl]; simp) rfl (Nat.le_refl _) (fun _ => .inr ⟨w.heap.size, 0, vs', e, rfl, by simp, hnew, by simp [hr.1, hlen], Nat.le_refl _⟩), below_alloc hbs _, fun _ => e1⟩
          have hj' : j < y.size := hj
          have hi' : i < len := hi
          have h2 := Nat.mul_le_mul_right y.size (show i + 1 ≤ len from hi')
          rw [Nat.add_mul] at h2
          have hlt : i * y.size + j < cs.length := by omega
          refine ⟨nthV vs'.toList (i * y.size + j), ?_, ?_⟩
          · have : i * y.size + j < vs'.size := by rw [hr.1]; exact hlt
            simp only [Nat.zero_add, nthV, List.getD_eq_getElem?_getD, Array.getElem?_toList, Array.getElem?_eq_getElem this, Option.getD_some]
          · show RelV _ _ _ _ (nth (pbsRow len y.size cs i) j) _
            rw [(hrow i hi').2 j hj']
            exact (hr.2 _ hlt).tr T
        by_cases h0 : len * y.size = 0
        · obtain ⟨vs', h1, h2⟩ := pfill_ok (h := s.h) (pl := pl) (w := w) _ (evalO s.fr) a (fun x => r.eval x) parts.toList _ _ _ (init #[] (fun _ => rfl) (fun h => absurd h0 h)) hcs
          rw [h0] at h1
          have e0 : Array.map (fun x => (#[] : Array Value)[x % (#[] : Array Value).size]!) (Array.range 0) = #[] := by simp
          rw [e0] at h1
          have e1 : ∀ f : Nat → Value, Array.map f (Array.range 0) = #[] := fun f => Array.eq_empty_of_size_eq_zero (by simp)
          refine fin vs' h2 ?_
          simp [execOp, ho, Instr.buildSlice, run_underlying ht, hy.sizeOf, h0, newRow, h1, e1]
        · obtain ⟨vs', h1, h2⟩ := pfill_ok (h := s.h) (pl := pl) (w := w) _ (evalO s.fr) a (fun x => r.eval x) parts.toList _ _ _ (init z.cells (fun h => absurd h h0) (fun _ => rfl)) hcs
          refine fin vs' h2 ?_
          have h24' : ¬ (16777216 < len * y.size) := by omega
          simp [execOp, ho, Instr.buildSlice, run_underlying ht, hy.sizeOf, hzr, h0, h24', newRow, h1]
      · cases h
    · cases h
  · cases h
end
end Go.Fg
namespace Go.Fg
set_option linter.unusedSimpArgs false
set_option linter.unusedVariables false
open Go.RowKit (Below)
variable {Z : Nat → Prop}

def pbnd (fr : List (Nat × D)) (dflt : Int) : Option Operand → Option Int
  | none => some dflt
  | some x => match evalO fr x with
    | .raw (.int _ i) => some i
    | _ => none

theorem run_bound {P : Program} (w : World) {k : IntKind} {i : Int} {y : Nat} {c : BoundsCode} (h0 : 0 ≤ i) (h1 : i ≤ y) : (Instr.sliceBound (.int k i) y c).run P w = .ok i.toNat w := by
  simp [Instr.sliceBound, asIntOf, h0, h1]

theorem run_bounds {P : Program} {base nt : Nat} {s : St} {pl : List Pl} {a : Act} {w0 : World} (r : Rel Z base nt s pl a w0) (w : World) (isSlice : Bool) (len cap : Nat) (lo hi : Option Operand) {l u : Int} (hl : pbnd s.fr 0 lo = some l) (hu : pbnd s.fr len hi = some u)
    (h0 : 0 ≤ l) (h1 : l ≤ u) (h2 : u ≤ len) (hlc : len ≤ cap) : (Instr.sliceBounds isSlice len cap (lo.map a.eval) (hi.map a.eval) none).run P w = .ok (l.toNat, u.toNat, cap) w := by
  have get : ∀ (x : Operand) (d : Int) (i : Int), pbnd s.fr d (some x) = some i → ∃ k, a.eval x = .int k i := by
    intro x d i h
    have hr := r.eval x
    simp only [pbnd] at h
    generalize evalO s.fr x = dx at *
    split at h
    · rename_i k j
      simp only [Option.some.injEq] at h
      subst h
      exact ⟨k, inv_raw hr⟩
    · cases h
  have fst : ∀ (v : Value) (m : Nat) (c : BoundsCode), (∃ k, v = .int k u) → u ≤ m → (Instr.sliceBound v m c).run P w = .ok u.toNat w := by
    rintro v m c ⟨k, rfl⟩ hm; exact run_bound w (by omega) hm
  have snd : ∀ (v : Value) (c : BoundsCode), (∃ k, v = .int k l) → (Instr.sliceBound v u.toNat c).run P w = .ok l.toNat w := by
    rintro v c ⟨k, rfl⟩; exact run_bound w h0 (by omega)
  cases lo with
  | none =>
    simp only [pbnd, Option.some.injEq] at hl
    subst hl
    cases hi with
    | none => simp only [pbnd, Option.some.injEq] at hu; subst hu; simp [Instr.sliceBounds]
    | some x =>
      have hx := get x len u hu
      cases isSlice <;> simp [Instr.sliceBounds, fst _ cap _ hx (by omega)]
  | some z =>
    have hz := get z 0 l hl
    cases hi with
    | none =>
      simp only [pbnd, Option.some.injEq] at hu
      have : u.toNat = len := by omega
      have h3 := fun c => snd (a.eval z) c hz
      rw [this] at h3
      simp [Instr.sliceBounds, h3, this]
    | some x =>
      have hx := get x len u hu
      cases isSlice <;> simp [Instr.sliceBounds, fst _ cap _ hx (by omega), snd _ _ hz]

def pslice (L : Lay) (fr : List (Nat × D)) (h : List Ob) (t : TypeId) (d : D) (lo hi : Option Operand) : Ev :=
  match ty L t with
  | some ⟨.slice e, _, _, _⟩ => match ty L e with
    | some y => match d with
      | .ref l g off len => match h[l]?, pbnd fr 0 lo, pbnd fr len hi with
        | some o, some a, some b => some (g = o.gen ∧ o.sz = y.size ∧ 0 ≤ a ∧ a ≤ b ∧ b ≤ len, .ref l g (off + a.toNat) (b - a).toNat)
        | _, _, _ => none
      | .imm z n row => match pbnd fr 0 lo, pbnd fr n hi with
        | some a, some b => some (z = y.size ∧ 0 ≤ a ∧ a ≤ b ∧ b ≤ n, .imm z (b - a).toNat fun i => row (a.toNat + i))
        | _, _ => none
      | .nil => match pbnd fr 0 lo, pbnd fr 0 hi with
        | some a, some b => some (a = 0 ∧ b = 0, .nil)
        | _, _ => none
      | _ => none
    | none => none
  | some ⟨.str, _, _, _⟩ => match d with
    | .raw (.string s) => match pbnd fr 0 lo, pbnd fr s.size hi with
      | some a, some b => some (0 ≤ a ∧ a ≤ b ∧ b ≤ s.size, .raw (.string (s.extract a.toNat b.toNat)))
      | _, _ => none
    | _ => none
  | _ => none

section
variable {P : Program} {L : Lay} {base nt : Nat} {s : St} {o : Oper}

theorem slice_ok (hL : LayOk P L) {t : TypeId} {x : Operand} {lo hi : Option Operand} (ho : o.op = .slice t x lo hi none) {p : Prop} {d : D} (h : pslice L s.fr s.h t (evalO s.fr x) lo hi = some (p, d)) (hp : p) : PureOk P base nt o s d := by
  intro Z pl a w r
  have hx := r.eval x
  unfold pslice at h
  split at h
  · rename_i e _ _ _ he
    have ht := under_slice (hL _ _ he) rfl
    split at h
    · rename_i y hy'
      have hy := hL _ _ hy'
      generalize evalO s.fr x = dx at *
      split at h
      · rename_i l g off len
        split at h
        · rename_i ob aa bb hob hlo hhi
          simp only [Option.some.injEq, Prod.mk.injEq] at h
          obtain ⟨rfl, rfl⟩ := h
          obtain ⟨hg, hsz, h0, h1, h2⟩ := hp
          obtain ⟨o', p', ad, cap, hv, ho', hp', hk', hg', hat⟩ := inv_ref hx
          rw [hob] at ho'; cases ho'
          have hlc : len ≤ cap := by
            rcases hat hg with ⟨h3, h4⟩ | ⟨_, _, _, _, _, _, _, _, h3⟩ <;> omega
          refine ⟨.slice (if cap = aa.toNat then ad else ad.map (·.add (aa.toNat * y.size))) (bb - aa).toNat (cap - aa.toNat), ?_, fun w' _ => ?_⟩
          · refine .ref _ _ _ _ ob p' _ _ hob hp' hk' hg' (fun _ => ?_)
            rcases hat hg with ⟨h3, h4⟩ | ⟨b, q, c, el, hpp, had, hb, hcs, h3⟩
            · exact .inl ⟨by omega, by omega⟩
            · by_cases hc : cap = aa.toNat
              · exact .inl ⟨by omega, by omega⟩
              · refine .inr ⟨b, q, c, el, hpp, ?_, hb, ?_, by omega⟩
                · rw [if_neg hc, had, Option.map_some, add_mk, hsz, Nat.add_mul]; simp only [Option.some.injEq, Addr.mk.injEq, and_true, true_and]; omega
                · rw [show off + aa.toNat + (cap - aa.toNat) = off + cap by omega]; exact hcs
          · have hb := run_bounds (P := P) r w' true len cap lo hi hlo hhi h0 h1 h2 hlc
            simp [execOp, ho, Instr.sliceAt, run_underlying ht, Instr.slice, hv, hb, hy.sizeOf]
            omega
        · cases h
      · rename_i z n row
        split at h
        · rename_i aa bb hlo hhi
          simp only [Option.some.injEq, Prod.mk.injEq] at h
          obtain ⟨rfl, rfl⟩ := h
          obtain ⟨rfl, h0, h1, h2⟩ := hp
          obtain ⟨ad, cap, b, q, vs, hv, had, hlc, hs, hc⟩ := inv_imm hx
          refine ⟨.slice (if cap = aa.toNat then ad else ad.map (·.add (aa.toNat * y.size))) (bb - aa).toNat (cap - aa.toNat), .cl _ _ ?_, fun w' _ => ?_⟩
          · refine .imm _ _ _ _ _ b (q + aa.toNat * y.size) (fun i j => vs (aa.toNat + i) j) (fun hpos => ?_) (by omega) (fun i hi => hs _ (by omega)) (fun i j hi hj => ?_) (fun i j hi hj => (hc (aa.toNat + i) j (by omega) hj).2)
            · rw [if_neg (by omega), had (by omega), Option.map_some, add_mk]
            · obtain ⟨⟨g1, g2⟩, _⟩ := hc (aa.toNat + i) j (by omega) hj
              refine ⟨g1, ?_⟩
              rw [← g2]; congr 2; rw [Nat.add_mul]; omega
          · have hb := run_bounds (P := P) r w' true n cap lo hi hlo hhi h0 h1 h2 hlc
            simp [execOp, ho, Instr.sliceAt, run_underlying ht, Instr.slice, hv, hb, hy.sizeOf]
            omega
        · cases h
      · split at h
        · rename_i aa bb hlo hhi
          simp only [Option.some.injEq, Prod.mk.injEq] at h
          obtain ⟨rfl, rfl⟩ := h
          obtain ⟨rfl, rfl⟩ := hp
          obtain ⟨ad, hv⟩ := inv_nil hx
          refine ⟨.slice ad 0 0, .cl _ _ (.nil _), fun w' _ => ?_⟩
          have hb := run_bounds (P := P) r w' true 0 0 lo hi hlo hhi (by omega) (by omega) (by omega) (Nat.le_refl _)
          simp [execOp, ho, Instr.sliceAt, run_underlying ht, Instr.slice, hv, hb, hy.sizeOf]
        · cases h
      · cases h
    · cases h
  · rename_i he
    have ht := under_str (hL _ _ he) rfl
    generalize evalO s.fr x = dx at *
    split at h
    · rename_i str
      split at h
      · rename_i aa bb hlo hhi
        simp only [Option.some.injEq, Prod.mk.injEq] at h
        obtain ⟨rfl, rfl⟩ := h
        obtain ⟨h0, h1, h2⟩ := hp
        have hv := inv_raw hx
        refine ⟨_, .cl _ _ (.raw _), fun w' _ => ?_⟩
        have hb := run_bounds (P := P) r w' false str.size str.size lo hi hlo hhi h0 h1 h2 (Nat.le_refl _)
        simp [execOp, ho, Instr.sliceAt, run_underlying ht, Instr.slice, hv, hb]
      · cases h
    · cases h
  · cases h
end

/-! Structs and arrays of plain cells, held against one another. -/
/-- Two plain cells: whether they are the same. -/
def ceq : Value → Value → Option Bool
  | .int k a, .int k' b => bif IntKind.same k k' then some (a == b) else none
  | .bool a, .bool b => some (a == b)
  | .string a, .string b => some (a.toList == b.toList)
  | _, _ => none
def ceqL : List Value → List Value → Option Bool
  | [], [] => some true
  | a :: r, b :: q => match ceq a b, ceqL r q with
    | some x, some y => some (x && y)
    | _, _ => none
  | _, _ => none
/-- Of which kind a plain cell is. -/
def cat : Value → Nat
  | .int _ _ => 0
  | .bool _ => 1
  | .string _ => 2
  | _ => 3
def shapeF (P : Program) (sh : TypeId → Option (List Nat)) : List Field → Nat → Option (List Nat)
  | [], _ => some []
  | f :: fs, off => match sh f.type with
    | some l => if f.name ≠ "_" ∧ f.offset = off ∧ P.cellsOf f.type = l.length then (shapeF P sh fs (off + l.length)).map (l ++ ·) else none
    | none => none
/-- The kinds of a type's cells, if all are plain and '==' goes by them. -/
def eqShape (P : Program) : Nat → TypeId → Option (List Nat)
  | 0, _ => none
  | d + 1, t => match P.underlying t with
    | some (.int _) => some [0]
    | some .bool => some [1]
    | some .string => some [2]
    | some (.struct fs) => if P.stoodInHeld t then none else shapeF P (eqShape P d) fs.toList 0
    | some (.array n e) => match eqShape P d e with
      | some l => if P.cellsOf e = l.length then some (List.replicate n l).flatten else none
      | none => none
    | _ => none

theorem ceqL_append : ∀ (a b c d : List Value) (r : Bool), a.length = b.length → ceqL (a ++ c) (b ++ d) = some r → ∃ x y, ceqL a b = some x ∧ ceqL c d = some y ∧ r = (x && y)
  | [], [], c, d, r, _, h => ⟨true, r, rfl, h, by simp⟩
  | [], _ :: _, _, _, _, h, _ => by simp at h
  | _ :: _, [], _, _, _, h, _ => by simp at h
  | u :: a, v :: b, c, d, r, hl, h => by
    simp only [List.cons_append, ceqL] at h
    split at h
    · rename_i x y hx hy
      simp only [Option.some.injEq] at h
      obtain ⟨x', y', h1, h2, h3⟩ := ceqL_append a b c d y (by simpa using hl) hy
      exact ⟨x && x', y', by simp [ceqL, hx, h1], h2, by rw [← h, h3, Bool.and_assoc]⟩
    · cases h

def valOf (P : Program) (t : TypeId) (xs : List Value) : Value :=
  match P.underlying t with
  | some (.struct _) | some (.array _ _) => .agg xs.toArray
  | _ => nthV xs 0

def EqA (P : Program) (D : Nat) (t : TypeId) (l : List Nat) : Prop :=
  ∀ (w : World) (xs ys : List Value) (r : Bool), xs.map cat = l → ys.map cat = l → ceqL xs ys = some r → (Op.equalIn D t (valOf P t xs) (valOf P t ys)).run P w = .ok r w

theorem run_part_val {P : Program} {d : Nat} {t : TypeId} {l : List Nat} (h : eqShape P d t = some l) (hc : P.cellsOf t = l.length) (w : World) (xs : List Value) (off : Nat) (hl : off + l.length ≤ xs.length) :
    (part t xs.toArray off).run P w = .ok (valOf P t ((xs.drop off).take l.length)) w := by
  cases d with
  | zero => simp [eqShape] at h
  | succ d =>
    unfold eqShape at h
    cases hu : P.underlying t with
    | none => rw [hu] at h; cases h
    | some k =>
      obtain ⟨i, hi⟩ := info_of_underlying hu
      have hs : (sizeOf t).run P w = .ok l.length w := by
        rw [run_sizeOf w hi, hc]
      rw [hu] at h
      cases k <;> first | (cases h; done) | skip
      case bool =>
        cases h
        have : off < xs.length := by simp at hl; omega
        simp [part, isAgg, run_underlying hu, valOf, hu, nthV, this]
      case int =>
        cases h
        have : off < xs.length := by simp at hl; omega
        simp [part, isAgg, run_underlying hu, valOf, hu, nthV, this]
      case string =>
        cases h
        have : off < xs.length := by simp at hl; omega
        simp [part, isAgg, run_underlying hu, valOf, hu, nthV, this]
      case array => simp [part, isAgg, run_underlying hu, valOf, hu, hs]
      case struct => simp [part, isAgg, run_underlying hu, valOf, hu, hs]

theorem run_fields_eq {P : Program} (d D : Nat) (IH : ∀ t l, eqShape P d t = some l → EqA P D t l) (w : World) : ∀ (fs : List Field) (off : Nat) (l : List Nat) (xs ys : List Value) (r : Bool), shapeF P (eqShape P d) fs off = some l →
    (xs.drop off).map cat = l → (ys.drop off).map cat = l → off ≤ xs.length → off ≤ ys.length → ceqL (xs.drop off) (ys.drop off) = some r → (Op.eqFields D xs.toArray ys.toArray fs).run P w = .ok r w
  | [], off, l, xs, ys, r, h, hx, hy, h1, h2, he => by
    simp [shapeF] at h
    subst h
    simp only [List.map_eq_nil_iff] at hx hy
    rw [hx, hy] at he
    simp [ceqL] at he
    simp [Op.eqFields, he]
  | f :: fs, off, l, xs, ys, r, h, hx, hy, h1, h2, he => by
    simp only [shapeF] at h
    split at h
    · rename_i l1 hl1
      split at h
      · rename_i hc
        obtain ⟨hn, ho, hsz⟩ := hc
        simp only [Option.map_eq_some_iff] at h
        obtain ⟨l2, hl2, rfl⟩ := h
        have hxl : (xs.drop off).length = l1.length + l2.length := by rw [← List.length_map (f := cat), hx, List.length_append]
        have hyl : (ys.drop off).length = l1.length + l2.length := by rw [← List.length_map (f := cat), hy, List.length_append]
        have hxs : xs.drop off = (xs.drop off).take l1.length ++ xs.drop (off + l1.length) := by rw [← List.drop_drop, List.take_append_drop]
        have hys : ys.drop off = (ys.drop off).take l1.length ++ ys.drop (off + l1.length) := by rw [← List.drop_drop, List.take_append_drop]
        rw [hxs, List.map_append] at hx
        rw [hys, List.map_append] at hy
        obtain ⟨hx1, hx2⟩ := List.append_inj hx (by simp at hxl ⊢; omega)
        obtain ⟨hy1, hy2⟩ := List.append_inj hy (by simp at hyl ⊢; omega)
        rw [hxs, hys] at he
        obtain ⟨x, y, e1, e2, rfl⟩ := ceqL_append _ _ _ _ _ (by simp at hxl hyl ⊢; omega) he
        have p1 := run_part_val hl1 hsz w xs off (by simp at hxl; omega)
        have p2 := run_part_val hl1 hsz w ys off (by simp at hyl; omega)
        have p3 := IH _ _ hl1 w _ _ x hx1 hy1 e1
        have p4 := run_fields_eq d D IH w fs (off + l1.length) l2 xs ys y hl2 hx2 hy2 (by simp at hxl; omega) (by simp at hyl; omega) e2
        simp only [Op.eqFields, hn, ne_eq, not_false_eq_true, if_true, Sem.run_bind, ho, p1, p2, p3, Result.andThen_ok]
        cases x
        · simp
        · simpa using p4
      · cases h
    · cases h

theorem run_items_eq {P : Program} {d D : Nat} {e : TypeId} {l : List Nat} (hsh : eqShape P d e = some l) (hc : P.cellsOf e = l.length) (IH : EqA P D e l) (w : World) : ∀ (m i : Nat) (xs ys : List Value) (r : Bool),
    (xs.drop (i * l.length)).map cat = (List.replicate m l).flatten → (ys.drop (i * l.length)).map cat = (List.replicate m l).flatten → i * l.length ≤ xs.length → i * l.length ≤ ys.length → ceqL (xs.drop (i * l.length)) (ys.drop (i * l.length)) = some r →
    (Op.eqItems D e (P.cellsOf e) xs.toArray ys.toArray (List.range' i m)).run P w = .ok r w
  | 0, i, xs, ys, r, hx, hy, _, _, he => by
    simp only [List.replicate_zero, List.flatten_nil, List.map_eq_nil_iff] at hx hy
    rw [hx, hy] at he
    simp [ceqL] at he
    simp [Op.eqItems, he]
  | m + 1, i, xs, ys, r, hx, hy, h1, h2, he => by
    rw [List.replicate_succ, List.flatten_cons] at hx hy
    have hxl : (xs.drop (i * l.length)).length = l.length + (List.replicate m l).flatten.length := by rw [← List.length_map (f := cat), hx, List.length_append]
    have hyl : (ys.drop (i * l.length)).length = l.length + (List.replicate m l).flatten.length := by rw [← List.length_map (f := cat), hy, List.length_append]
    have hi : i * l.length + l.length = (i + 1) * l.length := by rw [Nat.add_mul]; omega
    have hxs : xs.drop (i * l.length) = (xs.drop (i * l.length)).take l.length ++ xs.drop ((i + 1) * l.length) := by rw [← hi, ← List.drop_drop, List.take_append_drop]
    have hys : ys.drop (i * l.length) = (ys.drop (i * l.length)).take l.length ++ ys.drop ((i + 1) * l.length) := by rw [← hi, ← List.drop_drop, List.take_append_drop]
    rw [hxs, List.map_append] at hx
    rw [hys, List.map_append] at hy
    obtain ⟨hx1, hx2⟩ := List.append_inj hx (by simp at hxl ⊢; omega)
    obtain ⟨hy1, hy2⟩ := List.append_inj hy (by simp at hyl ⊢; omega)
    rw [hxs, hys] at he
    obtain ⟨x, y, e1, e2, rfl⟩ := ceqL_append _ _ _ _ _ (by simp at hxl hyl ⊢; omega) he
    have p1 := run_part_val hsh hc w xs (i * l.length) (by simp at hxl; omega)
    have p2 := run_part_val hsh hc w ys (i * l.length) (by simp at hyl; omega)
    have p3 := IH w _ _ x hx1 hy1 e1
    have p4 := run_items_eq hsh hc IH w m (i + 1) xs ys y hx2 hy2 (by simp at hxl; omega) (by simp at hyl; omega) e2
    rw [List.range'_succ]
    simp only [Op.eqItems, Sem.run_bind, hc, p1, p2, p3, Result.andThen_ok]
    cases x
    · simp
    · rw [hc] at p4; simpa using p4

theorem eqA_all {P : Program} : ∀ (d D : Nat) (t : TypeId) (l : List Nat), d ≤ D → eqShape P d t = some l → EqA P D t l
  | 0, _, _, _, _, h => by simp [eqShape] at h
  | d + 1, 0, _, _, hd, _ => by omega
  | d + 1, D + 1, t, l, hd, h => by
    intro w xs ys r hx hy he
    have h' := h
    unfold eqShape at h
    cases hu : P.underlying t with
    | none => rw [hu] at h; cases h
    | some k =>
      rw [hu] at h
      have one : ∀ c : Nat, l = [c] → ∃ a b, xs = [a] ∧ ys = [b] ∧ cat a = c ∧ cat b = c ∧ ceq a b = some r := by
        intro c hl
        subst hl
        have hxl : xs.length = 1 := by rw [← List.length_map (f := cat), hx]; rfl
        have hyl : ys.length = 1 := by rw [← List.length_map (f := cat), hy]; rfl
        match xs, ys, hxl, hyl with
        | [a], [b], _, _ =>
          refine ⟨a, b, rfl, rfl, by simpa using hx, by simpa using hy, ?_⟩
          simp only [ceqL] at he
          split at he
          · rename_i x y h1 h2; simp at h2 he; subst h2; simp at he; rw [h1, he]
          · cases he
      cases k <;> first | (cases h; done) | skip
      case bool =>
        simp only [Option.some.injEq] at h
        obtain ⟨a, b, rfl, rfl, ha, hb, hab⟩ := one 1 h.symm
        cases a <;> simp [cat] at ha
        cases b <;> simp [cat] at hb
        simp [ceq] at hab
        subst hab
        simp [valOf, hu, nthV, run_equalIn_bool' w D t _ _ hu]
      case int q =>
        simp only [Option.some.injEq] at h
        obtain ⟨a, b, rfl, rfl, ha, hb, hab⟩ := one 0 h.symm
        cases a <;> simp [cat] at ha
        cases b <;> simp [cat] at hb
        simp only [ceq] at hab
        obtain ⟨hk, hab2⟩ := cond_none hab
        have := IntKind.same_eq hk
        subst this
        simp only [Option.some.injEq] at hab2
        subst hab2
        simp [valOf, hu, nthV, run_equalIn_int w D t _ _ _ _ hu]
      case string =>
        simp only [Option.some.injEq] at h
        obtain ⟨a, b, rfl, rfl, ha, hb, hab⟩ := one 2 h.symm
        cases a <;> simp [cat] at ha
        cases b <;> simp [cat] at hb
        simp only [ceq, Option.some.injEq] at hab
        subst hab
        simp [valOf, hu, nthV, run_equalIn_string w D t _ _ hu]
      case array n e =>
        replace h : (match eqShape P d e with | some l => if P.cellsOf e = l.length then some (List.replicate n l).flatten else none | none => none) = some l := h
        split at h
        · rename_i l1 hl1
          split at h
          · rename_i hc
            simp only [Option.some.injEq] at h
            subst h
            have hpe : ∃ i, P.info? e = some i := by
              cases d with
              | zero => simp [eqShape] at hl1
              | succ d' =>
                unfold eqShape at hl1
                cases hue : P.underlying e with
                | none => rw [hue] at hl1; cases hl1
                | some _ => exact info_of_underlying hue
            obtain ⟨i, hi⟩ := hpe
            have := run_items_eq hl1 hc (eqA_all d D e l1 (by omega) hl1) w n 0 xs ys r (by simpa using hx) (by simpa using hy) (by simp) (by simp) (by simpa using he)
            rw [← List.range_eq_range'] at this
            simp only [valOf, hu]
            rw [run_equalIn_array w D xs.toArray ys.toArray hu hi]
            exact this
          · cases h
        · cases h
      case struct fs =>
        replace h : (if P.stoodInHeld t then none else shapeF P (eqShape P d) fs.toList 0) = some l := h
        split at h
        · cases h
        · rename_i hs
          have hfs : P.fieldsOf t = fs := by simp [Program.fieldsOf, hu]
          simp only [valOf, hu]
          rw [run_equalIn_struct w D t _ _ (by rw [hfs]; exact hu) (by simpa using hs), hfs]
          exact run_fields_eq d D (fun t l h => eqA_all d D t l (by omega) h) w fs.toList 0 l xs ys r h (by simpa using hx) (by simpa using hy) (by simp) (by simp) (by simpa using he)

/-- The types whose values '==' holds against one another cell by cell. -/
abbrev EqT := List (TypeId × List Nat)
def eqty : EqT → TypeId → Option (List Nat)
  | [], _ => none
  | (u, l) :: r, t => bif Nat.beq u t then some l else eqty r t
structure EqTyOk (P : Program) (t : TypeId) (l : List Nat) : Prop where
  shape : eqShape P 60 t = some l
  guard : P.eqGuardType P.depth t = false
  agg : (match P.underlying t with | some (.struct _) | some (.array _ _) => true | _ => false) = true
def EqOk (P : Program) (E : EqT) : Prop := ∀ t l, eqty E t = some l → EqTyOk P t l
theorem EqOk.nil (P : Program) : EqOk P [] := fun _ _ h => by simp [eqty] at h
theorem EqOk.cons {P : Program} {E : EqT} {t : TypeId} {l : List Nat} (h : EqTyOk P t l) (r : EqOk P E) : EqOk P ((t, l) :: E) := fun u z e => by
  simp only [eqty] at e
  by_cases hu : t = u
  · subst hu; simp at e; subst e; exact h
  · have : Nat.beq t u = false := by rw [← Bool.not_eq_true, Nat.beq_eq]; exact hu
    rw [this] at e; exact r u z e

/-- The plain cells of a list, if all are. -/
def rawsD : List D → Option (List Value)
  | [] => some []
  | .raw v :: r => match rawsD r with
    | some l => some (v :: l)
    | none => none
  | _ => none
def beqL : List Nat → List Nat → Bool
  | [], [] => true
  | a :: r, b :: q => Nat.beq a b && beqL r q
  | _, _ => false
theorem beqL_eq : ∀ {a b : List Nat}, beqL a b = true → a = b
  | [], [], _ => rfl
  | [], _ :: _, h => by cases h
  | _ :: _, [], h => by cases h
  | a :: r, b :: q, h => by
    simp only [beqL, Bool.and_eq_true, Nat.beq_eq] at h
    rw [h.1, beqL_eq h.2]
theorem rawsD_ok {h : List Ob} {pl : List Pl} {w : World} : ∀ {cs : List D} {l : List Value}, rawsD cs = some l → ∀ (vs : List Value), vs.length = cs.length → (∀ i, i < cs.length → RelV Z h pl w (nth cs i) (nthV vs i)) → vs = l
  | [], l, e, vs, hl, _ => by simp [rawsD] at e; subst e; exact List.eq_nil_of_length_eq_zero (by simpa using hl)
  | c :: cs, l, e, vs, hl, hr => by
    cases c <;> simp only [rawsD, reduceCtorEq] at e
    rename_i v
    split at e
    · rename_i l' hl'
      simp only [Option.some.injEq] at e
      subst e
      match vs, hl with
      | u :: us, hl =>
        have h0 := inv_raw (hr 0 (by simp) : RelV Z h pl w (.raw v) u)
        have := rawsD_ok hl' us (by simpa using hl) (fun i hi => by have := hr (i + 1) (by simp; omega); simpa [nth, nthV] using this)
        have h0' : u = v := h0
        rw [h0', this]
    · cases e
def pbinA (E : EqT) (op : BinOp) (t : TypeId) : D → D → Ev
  | .agg a, .agg b => match eqty E t, rawsD a, rawsD b with
    | some l, some x, some y => bif beqL (x.map cat) l && beqL (y.map cat) l then match ceqL x y with
      | some r => match op with
        | .eql => some (True, .raw (.bool r))
        | .neq => some (True, .raw (.bool (!r)))
        | _ => none
      | none => none
      else none
    | _, _, _ => none
  | _, _ => none
theorem pbinA_ok {P : Program} {E : EqT} (hE : EqOk P E) {base nt : Nat} {s : St} {o : Oper} {op : BinOp} {t yt : TypeId} {x y : Operand} (ho : o.op = .binOp op t x y yt) {p : Prop} {d : D}
    (h : pbinA E op t (evalO s.fr x) (evalO s.fr y) = some (p, d)) : PureOk P base nt o s d := by
  intro Z pl a w r
  have hx := r.eval x
  have hy := r.eval y
  unfold pbinA at h
  generalize evalO s.fr x = dx at *
  generalize evalO s.fr y = dy at *
  split at h
  · split at h
    · rename_i l xs ys he hxs hys
      obtain ⟨hk, h2⟩ := cond_none h
      simp only [Bool.and_eq_true] at hk
      have hkx := beqL_eq hk.1
      have hky := beqL_eq hk.2
      split at h2
      · rename_i rr hr
        obtain ⟨us, hu, hul, hur⟩ := inv_agg hx
        obtain ⟨ws, hw, hwl, hwr⟩ := inv_agg hy
        have e1 := rawsD_ok hxs us hul hur
        have e2 := rawsD_ok hys ws hwl hwr
        subst e1; subst e2
        obtain ⟨hsh, hg, hagg⟩ := hE _ _ he
        have heq : ∀ w', (Op.equalIn 10000 t (.agg us.toArray) (.agg ws.toArray)).run P w' = .ok rr w' := by
          intro w'
          have := eqA_all 60 10000 t l (by omega) hsh w' us ws rr hkx hky hr
          unfold valOf at this
          split at this
          · exact this
          · exact this
          · rename_i h1 h2
            split at hagg
            · rename_i h3; exact absurd h3 (h1 _)
            · rename_i h3; exact absurd h3 (h2 _ _)
            · cases hagg
        split at h2
        · simp only [Option.some.injEq, Prod.mk.injEq] at h2
          obtain ⟨rfl, rfl⟩ := h2
          refine ⟨_, .cl _ _ (.raw _), fun w' _ => ?_⟩
          simp [execOp, ho, hu, hw, run_eqGuard_agg w' .eql t x y _ _ hg, run_eql_struct, heq]
        · simp only [Option.some.injEq, Prod.mk.injEq] at h2
          obtain ⟨rfl, rfl⟩ := h2
          refine ⟨_, .cl _ _ (.raw _), fun w' _ => ?_⟩
          simp [execOp, ho, hu, hw, run_eqGuard_agg w' .neq t x y _ _ hg, run_neq_struct, heq]
        · cases h2
      · cases h2
    · cases h
  · cases h
end Go.Fg
namespace Go.Fg
set_option linter.unusedSimpArgs false
set_option linter.unusedVariables false
/-- What looks at no world. -/
def Quiet (P : Program) {α : Type} (m : Sem α) : Prop := ∀ w x w1, m.run P w = .ok x w1 → w1 = w ∧ ∀ w', m.run P w' = .ok x w'
section
variable {P : Program} {α β : Type}
theorem Quiet.pure (a : α) : Quiet P (pure a : Sem α) := fun w x w1 h => by
  simp at h; obtain ⟨rfl, rfl⟩ := h; exact ⟨rfl, fun w' => by simp⟩
theorem Quiet.never {m : Sem α} (hh : ∀ w x w1, m.run P w ≠ .ok x w1) : Quiet P m := fun w x w1 h => absurd h (hh w x w1)
theorem Quiet.bind {m : Sem α} {k : α → Sem β} (h1 : Quiet P m) (h2 : ∀ a, Quiet P (k a)) : Quiet P (m >>= k) := fun w x w1 h => by
  rw [Sem.run_bind] at h
  cases hm : m.run P w with
  | halt e w2 => rw [hm] at h; cases h
  | ok a w2 =>
    rw [hm] at h
    simp only [Result.andThen_ok] at h
    obtain ⟨rfl, h3⟩ := h1 w a w2 hm
    obtain ⟨rfl, h4⟩ := h2 a _ x w1 h
    exact ⟨rfl, fun w' => by rw [Sem.run_bind, h3 w']; simp only [Result.andThen_ok]; exact h4 w'⟩
theorem Quiet.stuck (s : String) : Quiet P (Go.stuck s : Sem α) := Quiet.never fun w x w1 h => by cases h
theorem Quiet.halt (e : Halt) : Quiet P (.halt e : Sem α) := Quiet.never fun w x w1 h => by cases h
theorem Quiet.program : Quiet P program := fun w x w1 h => by
  simp at h; obtain ⟨rfl, rfl⟩ := h; exact ⟨rfl, fun w' => by simp⟩
theorem Quiet.typeInfo (t : TypeId) : Quiet P (typeInfo t) := .bind .program fun p => by
  split
  · exact .pure _
  · exact .stuck _
theorem Quiet.underlying (t : TypeId) : Quiet P (underlying t) := .bind .program fun p => by
  split
  · exact .pure _
  · exact .stuck _
theorem Quiet.panic : Quiet P (runtimePanic .nilDeref : Sem α) := .bind .program fun p => .halt _
theorem Quiet.sizeOf (t : TypeId) : Quiet P (sizeOf t) := .bind (.typeInfo t) fun _ => .pure _
theorem Quiet.isAgg (t : TypeId) : Quiet P (isAgg t) := .bind (.underlying t) fun d => by
  split <;> exact .pure _
theorem Quiet.part (t : TypeId) (cs : Array Value) (i : Nat) : Quiet P (part t cs i) := by
  unfold Go.part
  repeat' (first | exact .pure _ | exact .stuck _ | refine .bind (.isAgg _) fun _ => ?_ | refine .bind (.sizeOf _) fun _ => ?_ | refine .bind (.typeInfo _) fun _ => ?_ | refine .bind (.underlying _) fun _ => ?_ | split)
theorem Quiet.blind : ∀ (l : List FieldStep) (t : TypeId) (x : Option Value), Quiet P (Go.followBlind l t x)
  | [], _, _ => .pure _
  | s :: r, t, x => by
    unfold Go.followBlind
    repeat' (first | exact .pure _ | exact .stuck _ | exact Quiet.blind r _ _ | refine .bind (.part _ _ _) fun _ => ?_ | refine .bind (.underlying _) fun _ => ?_ | split)
theorem Quiet.nilAhead : ∀ (n : Nat) (t : TypeId) (v : Value) (name : String), Quiet P (Go.nilAhead n t v name)
  | 0, _, _, _ => .pure _
  | n + 1, t, v, name => by
    unfold Go.nilAhead
    repeat' (first | exact .pure _ | exact .stuck _ | exact Quiet.nilAhead n _ _ _ | refine .bind (.blind _ _ _) fun _ => ?_ | refine .bind (.typeInfo _) fun _ => ?_ | refine .bind (.underlying _) fun _ => ?_ | split)
theorem Quiet.nilCheck {o : Oper} {x : Operand} (ho : o.op = .nilCheck x) (ρ : Operand → Value) : Quiet P (execOp ρ o) := by
  simp only [execOp, ho]
  repeat' (first | exact .pure _ | exact .stuck _ | exact .panic | exact .halt _ | (refine .bind (.halt _) fun _ => ?_) | refine .bind (.nilAhead _ _ _ _) fun _ => ?_ | refine .bind .program fun _ => ?_ | split)
end
end Go.Fg
