/- Cuts of slices and strings; structs held against one another. Conditions: each result comes with the proposition under which it holds. -/
import Derived.Test.YtiiaocpkjmiacaaFgBuild
import Derived.ChangeKeysEq
namespace Go.Fg
set_option linter.unusedSimpArgs false
set_option linter.unusedVariables false
open Go.RowKit (Below)
variable {Z : Nat → Prop}

def pbnd (fr : List (Nat × D)) (dflt : Int) : Option Operand → Option Int
  | none => some dflt
  | some x => match evalO fr x with
    | .raw (.int _ i) => some i
    | _ => none

theorem run_bound {P : Program} (w : World) {k : IntKind} {i : Int} {y : Nat} {c : BoundsCode} (h0 : 0 ≤ i) (h1 : i ≤ y) : (Instr.sliceBound (.int k i) y c).run P w = .ok i.toNat w := by
  simp [Instr.sliceBound, asIntOf, h0, h1]

theorem run_bounds {P : Program} {base nt : Nat} {s : St} {pl : List Pl} {a : Act} {w0 : World} (r : Rel Z base nt s pl a w0) (w : World) (isSlice : Bool) (len cap : Nat) (lo hi : Option Operand) {l u : Int} (hl : pbnd s.fr 0 lo = some l) (hu : pbnd s.fr len hi = some u)
    (h0 : 0 ≤ l) (h1 : l ≤ u) (h2 : u ≤ len) (hlc : len ≤ cap) : (Instr.sliceBounds isSlice len cap (lo.map a.eval) (hi.map a.eval) none).run P w = .ok (l.toNat, u.toNat, cap) w := by
  have get : ∀ (x : Operand) (d : Int) (i : Int), pbnd s.fr d (some x) = some i → ∃ k, a.eval x = .int k i := by
    intro x d i h
    have hr := r.eval x
    simp only [pbnd] at h
    generalize evalO s.fr x = dx at *
    split at h
    · rename_i k j
      simp only [Option.some.injEq] at h
      subst h
      exact ⟨k, inv_raw hr⟩
    · cases h
  have fst : ∀ (v : Value) (m : Nat) (c : BoundsCode), (∃ k, v = .int k u) → u ≤ m → (Instr.sliceBound v m c).run P w = .ok u.toNat w := by
    rintro v m c ⟨k, rfl⟩ hm; exact run_bound w (by omega) hm
  have snd : ∀ (v : Value) (c : BoundsCode), (∃ k, v = .int k l) → (Instr.sliceBound v u.toNat c).run P w = .ok l.toNat w := by
    rintro v c ⟨k, rfl⟩; exact run_bound w h0 (by omega)
  cases lo with
  | none =>
    simp only [pbnd, Option.some.injEq] at hl
    subst hl
    cases hi with
    | none => simp only [pbnd, Option.some.injEq] at hu; subst hu; simp [Instr.sliceBounds]
    | some x =>
      have hx := get x len u hu
      cases isSlice <;> simp [Instr.sliceBounds, fst _ cap _ hx (by omega)]
  | some z =>
    have hz := get z 0 l hl
    cases hi with
    | none =>
      simp only [pbnd, Option.some.injEq] at hu
      have : u.toNat = len := by omega
      have h3 := fun c => snd (a.eval z) c hz
      rw [this] at h3
      simp [Instr.sliceBounds, h3, this]
    | some x =>
      have hx := get x len u hu
      cases isSlice <;> simp [Instr.sliceBounds, fst _ cap _ hx (by omega), snd _ _ hz]

def pslice (L : Lay) (fr : List (Nat × D)) (h : List Ob) (t : TypeId) (d : D) (lo hi : Option Operand) : Ev :=
  match ty L t with
  | some ⟨.slice e, _, _, _⟩ => match ty L e with
    | some y => match d with
      | .ref l g off len => match h[l]?, pbnd fr 0 lo, pbnd fr len hi with
        | some o, some a, some b => some (g = o.gen ∧ o.sz = y.size ∧ 0 ≤ a ∧ a ≤ b ∧ b ≤ len, .ref l g (off + a.toNat) (b - a).toNat)
        | _, _, _ => none
      | .imm z n row => match pbnd fr 0 lo, pbnd fr n hi with
        | some a, some b => some (z = y.size ∧ 0 ≤ a ∧ a ≤ b ∧ b ≤ n, .imm z (b - a).toNat fun i => row (a.toNat + i))
        | _, _ => none
      | .nil => match pbnd fr 0 lo, pbnd fr 0 hi with
        | some a, some b => some (a = 0 ∧ b = 0, .nil)
        | _, _ => none
      | _ => none
    | none => none
  | some ⟨.str, _, _, _⟩ => match d with
    | .raw (.string s) => match pbnd fr 0 lo, pbnd fr s.size hi with
      | some a, some b => some (0 ≤ a ∧ a ≤ b ∧ b ≤ s.size, .raw (.string (s.extract a.toNat b.toNat)))
      | _, _ => none
    | _ => none
  | _ => none

section
variable {P : Program} {L : Lay} {base nt : Nat} {s : St} {o : Oper}

theorem slice_ok (hL : LayOk P L) {t : TypeId} {x : Operand} {lo hi : Option Operand} (ho : o.op = .slice t x lo hi none) {p : Prop} {d : D} (h : pslice L s.fr s.h t (evalO s.fr x) lo hi = some (p, d)) (hp : p) : PureOk P base nt o s d := by
  intro Z pl a w r
  have hx := r.eval x
  unfold pslice at h
  split at h
  · rename_i e _ _ _ he
    have ht := under_slice (hL _ _ he) rfl
    split at h
    · rename_i y hy'
      have hy := hL _ _ hy'
      generalize evalO s.fr x = dx at *
      split at h
      · rename_i l g off len
        split at h
        · rename_i ob aa bb hob hlo hhi
          simp only [Option.some.injEq, Prod.mk.injEq] at h
          obtain ⟨rfl, rfl⟩ := h
          obtain ⟨hg, hsz, h0, h1, h2⟩ := hp
          obtain ⟨o', p', ad, cap, hv, ho', hp', hk', hg', hat⟩ := inv_ref hx
          rw [hob] at ho'; cases ho'
          have hlc : len ≤ cap := by
            rcases hat hg with ⟨h3, h4⟩ | ⟨_, _, _, _, _, _, _, _, h3⟩ <;> omega
          refine ⟨.slice (if cap = aa.toNat then ad else ad.map (·.add (aa.toNat * y.size))) (bb - aa).toNat (cap - aa.toNat), ?_, fun w' _ => ?_⟩
          · refine .ref _ _ _ _ ob p' _ _ hob hp' hk' hg' (fun _ => ?_)
            rcases hat hg with ⟨h3, h4⟩ | ⟨b, q, c, el, hpp, had, hb, hcs, h3⟩
            · exact .inl ⟨by omega, by omega⟩
            · by_cases hc : cap = aa.toNat
              · exact .inl ⟨by omega, by omega⟩
              · refine .inr ⟨b, q, c, el, hpp, ?_, hb, ?_, by omega⟩
                · rw [if_neg hc, had, Option.map_some, add_mk, hsz, Nat.add_mul]; simp only [Option.some.injEq, Addr.mk.injEq, and_true, true_and]; omega
                · rw [show off + aa.toNat + (cap - aa.toNat) = off + cap by omega]; exact hcs
          · have hb := run_bounds (P := P) r w' true len cap lo hi hlo hhi h0 h1 h2 hlc
            simp [execOp, ho, Instr.sliceAt, run_underlying ht, Instr.slice, hv, hb, hy.sizeOf]
            omega
        · cases h
      · rename_i z n row
        split at h
        · rename_i aa bb hlo hhi
          simp only [Option.some.injEq, Prod.mk.injEq] at h
          obtain ⟨rfl, rfl⟩ := h
          obtain ⟨rfl, h0, h1, h2⟩ := hp
          obtain ⟨ad, cap, b, q, vs, hv, had, hlc, hs, hc⟩ := inv_imm hx
          refine ⟨.slice (if cap = aa.toNat then ad else ad.map (·.add (aa.toNat * y.size))) (bb - aa).toNat (cap - aa.toNat), .cl _ _ ?_, fun w' _ => ?_⟩
          · refine .imm _ _ _ _ _ b (q + aa.toNat * y.size) (fun i j => vs (aa.toNat + i) j) (fun hpos => ?_) (by omega) (fun i hi => hs _ (by omega)) (fun i j hi hj => ?_) (fun i j hi hj => (hc (aa.toNat + i) j (by omega) hj).2)
            · rw [if_neg (by omega), had (by omega), Option.map_some, add_mk]
            · obtain ⟨⟨g1, g2⟩, _⟩ := hc (aa.toNat + i) j (by omega) hj
              refine ⟨g1, ?_⟩
              rw [← g2]; congr 2; rw [Nat.add_mul]; omega
          · have hb := run_bounds (P := P) r w' true n cap lo hi hlo hhi h0 h1 h2 hlc
            simp [execOp, ho, Instr.sliceAt, run_underlying ht, Instr.slice, hv, hb, hy.sizeOf]
            omega
        · cases h
      · split at h
        · rename_i aa bb hlo hhi
          simp only [Option.some.injEq, Prod.mk.injEq] at h
          obtain ⟨rfl, rfl⟩ := h
          obtain ⟨rfl, rfl⟩ := hp
          obtain ⟨ad, hv⟩ := inv_nil hx
          refine ⟨.slice ad 0 0, .cl _ _ (.nil _), fun w' _ => ?_⟩
          have hb := run_bounds (P := P) r w' true 0 0 lo hi hlo hhi (by omega) (by omega) (by omega) (Nat.le_refl _)
          simp [execOp, ho, Instr.sliceAt, run_underlying ht, Instr.slice, hv, hb, hy.sizeOf]
        · cases h
      · cases h
    · cases h
  · rename_i he
    have ht := under_str (hL _ _ he) rfl
    generalize evalO s.fr x = dx at *
    split at h
    · rename_i str
      split at h
      · rename_i aa bb hlo hhi
        simp only [Option.some.injEq, Prod.mk.injEq] at h
        obtain ⟨rfl, rfl⟩ := h
        obtain ⟨h0, h1, h2⟩ := hp
        have hv := inv_raw hx
        refine ⟨_, .cl _ _ (.raw _), fun w' _ => ?_⟩
        have hb := run_bounds (P := P) r w' false str.size str.size lo hi hlo hhi h0 h1 h2 (Nat.le_refl _)
        simp [execOp, ho, Instr.sliceAt, run_underlying ht, Instr.slice, hv, hb]
      · cases h
    · cases h
  · cases h
end

/-! Structs and arrays of plain cells, held against one another. -/
/-- Two plain cells: whether they are the same. -/
def ceq : Value → Value → Option Bool
  | .int k a, .int k' b => bif IntKind.same k k' then some (a == b) else none
  | .bool a, .bool b => some (a == b)
  | .string a, .string b => some (a.toList == b.toList)
  | _, _ => none
def ceqL : List Value → List Value → Option Bool
  | [], [] => some true
  | a :: r, b :: q => match ceq a b, ceqL r q with
    | some x, some y => some (x && y)
    | _, _ => none
  | _, _ => none
/-- Of which kind a plain cell is. -/
def cat : Value → Nat
  | .int _ _ => 0
  | .bool _ => 1
  | .string _ => 2
  | _ => 3
def shapeF (P : Program) (sh : TypeId → Option (List Nat)) : List Field → Nat → Option (List Nat)
  | [], _ => some []
  | f :: fs, off => match sh f.type with
    | some l => if f.name ≠ "_" ∧ f.offset = off ∧ P.cellsOf f.type = l.length then (shapeF P sh fs (off + l.length)).map (l ++ ·) else none
    | none => none
/-- The kinds of a type's cells, if all are plain and '==' goes by them. -/
def eqShape (P : Program) : Nat → TypeId → Option (List Nat)
  | 0, _ => none
  | d + 1, t => match P.underlying t with
    | some (.int _) => some [0]
    | some .bool => some [1]
    | some .string => some [2]
    | some (.struct fs) => if P.stoodInHeld t then none else shapeF P (eqShape P d) fs.toList 0
    | some (.array n e) => match eqShape P d e with
      | some l => if P.cellsOf e = l.length then some (List.replicate n l).flatten else none
      | none => none
    | _ => none

theorem ceqL_append : ∀ (a b c d : List Value) (r : Bool), a.length = b.length → ceqL (a ++ c) (b ++ d) = some r → ∃ x y, ceqL a b = some x ∧ ceqL c d = some y ∧ r = (x && y)
  | [], [], c, d, r, _, h => ⟨true, r, rfl, h, by simp⟩
  | [], _ :: _, _, _, _, h, _ => by simp at h
  | _ :: _, [], _, _, _, h, _ => by simp at h
  | u :: a, v :: b, c, d, r, hl, h => by
    simp only [List.cons_append, ceqL] at h
    split at h
    · rename_i x y hx hy
      simp only [Option.some.injEq] at h
      obtain ⟨x', y', h1, h2, h3⟩ := ceqL_append a b c d y (by simpa using hl) hy
      exact ⟨x && x', y', by simp [ceqL, hx, h1], h2, by rw [← h, h3, Bool.and_assoc]⟩
    · cases h

def valOf (P : Program) (t : TypeId) (xs : List Value) : Value :=
  match P.underlying t with
  | some (.struct _) | some (.array _ _) => .agg xs.toArray
  | _ => nthV xs 0

def EqA (P : Program) (D : Nat) (t : TypeId) (l : List Nat) : Prop :=
  ∀ (w : World) (xs ys : List Value) (r : Bool), xs.map cat = l → ys.map cat = l → ceqL xs ys = some r → (Op.equalIn D t (valOf P t xs) (valOf P t ys)).run P w = .ok r w

theorem run_part_val {P : Program} {d : Nat} {t : TypeId} {l : List Nat} (h : eqShape P d t = some l) (hc : P.cellsOf t = l.length) (w : World) (xs : List Value) (off : Nat) (hl : off + l.length ≤ xs.length) :
    (part t xs.toArray off).run P w = .ok (valOf P t ((xs.drop off).take l.length)) w := by
  cases d with
  | zero => simp [eqShape] at h
  | succ d =>
    unfold eqShape at h
    cases hu : P.underlying t with
    | none => rw [hu] at h; cases h
    | some k =>
      obtain ⟨i, hi⟩ := info_of_underlying hu
      have hs : (sizeOf t).run P w = .ok l.length w := by
        rw [run_sizeOf w hi, hc]
      rw [hu] at h
      cases k <;> first | (cases h; done) | skip
      case bool =>
        cases h
        have : off < xs.length := by simp at hl; omega
        simp [part, isAgg, run_underlying hu, valOf, hu, nthV, this]
      case int =>
        cases h
        have : off < xs.length := by simp at hl; omega
        simp [part, isAgg, run_underlying hu, valOf, hu, nthV, this]
      case string =>
        cases h
        have : off < xs.length := by simp at hl; omega
        simp [part, isAgg, run_underlying hu, valOf, hu, nthV, this]
      case array => simp [part, isAgg, run_underlying hu, valOf, hu, hs]
      case struct => simp [part, isAgg, run_underlying hu, valOf, hu, hs]

theorem run_fields_eq {P : Program} (d D : Nat) (IH : ∀ t l, eqShape P d t = some l → EqA P D t l) (w : World) : ∀ (fs : List Field) (off : Nat) (l : List Nat) (xs ys : List Value) (r : Bool), shapeF P (eqShape P d) fs off = some l →
    (xs.drop off).map cat = l → (ys.drop off).map cat = l → off ≤ xs.length → off ≤ ys.length → ceqL (xs.drop off) (ys.drop off) = some r → (Op.eqFields D xs.toArray ys.toArray fs).run P w = .ok r w
  | [], off, l, xs, ys, r, h, hx, hy, h1, h2, he => by
    simp [shapeF] at h
    subst h
    simp only [List.map_eq_nil_iff] at hx hy
    rw [hx, hy] at he
    simp [ceqL] at he
    simp [Op.eqFields, he]
  | f :: fs, off, l, xs, ys, r, h, hx, hy, h1, h2, he => by
    simp only [shapeF] at h
    split at h
    · rename_i l1 hl1
      split at h
      · rename_i hc
        obtain ⟨hn, ho, hsz⟩ := hc
        simp only [Option.map_eq_some_iff] at h
        obtain ⟨l2, hl2, rfl⟩ := h
        have hxl : (xs.drop off).length = l1.length + l2.length := by rw [← List.length_map (f := cat), hx, List.length_append]
        have hyl : (ys.drop off).length = l1.length + l2.length := by rw [← List.length_map (f := cat), hy, List.length_append]
        have hxs : xs.drop off = (xs.drop off).take l1.length ++ xs.drop (off + l1.length) := by rw [← List.drop_drop, List.take_append_drop]
        have hys : ys.drop off = (ys.drop off).take l1.length ++ ys.drop (off + l1.length) := by rw [← List.drop_drop, List.take_append_drop]
        rw [hxs, List.map_append] at hx
        rw [hys, List.map_append] at hy
        obtain ⟨hx1, hx2⟩ := List.append_inj hx (by simp at hxl ⊢; omega)
        obtain ⟨hy1, hy2⟩ := List.append_inj hy (by simp at hyl ⊢; omega)
        rw [hxs, hys] at he
        obtain ⟨x, y, e1, e2, rfl⟩ := ceqL_append _ _ _ _ _ (by simp at hxl hyl ⊢; omega) he
        have p1 := run_part_val hl1 hsz w xs off (by simp at hxl; omega)
        have p2 := run_part_val hl1 hsz w ys off (by simp at hyl; omega)
        have p3 := IH _ _ hl1 w _ _ x hx1 hy1 e1
        have p4 := run_fields_eq d D IH w fs (off + l1.length) l2 xs ys y hl2 hx2 hy2 (by simp at hxl; omega) (by simp at hyl; omega) e2
        simp only [Op.eqFields, hn, ne_eq, not_false_eq_true, if_true, Sem.run_bind, ho, p1, p2, p3, Result.andThen_ok]
        cases x
        · simp
        · simpa using p4
      · cases h
    · cases h

theorem run_items_eq {P : Program} {d D : Nat} {e : TypeId} {l : List Nat} (hsh : eqShape P d e = some l) (hc : P.cellsOf e = l.length) (IH : EqA P D e l) (w : World) : ∀ (m i : Nat) (xs ys : List Value) (r : Bool),
    (xs.drop (i * l.length)).map cat = (List.replicate m l).flatten → (ys.drop (i * l.length)).map cat = (List.replicate m l).flatten → i * l.length ≤ xs.length → i * l.length ≤ ys.length → ceqL (xs.drop (i * l.length)) (ys.drop (i * l.length)) = some r →
    (Op.eqItems D e (P.cellsOf e) xs.toArray ys.toArray (List.range' i m)).run P w = .ok r w
  | 0, i, xs, ys, r, hx, hy, _, _, he => by
    simp only [List.replicate_zero, List.flatten_nil, List.map_eq_nil_iff] at hx hy
    rw [hx, hy] at he
    simp [ceqL] at he
    simp [Op.eqItems, he]
  | m + 1, i, xs, ys, r, hx, hy, h1, h2, he => by
    rw [List.replicate_succ, List.flatten_cons] at hx hy
    have hxl : (xs.drop (i * l.length)).length = l.length + (List.replicate m l).flatten.length := by rw [← List.length_map (f := cat), hx, List.length_append]
    have hyl : (ys.drop (i * l.length)).length = l.length + (List.replicate m l).flatten.length := by rw [← List.length_map (f := cat), hy, List.length_append]
    have hi : i * l.length + l.length = (i + 1) * l.length := by rw [Nat.add_mul]; omega
    have hxs : xs.drop (i * l.length) = (xs.drop (i * l.length)).take l.length ++ xs.drop ((i + 1) * l.length) := by rw [← hi, ← List.drop_drop, List.take_append_drop]
    have hys : ys.drop (i * l.length) = (ys.drop (i * l.length)).take l.length ++ ys.drop ((i + 1) * l.length) := by rw [← hi, ← List.drop_drop, List.take_append_drop]
    rw [hxs, List.map_append] at hx
    rw [hys, List.map_append] at hy
    obtain ⟨hx1, hx2⟩ := List.append_inj hx (by simp at hxl ⊢; omega)
    obtain ⟨hy1, hy2⟩ := List.append_inj hy (by simp at hyl ⊢; omega)
    rw [hxs, hys] at he
    obtain ⟨x, y, e1, e2, rfl⟩ := ceqL_append _ _ _ _ _ (by simp at hxl hyl ⊢; omega) he
    have p1 := run_part_val hsh hc w xs (i * l.length) (by simp at hxl; omega)
    have p2 := run_part_val hsh hc w ys (i * l.length) (by simp at hyl; omega)
    have p3 := IH w _ _ x hx1 hy1 e1
    have p4 := run_items_eq hsh hc IH w m (i + 1) xs ys y hx2 hy2 (by simp at hxl; omega) (by simp at hyl; omega) e2
    rw [List.range'_succ]
    simp only [Op.eqItems, Sem.run_bind, hc, p1, p2, p3, Result.andThen_ok]
    cases x
    · simp
    · rw [hc] at p4; simpa using p4

theorem eqA_all {P : Program} : ∀ (d D : Nat) (t : TypeId) (l : List Nat), d ≤ D → eqShape P d t = some l → EqA P D t l
  | 0, _, _, _, _, h => by simp [eqShape] at h
  | d + 1, 0, _, _, hd, _ => by omega
  | d + 1, D + 1, t, l, hd, h => by
    intro w xs ys r hx hy he
    have h' := h
    unfold eqShape at h
    cases hu : P.underlying t with
    | none => rw [hu] at h; cases h
    | some k =>
      rw [hu] at h
      have one : ∀ c : Nat, l = [c] → ∃ a b, xs = [a] ∧ ys = [b] ∧ cat a = c ∧ cat b = c ∧ ceq a b = some r := by
        intro c hl
        subst hl
        have hxl : xs.length = 1 := by rw [← List.length_map (f := cat), hx]; rfl
        have hyl : ys.length = 1 := by rw [← List.length_map (f := cat), hy]; rfl
        match xs, ys, hxl, hyl with
        | [a], [b], _, _ =>
          refine ⟨a, b, rfl, rfl, by simpa using hx, by simpa using hy, ?_⟩
          simp only [ceqL] at he
          split at he
          · rename_i x y h1 h2; simp at h2 he; subst h2; simp at he; rw [h1, he]
          · cases he
      cases k <;> first | (cases h; done) | skip
      case bool =>
        simp only [Option.some.injEq] at h
        obtain ⟨a, b, rfl, rfl, ha, hb, hab⟩ := one 1 h.symm
        cases a <;> simp [cat] at ha
        cases b <;> simp [cat] at hb
        simp [ceq] at hab
        subst hab
        simp [valOf, hu, nthV, run_equalIn_bool' w D t _ _ hu]
      case int q =>
        simp only [Option.some.injEq] at h
        obtain ⟨a, b, rfl, rfl, ha, hb, hab⟩ := one 0 h.symm
        cases a <;> simp [cat] at ha
        cases b <;> simp [cat] at hb
        simp only [ceq] at hab
        obtain ⟨hk, hab2⟩ := cond_none hab
        have := IntKind.same_eq hk
        subst this
        simp only [Option.some.injEq] at hab2
        subst hab2
        simp [valOf, hu, nthV, run_equalIn_int w D t _ _ _ _ hu]
      case string =>
        simp only [Option.some.injEq] at h
        obtain ⟨a, b, rfl, rfl, ha, hb, hab⟩ := one 2 h.symm
        cases a <;> simp [cat] at ha
        cases b <;> simp [cat] at hb
        simp only [ceq, Option.some.injEq] at hab
        subst hab
        simp [valOf, hu, nthV, run_equalIn_string w D t _ _ hu]
      case array n e =>
        replace h : (match eqShape P d e with | some l => if P.cellsOf e = l.length then some (List.replicate n l).flatten else none | none => none) = some l := h
        split at h
        · rename_i l1 hl1
          split at h
          · rename_i hc
            simp only [Option.some.injEq] at h
            subst h
            have hpe : ∃ i, P.info? e = some i := by
              cases d with
              | zero => simp [eqShape] at hl1
              | succ d' =>
                unfold eqShape at hl1
                cases hue : P.underlying e with
                | none => rw [hue] at hl1; cases hl1
                | some _ => exact info_of_underlying hue
            obtain ⟨i, hi⟩ := hpe
            have := run_items_eq hl1 hc (eqA_all d D e l1 (by omega) hl1) w n 0 xs ys r (by simpa using hx) (by simpa using hy) (by simp) (by simp) (by simpa using he)
            rw [← List.range_eq_range'] at this
            simp only [valOf, hu]
            rw [run_equalIn_array w D xs.toArray ys.toArray hu hi]
            exact this
          · cases h
        · cases h
      case struct fs =>
        replace h : (if P.stoodInHeld t then none else shapeF P (eqShape P d) fs.toList 0) = some l := h
        split at h
        · cases h
        · rename_i hs
          have hfs : P.fieldsOf t = fs := by simp [Program.fieldsOf, hu]
          simp only [valOf, hu]
          rw [run_equalIn_struct w D t _ _ (by rw [hfs]; exact hu) (by simpa using hs), hfs]
          exact run_fields_eq d D (fun t l h => eqA_all d D t l (by omega) h) w fs.toList 0 l xs ys r h (by simpa using hx) (by simpa using hy) (by simp) (by simp) (by simpa using he)

/-- The types whose values '==' holds against one another cell by cell. -/
abbrev EqT := List (TypeId × List Nat)
def eqty : EqT → TypeId → Option (List Nat)
  | [], _ => none
  | (u, l) :: r, t => bif Nat.beq u t then some l else eqty r t
structure EqTyOk (P : Program) (t : TypeId) (l : List Nat) : Prop where
  shape : eqShape P 60 t = some l
  guard : P.eqGuardType P.depth t = false
  agg : (match P.underlying t with | some (.struct _) | some (.array _ _) => true | _ => false) = true
def EqOk (P : Program) (E : EqT) : Prop := ∀ t l, eqty E t = some l → EqTyOk P t l
theorem EqOk.nil (P : Program) : EqOk P [] := fun _ _ h => by simp [eqty] at h
theorem EqOk.cons {P : Program} {E : EqT} {t : TypeId} {l : List Nat} (h : EqTyOk P t l) (r : EqOk P E) : EqOk P ((t, l) :: E) := fun u z e => by
  simp only [eqty] at e
  by_cases hu : t = u
  · subst hu; simp at e; subst e; exact h
  · have : Nat.beq t u = false := by rw [← Bool.not_eq_true, Nat.beq_eq]; exact hu
    rw [this] at e; exact r u z e

/-- The plain cells of a list, if all are. -/
def rawsD : List D → Option (List Value)
  | [] => some []
  | .raw v :: r => match rawsD r with
    | some l => some (v :: l)
    | none => none
  | _ => none
def beqL : List Nat → List Nat → Bool
  | [], [] => true
  | a :: r, b :: q => Nat.beq a b && beqL r q
  | _, _ => false
theorem beqL_eq : ∀ {a b : List Nat}, beqL a b = true → a = b
  | [], [], _ => rfl
  | [], _ :: _, h => by cases h
  | _ :: _, [], h => by cases h
  | a :: r, b :: q, h => by
    simp only [beqL, Bool.and_eq_true, Nat.beq_eq] at h
    rw [h.1, beqL_eq h.2]
theorem rawsD_ok {h : List Ob} {pl : List Pl} {w : World} : ∀ {cs : List D} {l : List Value}, rawsD cs = some l → ∀ (vs : List Value), vs.length = cs.length → (∀ i, i < cs.length → RelV Z h pl w (nth cs i) (nthV vs i)) → vs = l
  | [], l, e, vs, hl, _ => by simp [rawsD] at e; subst e; exact List.eq_nil_of_length_eq_zero (by simpa using hl)
  | c :: cs, l, e, vs, hl, hr => by
    cases c <;> simp only [rawsD, reduceCtorEq] at e
    rename_i v
    split at e
    · rename_i l' hl'
      simp only [Option.some.injEq] at e
      subst e
      match vs, hl with
      | u :: us, hl =>
        have h0 := inv_raw (hr 0 (by simp) : RelV Z h pl w (.raw v) u)
        have := rawsD_ok hl' us (by simpa using hl) (fun i hi => by have := hr (i + 1) (by simp; omega); simpa [nth, nthV] using this)
        have h0' : u = v := h0
        rw [h0', this]
    · cases e
def pbinA (E : EqT) (op : BinOp) (t : TypeId) : D → D → Ev
  | .agg a, .agg b => match eqty E t, rawsD a, rawsD b with
    | some l, some x, some y => bif beqL (x.map cat) l && beqL (y.map cat) l then match ceqL x y with
      | some r => match op with
        | .eql => some (True, .raw (.bool r))
        | .neq => some (True, .raw (.bool (!r)))
        | _ => none
      | none => none
      else none
    | _, _, _ => none
  | _, _ => none
theorem pbinA_ok {P : Program} {E : EqT} (hE : EqOk P E) {base nt : Nat} {s : St} {o : Oper} {op : BinOp} {t yt : TypeId} {x y : Operand} (ho : o.op = .binOp op t x y yt) {p : Prop} {d : D}
    (h : pbinA E op t (evalO s.fr x) (evalO s.fr y) = some (p, d)) : PureOk P base nt o s d := by
  intro Z pl a w r
  have hx := r.eval x
  have hy := r.eval y
  unfold pbinA at h
  generalize evalO s.fr x = dx at *
  generalize evalO s.fr y = dy at *
  split at h
  · split at h
    · rename_i l xs ys he hxs hys
      obtain ⟨hk, h2⟩ := cond_none h
      simp only [Bool.and_eq_true] at hk
      have hkx := beqL_eq hk.1
      have hky := beqL_eq hk.2
      split at h2
      · rename_i rr hr
        obtain ⟨us, hu, hul, hur⟩ := inv_agg hx
        obtain ⟨ws, hw, hwl, hwr⟩ := inv_agg hy
        have e1 := rawsD_ok hxs us hul hur
        have e2 := rawsD_ok hys ws hwl hwr
        subst e1; subst e2
        obtain ⟨hsh, hg, hagg⟩ := hE _ _ he
        have heq : ∀ w', (Op.equalIn 10000 t (.agg us.toArray) (.agg ws.toArray)).run P w' = .ok rr w' := by
          intro w'
          have := eqA_all 60 10000 t l (by omega) hsh w' us ws rr hkx hky hr
          unfold valOf at this
          split at this
          · exact this
          · exact this
          · rename_i h1 h2
            split at hagg
            · rename_i h3; exact absurd h3 (h1 _)
            · rename_i h3; exact absurd h3 (h2 _ _)
            · cases hagg
        split at h2
        · simp only [Option.some.injEq, Prod.mk.injEq] at h2
          obtain ⟨rfl, rfl⟩ := h2
          refine ⟨_, .cl _ _ (.raw _), fun w' _ => ?_⟩
          simp [execOp, ho, hu, hw, run_eqGuard_agg w' .eql t x y _ _ hg, run_eql_struct, heq]
        · simp only [Option.some.injEq, Prod.mk.injEq] at h2
          obtain ⟨rfl, rfl⟩ := h2
          refine ⟨_, .cl _ _ (.raw _), fun w' _ => ?_⟩
          simp [execOp, ho, hu, hw, run_eqGuard_agg w' .neq t x y _ _ hg, run_neq_struct, heq]
        · cases h2
      · cases h2
    · cases h
  · cases h
end Go.Fg
