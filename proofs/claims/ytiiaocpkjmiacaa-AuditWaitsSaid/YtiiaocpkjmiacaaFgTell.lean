/- A value told otherwise: a nil slice as one without elements, elements one by one. No conditions: laws. -/
import Derived.Test.YtiiaocpkjmiacaaFgFreeze
namespace Go.Fg
set_option linter.unusedSimpArgs false
set_option linter.unusedVariables false
def lLeOf (f : D → D → Prop) : List D → List D → Prop
  | [], [] => True
  | a :: r, b :: s => f a b ∧ lLeOf f r s
  | _, _ => False
/-- The value may be told as the other one. -/
def dLe : Nat → D → D → Prop
  | 0, d, d' => d' = d
  | k + 1, d, d' => match d' with
    | .raw v => d = .raw v
    | .undef => True
    | .nil => d = .nil
    | .imm z n r => match d with
      | .imm z' n' r' => z = z' ∧ n = n' ∧ ∀ i, i < n → lLeOf (dLe k) (r' i) (r i)
      | .nil => n = 0
      | _ => False
    | .ip cs => match d with
      | .ip cs' => lLeOf (dLe k) cs' cs
      | _ => False
    | .ref l g o n => d = .ref l g o n
    | .ptr l g i j => d = .ptr l g i j
    | .mref l g => d = .mref l g
    | .clo f nf cs => match d with
      | .clo f' nf' cs' => f = f' ∧ nf = nf' ∧ lLeOf (dLe k) cs' cs
      | _ => False
    | .agg cs => match d with
      | .agg cs' => lLeOf (dLe k) cs' cs
      | _ => False
    | .tup cs => match d with
      | .tup cs' => lLeOf (dLe k) cs' cs
      | _ => False
theorem lLeOf_refl {f : D → D → Prop} (h : ∀ d, f d d) : ∀ l, lLeOf f l l
  | [] => trivial
  | a :: r => ⟨h a, lLeOf_refl h r⟩
theorem dLe_refl : ∀ (k : Nat) (d : D), dLe k d d
  | 0, _ => rfl
  | k + 1, d => by cases d <;> simp [dLe] <;> first | exact lLeOf_refl (dLe_refl k) _ | exact fun _ _ => lLeOf_refl (dLe_refl k) _
theorem lLe_self (k : Nat) (l : List D) : lLeOf (dLe k) l l = True := eq_true (lLeOf_refl (dLe_refl k) l)
theorem lLeOf_nth {f : D → D → Prop} : ∀ {l m : List D}, lLeOf f l m → m.length = l.length ∧ ∀ i, i < l.length → f (nth l i) (nth m i)
  | [], [], _ => ⟨rfl, fun i hi => by simp at hi⟩
  | [], _ :: _, h => h.elim
  | _ :: _, [], h => h.elim
  | a :: r, b :: s, h => by
    obtain ⟨h1, h2⟩ := lLeOf_nth h.2
    refine ⟨by simp [h1], fun i hi => ?_⟩
    cases i with
    | zero => exact h.1
    | succ i => have := h2 i (by simpa using hi); simpa [nth] using this
theorem dLe_cl : ∀ (k : Nat) {N : Nat → Prop} {w : World} {d d' : D} {v : Value}, dLe k d d' → Cl N w d v → Cl N w d' v
  | 0, _, _, d, d', v, h, c => by have h : d' = d := h; subst h; exact c
  | k + 1, N, w, d, d', v, h, c => by
    cases d' <;> simp only [dLe] at h
    case raw => subst h; exact c
    case undef => exact .undef _
    case nil => subst h; exact c
    case imm z n r =>
      split at h
      · obtain ⟨rfl, rfl, h⟩ := h
        cases c with
        | imm _ _ _ a cap b o vs ha hl hs hc hr =>
          exact .imm _ _ _ a cap b o vs ha hl (fun i hi => by rw [(lLeOf_nth (h i hi)).1]; exact hs i hi) hc (fun i j hi hj => dLe_cl k ((lLeOf_nth (h i hi)).2 j (by rw [hs i hi]; exact hj)) (hr i j hi hj))
      · subst h
        cases c with
        | nil a => exact .imm _ _ _ _ _ 0 0 (fun _ _ => Go.undef) (fun h => by omega) (by omega) (fun i hi => by omega) (fun i j hi => by omega) (fun i j hi => by omega)
      · exact h.elim
    case ip cs =>
      split at h
      · obtain ⟨h1, h2⟩ := lLeOf_nth h
        cases c with
        | ip _ b o vs hc hr => exact .ip _ b o vs (fun j hj => hc j (by omega)) (fun j hj => dLe_cl k (h2 j (by omega)) (hr j (by omega)))
      · exact h.elim
    case ref => subst h; exact c
    case ptr => subst h; exact c
    case mref => subst h; exact c
    case clo f nf cs =>
      split at h
      · obtain ⟨rfl, rfl, h⟩ := h
        obtain ⟨h1, h2⟩ := lLeOf_nth h
        cases c with
        | clo _ _ _ vs hl hr => exact .clo _ _ _ vs (by omega) (fun j hj => dLe_cl k (h2 j (by omega)) (hr j (by omega)))
      · exact h.elim
    case agg cs =>
      split at h
      · obtain ⟨h1, h2⟩ := lLeOf_nth h
        cases c with
        | agg _ vs hl hr => exact .agg _ vs (by omega) (fun j hj => dLe_cl k (h2 j (by omega)) (hr j (by omega)))
      · exact h.elim
    case tup cs =>
      split at h
      · obtain ⟨h1, h2⟩ := lLeOf_nth h
        cases c with
        | tup _ vs hl hr => exact .tup _ vs (by omega) (fun j hj => dLe_cl k (h2 j (by omega)) (hr j (by omega)))
      · exact h.elim
theorem dLe_rel : ∀ (k : Nat) {Z : Nat → Prop} {h : List Ob} {pl : List Pl} {w : World} {d d' : D} {v : Value}, dLe k d d' → RelV Z h pl w d v → RelV Z h pl w d' v
  | 0, _, _, _, _, d, d', v, e, c => by have e : d' = d := e; subst e; exact c
  | k + 1, Z, h, pl, w, d, d', v, e, c => by
    cases c with
    | cl _ _ hc => exact .cl _ _ (dLe_cl (k + 1) e hc)
    | ref l g off len o p a cap ho hp hk hg hs =>
      cases d' <;> simp only [dLe, reduceCtorEq] at e
      · exact .cl _ _ (.undef _)
      · cases e; exact .ref l g off len o p a cap ho hp hk hg hs
    | ptr l g i j o p a ho hp hk hg hs =>
      cases d' <;> simp only [dLe, reduceCtorEq] at e
      · exact .cl _ _ (.undef _)
      · cases e; exact .ptr l g i j o p a ho hp hk hg hs
    | mref l g o p b ho hp hk hg hs =>
      cases d' <;> simp only [dLe, reduceCtorEq] at e
      · exact .cl _ _ (.undef _)
      · cases e; exact .mref l g o p b ho hp hk hg hs
    | clo f nf cs vs hl hr =>
      cases d' <;> simp only [dLe, reduceCtorEq] at e
      · exact .cl _ _ (.undef _)
      · obtain ⟨rfl, rfl, e⟩ := e
        obtain ⟨h1, h2⟩ := lLeOf_nth e
        exact .clo _ _ _ vs (by omega) (fun j hj => dLe_rel k (h2 j (by omega)) (hr j (by omega)))
    | agg cs vs hl hr =>
      cases d' <;> simp only [dLe, reduceCtorEq] at e
      · exact .cl _ _ (.undef _)
      · obtain ⟨h1, h2⟩ := lLeOf_nth e
        exact .agg _ vs (by omega) (fun j hj => dLe_rel k (h2 j (by omega)) (hr j (by omega)))
    | tup cs vs hl hr =>
      cases d' <;> simp only [dLe, reduceCtorEq] at e
      · exact .cl _ _ (.undef _)
      · obtain ⟨h1, h2⟩ := lLeOf_nth e
        exact .tup _ vs (by omega) (fun j hj => dLe_rel k (h2 j (by omega)) (hr j (by omega)))

def Told (R : D → List Ob → Prop) (d : D) (h : List Ob) : Prop := ∃ d', dLe 6 d d' ∧ R d' h
/-- What a function hands back, told otherwise. -/
theorem MFn.tell {P : Program} {f : FuncId} {F : List Ob} {args : List D} {R : D → List Ob → Prop} (h : MFn P f F args (Told R)) : MFn P f F args R := fun Z base w pl vs h1 h2 h3 hl hc =>
  (h Z base w pl vs h1 h2 h3 hl hc).mono fun _ _ ⟨v, d, hh, pl', k1, ⟨d', e1, e2⟩, k3, k4, k5⟩ => ⟨v, d', hh, pl', k1, e2, k3, dLe_rel 6 e1 k4, k5⟩
theorem AFn.tell {P : Program} {f : FuncId} {args : List D} {R : D → List Ob → Prop} (h : AFn P f args (Told R)) : AFn P f args R := MFn.tell h
/-- What a function is given, told otherwise. -/
theorem MFn.tellArgs {P : Program} {f : FuncId} {F : List Ob} {cs' cs : List D} {R : D → List Ob → Prop} (h : MFn P f F cs R) (e : lLeOf (dLe 6) cs' cs) : MFn P f F cs' R := fun Z base w pl vs h1 h2 h3 hl hc => by
  obtain ⟨e1, e2⟩ := lLeOf_nth e
  exact h Z base w pl vs h1 h2 h3 (by omega) fun i hi => dLe_rel 6 (e2 i (by omega)) (hc i (by omega))
def frTell (fr : List (Nat × D)) : List (Nat × D) → Prop
  | [] => True
  | (t, d) :: r => dLe 6 (get fr t) d ∧ frTell fr r
theorem frTell_mem {fr : List (Nat × D)} : ∀ {r : List (Nat × D)}, frTell fr r → ∀ t d, (t, d) ∈ r → dLe 6 (get fr t) d
  | [], _, _, _, h => by cases h
  | (u, e) :: r, h, t, d, hm => by
    rcases List.mem_cons.1 hm with h1 | h1
    · cases h1; exact h.1
    · exact frTell_mem h.2 t d h1
def obTell (o o' : Ob) : Prop := o'.gen = o.gen ∧ o'.sz = o.sz ∧ o'.n = o.n ∧ o'.kd.like o.kd ∧ ∀ i, i < o.n → lLeOf (dLe 6) (o.row i) (o'.row i)
def obsTell : List Ob → List Ob → Prop
  | [], [] => True
  | o :: r, o' :: r' => obTell o o' ∧ obsTell r r'
  | _, _ => False
theorem obsTell_get : ∀ {h h' : List Ob}, obsTell h h' → h'.length = h.length ∧ ∀ (l : Nat) (o' : Ob), h'[l]? = some o' → ∃ o, h[l]? = some o ∧ obTell o o'
  | [], [], _ => ⟨rfl, fun l o' e => by simp at e⟩
  | [], _ :: _, h => h.elim
  | _ :: _, [], h => h.elim
  | o :: r, o' :: r', h => by
    obtain ⟨h1, h2⟩ := obsTell_get h.2
    refine ⟨by simp [h1], fun l u e => ?_⟩
    cases l with
    | zero => simp at e; subst e; exact ⟨o, rfl, h.1⟩
    | succ l => simp at e; obtain ⟨v, h3, h4⟩ := h2 l u e; exact ⟨v, by simpa using h3, h4⟩
/-- Slots and rows told otherwise. -/
theorem Wk.tell {m : Nat} {fr fr' : List (Nat × D)} {h h' : List Ob} (hf : frTell fr fr') (hl : obsTell h h') : Wk m ⟨fr, h⟩ ⟨fr', h'⟩ := fun Z base nt pl a w r => by
  obtain ⟨h1, h2⟩ := obsTell_get hl
  have key : ∀ (l : Nat) (o : Ob), h[l]? = some o → ∃ o', h'[l]? = some o' ∧ obTell o o' := fun l o e => by
    have : l < h'.length := by rw [h1]; exact lt_of_some e
    obtain ⟨o2, h3, h4⟩ := h2 l _ (List.getElem?_eq_getElem this)
    rw [e] at h3; cases h3
    exact ⟨_, List.getElem?_eq_getElem this, h4⟩
  have rel : ∀ {d : D} {v : Value}, RelV Z h pl w d v → RelV Z h' pl w d v := fun r => by
    induction r with
    | cl d v hc => exact .cl d v hc
    | ref l g off len o p a cap ho hp hk hg hs =>
      obtain ⟨o', h3, h4⟩ := key l o ho
      exact .ref l g off len o' p a cap h3 hp (by rw [h4.2.2.2.1.1]; exact hk) (by rw [h4.1]; exact hg) (fun e => by rw [h4.2.1]; exact hs (by rw [e, h4.1]))
    | ptr l g i j o p a ho hp hk hg hs =>
      obtain ⟨o', h3, h4⟩ := key l o ho
      exact .ptr l g i j o' p a h3 hp (by rw [h4.2.2.2.1.1]; exact hk) (by rw [h4.1]; exact hg) (fun e => by rw [h4.2.1]; exact hs (by rw [e, h4.1]))
    | mref l g o p b ho hp hk hg hs =>
      obtain ⟨o', h3, h4⟩ := key l o ho
      exact .mref l g o' p b h3 hp (by rw [h4.2.2.2.1.1]; exact hk) (by rw [h4.1]; exact hg) (fun e => hs (by rw [e, h4.1]))
    | clo f nf cs vs hl hr ih => exact .clo f nf cs vs hl ih
    | agg cs vs hl hr ih => exact .agg cs vs hl ih
    | tup cs vs hl hr ih => exact .tup cs vs hl ih
  refine ⟨pl, ⟨r.nt, r.defers, fun t => ?_, ⟨by rw [h1]; exact r.o.len, r.o.inj, fun l o' ho hp => ?_, fun l o' b q ho hp => ?_⟩⟩, fun _ h => h, fun l o p _ ho hp => ?_⟩
  · rcases mem_get fr' t with h1 | h1
    · show RelV Z h' pl w (get fr' t) _
      rw [h1]; exact .cl _ _ (.undef _)
    · exact dLe_rel 6 (frTell_mem hf _ _ h1) (rel (r.fr t))
  · obtain ⟨o, h3, h4⟩ := h2 l o' ho
    rw [h4.2.2.1]; exact r.o.noRow l o h3 hp
  · obtain ⟨o, h3, h4, h5, h6, h8, h7⟩ := h2 l o' ho
    obtain ⟨g1, x⟩ := r.o.at_ l o b q h3 hp
    exact ⟨fun hr => g1 (by rw [← h8.2, hr]), x.to h8.1 h5 h6 rfl (fun i hi => (lLeOf_nth (h7 i hi)).1) fun i j v hi hj hr => dLe_rel 6 ((lLeOf_nth (h7 i hi)).2 j hj) (rel hr)⟩
  · obtain ⟨o', h3, h4⟩ := key l o ho
    exact ⟨o', h3, hp, h4.1, h4.2.1, h4.2.2.2.1.1⟩
theorem Weak.tell {w0 : Start} {fr fr' : List (Nat × D)} {h h' : List Ob} (hf : frTell fr fr' ∧ obsTell h h') : Weak w0 ⟨fr, h⟩ ⟨fr', h'⟩ := (Wk.tell hf.1 hf.2).up
/-- As Weak.to, with values told otherwise. -/
theorem Weak.toT {w0 : Start} (k : Nat) {fr fr' : List (Nat × D)} {h h' : List Ob} (hw : frTell fr fr' ∧ obsTell h (h' ++ h.drop k) ∧ frUpto k fr' = true ∧ obsUpto k h' ∧ h'.length = k) (hm : w0.F.length ≤ k := by exact Nat.le_of_ble_eq_true rfl) : Weak w0 ⟨fr, h⟩ ⟨fr', h'⟩ := by
  refine Weak.trans (Weak.tell ⟨hw.1, hw.2.1⟩) ?_
  have e : (h' ++ h.drop k).take k = h' := by rw [List.take_append_of_le_length (by omega), List.take_of_length_le (by omega)]
  have := Wk.drop (m := w0.F.length) k hm (fr := fr') (h := h' ++ h.drop k) hw.2.2.1 (by rw [e]; exact hw.2.2.2.1)
  rw [e] at this
  exact this.up
/-- A nil slice in a variable's cell j told as a slice over an object without rows. -/
theorem Wk.phantomOb {m : Nat} {fr : List (Nat × D)} {h : List Ob} (l j sz : Nat) (row : Nat → List D) {o : Ob} (ho : h[l]? = some o) (hk : o.kd.ty = 0) (hn : o.n = 1) (hj : nth (o.row 0) j = .nil) :
    Wk m ⟨fr, h⟩ ⟨fr, (h.set l ⟨o.kd, o.gen, o.sz, o.n, fun _ => (o.row 0).set j (.ref h.length 0 0 0)⟩) ++ [⟨.arr, 0, sz, 0, row⟩]⟩ := fun Z base nt pl a w r => by
  have hpl : pl.length = h.length := r.o.len
  have hlt := lt_of_some ho
  have hlp : l < pl.length := by omega
  -- told as it is, with the phantom
  have rel : ∀ {d : D} {v : Value}, RelV Z h pl w d v → RelV Z ((h.set l ⟨o.kd, o.gen, o.sz, o.n, fun _ => (o.row 0).set j (.ref h.length 0 0 0)⟩) ++ [⟨.arr, 0, sz, 0, row⟩]) (pl ++ [none]) w d v := fun r => by
    have key : ∀ (l' : Nat) (o' : Ob), h[l']? = some o' → ∃ u, ((h.set l ⟨o.kd, o.gen, o.sz, o.n, fun _ => (o.row 0).set j (.ref h.length 0 0 0)⟩) ++ [⟨.arr, 0, sz, 0, row⟩])[l']? = some u ∧ u.gen = o'.gen ∧ u.sz = o'.sz ∧ u.kd.ty = o'.kd.ty := fun l' o' e => by
      rw [List.getElem?_append_left (by simpa using lt_of_some e)]
      by_cases hl : l = l'
      · subst hl
        rw [ho] at e; cases e
        exact ⟨⟨o.kd, o.gen, o.sz, o.n, fun _ => (o.row 0).set j (.ref h.length 0 0 0)⟩, by rw [List.getElem?_set_self hlt], rfl, rfl, rfl⟩
      · exact ⟨o', by rw [List.getElem?_set_ne hl]; exact e, rfl, rfl, rfl⟩
    have T : Tr h pl w ((h.set l ⟨o.kd, o.gen, o.sz, o.n, fun _ => (o.row 0).set j (.ref h.length 0 0 0)⟩) ++ [⟨.arr, 0, sz, 0, row⟩]) (pl ++ [none]) w :=
      ⟨fun b hb _ => ⟨away_append hb (fun q e => by cases e), rfl⟩, fun l' o' p e e2 => by
        obtain ⟨u, u1, u2, u3, u4⟩ := key l' o' e
        exact ⟨u, p, u1, append_left_some e2, by omega, u4, fun _ => ⟨u3, rfl⟩⟩, fun l' o' u b q e e' hg hp c el hb => ⟨c, hb, rfl⟩⟩
    exact r.tr T
  refine ⟨pl ++ [none], ⟨r.nt, r.defers, fun t => rel (r.fr t), ⟨by simp [hpl], fun l1 l2 b q q' e1 e2 => ?_, fun l1 o1 h1 e1 => ?_, fun l1 o1 b q h1 e1 => ?_⟩⟩, fun b hb => away_append hb (fun q e => by cases e), fun l1 o1 p _ h1 e1 => ?_⟩
  · rcases append_inv e1 with k1 | ⟨_, k1⟩
    · rcases append_inv e2 with k2 | ⟨_, k2⟩
      · exact r.o.inj _ _ _ _ _ k1 k2
      · cases k2
    · cases k1
  · rcases append_inv h1 with k1 | ⟨k0, k1⟩
    · have hl1 : l1 < pl.length := by have := lt_of_some k1; simp at this; omega
      rw [List.getElem?_append_left hl1] at e1
      by_cases hl : l = l1
      · subst hl
        rw [List.getElem?_set_self hlt] at k1; cases k1
        exact r.o.noRow l o ho e1
      · rw [List.getElem?_set_ne hl] at k1
        exact r.o.noRow l1 o1 k1 e1
    · subst k1; rfl
  · rcases append_inv h1 with k1 | ⟨k0, k1⟩
    · have hl1 : l1 < pl.length := by have := lt_of_some k1; simp at this; omega
      rw [List.getElem?_append_left hl1] at e1
      by_cases hl : l = l1
      · subst hl
        rw [List.getElem?_set_self hlt] at k1; cases k1
        obtain ⟨g1, x⟩ := r.o.at_ l o b q ho e1
        refine ⟨g1, ?_⟩
        obtain ⟨c, el, c1, c2, c3, c4⟩ := x.cells hk
        refine ObAt.ofCells hk ⟨c, el, c1, c2, fun i hi => ?_, fun i k hi hk' => ?_⟩
        · have hi : i < o.n := hi
          obtain rfl : i = 0 := by omega
          show ((o.row 0).set j _).length = o.sz
          rw [List.length_set]; exact c3 0 hi
        · have hi : i < o.n := hi
          obtain rfl : i = 0 := by omega
          obtain ⟨v, hv, hr⟩ := c4 0 k hi hk'
          refine ⟨v, hv, ?_⟩
          show RelV Z _ _ w (nth ((o.row 0).set j _) k) v
          by_cases hjk : j = k
          · subst hjk
            rw [hj] at hr
            obtain ⟨ad, rfl⟩ := inv_nil hr
            have hlen : j < (o.row 0).length := by rw [c3 0 hi]; exact hk'
            rw [show nth ((o.row 0).set j (.ref h.length 0 0 0)) j = .ref h.length 0 0 0 by simp [nth, List.getD_eq_getElem?_getD, hlen]]
            exact .ref _ _ _ _ ⟨.arr, 0, sz, 0, row⟩ none ad 0 (by rw [List.getElem?_append_right (by simp)]; simp) (by rw [List.getElem?_append_right (by omega)]; simp [hpl]) rfl (Nat.le_refl _) (fun _ => .inl ⟨rfl, rfl⟩)
          · rw [show nth ((o.row 0).set j (.ref h.length 0 0 0)) k = nth (o.row 0) k by simp [nth, List.getD_eq_getElem?_getD, List.getElem?_set_ne hjk]]
            exact rel hr
      · rw [List.getElem?_set_ne hl] at k1
        obtain ⟨g1, x⟩ := r.o.at_ l1 o1 b q k1 e1
        exact ⟨g1, x.to rfl rfl rfl rfl (fun _ _ => rfl) fun i k v _ _ hr => rel hr⟩
    · rcases append_inv e1 with k2 | ⟨_, k2⟩
      · have := ltp_of_some k2; simp at k0; omega
      · cases k2
  · by_cases hl : l = l1
    · subst hl
      have h1 : h[l]? = some o1 := h1
      rw [ho] at h1; cases h1
      exact ⟨⟨o.kd, o.gen, o.sz, o.n, fun _ => (o.row 0).set j (.ref h.length 0 0 0)⟩, by rw [List.getElem?_append_left (by simpa using hlt), List.getElem?_set_self hlt], append_left_some e1, rfl, rfl, rfl⟩
    · exact ⟨o1, by rw [List.getElem?_append_left (by simpa using lt_of_some h1), List.getElem?_set_ne hl]; exact h1, append_left_some e1, rfl, rfl, rfl⟩
theorem Weak.phantomOb {w0 : Start} {fr : List (Nat × D)} {h : List Ob} (l j sz : Nat) (row : Nat → List D) {o : Ob} (ho : h[l]? = some o) (hk : o.kd.ty = 0) (hn : o.n = 1) (hj : nth (o.row 0) j = .nil) :
    Weak w0 ⟨fr, h⟩ ⟨fr, (h.set l ⟨o.kd, o.gen, o.sz, o.n, fun _ => (o.row 0).set j (.ref h.length 0 0 0)⟩) ++ [⟨.arr, 0, sz, 0, row⟩]⟩ := (Wk.phantomOb l j sz row ho hk hn hj).up
section
variable {k : Nat} {d : D}
theorem dLe_self : dLe k d d = True := eq_true (dLe_refl k d)
theorem dLe_raw {v : Value} : dLe (k + 1) d (.raw v) = (d = .raw v) := rfl
theorem dLe_undef : dLe (k + 1) d .undef = True := rfl
theorem dLe_nil : dLe (k + 1) d .nil = (d = .nil) := rfl
theorem dLe_imm {z n z' n' : Nat} {r r' : Nat → List D} : dLe (k + 1) (.imm z' n' r') (.imm z n r) = (z = z' ∧ n = n' ∧ ∀ i, i < n → lLeOf (dLe k) (r' i) (r i)) := rfl
theorem dLe_nil_imm {z n : Nat} {r : Nat → List D} : dLe (k + 1) .nil (.imm z n r) = (n = 0) := rfl
theorem dLe_ref {l g o n : Nat} : dLe (k + 1) d (.ref l g o n) = (d = .ref l g o n) := rfl
theorem dLe_ptr {l g i j : Nat} : dLe (k + 1) d (.ptr l g i j) = (d = .ptr l g i j) := rfl
theorem dLe_mref {l g : Nat} : dLe (k + 1) d (.mref l g) = (d = .mref l g) := rfl
theorem dLe_ip {cs cs' : List D} : dLe (k + 1) (.ip cs') (.ip cs) = lLeOf (dLe k) cs' cs := rfl
theorem dLe_clo {f f' : FuncId} {nf nf' : Nat} {cs cs' : List D} : dLe (k + 1) (.clo f' nf' cs') (.clo f nf cs) = (f = f' ∧ nf = nf' ∧ lLeOf (dLe k) cs' cs) := rfl
theorem dLe_agg {cs cs' : List D} : dLe (k + 1) (.agg cs') (.agg cs) = lLeOf (dLe k) cs' cs := rfl
theorem dLe_tup {cs cs' : List D} : dLe (k + 1) (.tup cs') (.tup cs) = lLeOf (dLe k) cs' cs := rfl
theorem lLe_nil {f : D → D → Prop} : lLeOf f [] [] = True := rfl
theorem lLe_cons {f : D → D → Prop} {a b : D} {r s : List D} : lLeOf f (a :: r) (b :: s) = (f a b ∧ lLeOf f r s) := rfl
end
attribute [go_sem] dLe_self dLe_raw dLe_undef dLe_nil dLe_imm dLe_nil_imm dLe_ref dLe_ptr dLe_mref dLe_ip dLe_clo dLe_agg dLe_tup lLe_nil lLe_cons lLe_self frTell obTell obsTell
/-- Rows, one more of which is told. -/
theorem tell_snoc {f g : Nat → List D} {r : List D} {k : Nat} (h : ∀ i, i < k → lLeOf (dLe 6) (f i) (g i)) (hk : lLeOf (dLe 6) r (g k)) : ∀ i, i < k + 1 → lLeOf (dLe 6) (bif decide (i < k) then f i else r) (g i) := fun i hi => by
  rcases Nat.lt_succ_iff_lt_or_eq.1 hi with h1 | rfl
  · simp only [h1, decide_true, cond_true]; exact h i h1
  · simp only [Nat.lt_irrefl, decide_false, cond_false]; exact hk
end Go.Fg
