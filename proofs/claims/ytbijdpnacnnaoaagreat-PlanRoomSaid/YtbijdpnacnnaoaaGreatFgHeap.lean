/- Walks of the functions that the statement reaches. No conditions: contracts and laws. -/
import Derived.Test.YtbijdpnacnnaoaaGreatFgFreeze
namespace Go.Fg
set_option linter.unusedSimpArgs false
set_option linter.unusedVariables false
def lLeOf (f : D → D → Prop) : List D → List D → Prop
  | [], [] => True
  | a :: r, b :: s => f a b ∧ lLeOf f r s
  | _, _ => False
/-- The value may be told ens the other one. -/
def dLe : Nat → D → D → Prop
  | 0, d, d' => d' = d
  | k + 1, d, d' => match d' with
    | .raw v => d = .raw v
    | .undef => True
    | .nil => d = .nil
    | .imm z n r => match d with
      | .imm z' n' r' => z = z' ∧ n = n' ∧ ∀ i, i < n → lLeOf (dLe k) (r' i) (r i)
      | .nil => n = 0
      | _ => False
    | .ip cs => match d with
      | .ip cs' => lLeOf (dLe k) cs' cs
      | _ => False
    | .ref l g o n => d = .ref l g o n
    | .ptr l g i j => d = .ptr l g i j
    | .mref l g => d = .mref l g
    | .clo f nf cs => match d with
      | .clo f' nf' cs' => f = f' ∧ nf = nf' ∧ lLeOf (dLe k) cs' cs
      | _ => False
    | .agg cs => match d with
      | .agg cs' => lLeOf (dLe k) cs' cs
      | _ => False
    | .tup cs => match d with
      | .tup cs' => lLeOf (dLe k) cs' cs
      | _ => False
theorem lLeOf_refl {f : D → D → Prop} (h : ∀ d, f d d) : ∀ l, lLeOf f l l
  | [] => trivial
  | a :: r => ⟨h a, lLeOf_refl h r⟩
theorem dLe_refl : ∀ (k : Nat) (d : D), dLe k d d
  | 0, _ => rfl
  | k + 1, d => by cases d <;> simp [dLe] <;> first | exact lLeOf_refl (dLe_refl k) _ | exact fun _ _ => lLeOf_refl (dLe_refl k) _
theorem lLe_self (k : Nat) (l : List D) : lLeOf (dLe k) l l = True := eq_true (lLeOf_refl (dLe_refl k) l)
theorem lLeOf_nth {f : D → D → Prop} : ∀ {l m : List D}, lLeOf f l m → m.length = l.length ∧ ∀ i, i < l.length → f (nth l i) (nth m i)
  | [], [], _ => ⟨rfl, fun i hi => by simp at hi⟩
  | [], _ :: _, h => h.elim
  | _ :: _, [], h => h.elim
  | a :: r, b :: s, h => by
    obtain ⟨h1, h2⟩ := lLeOf_nth h.2
    refine ⟨by simp [h1], fun i hi => ?_⟩
    cases i with
    | zero => exact h.1
    | succ i => have := h2 i (by simpa using hi); simpa [nth] using this
theorem dLe_cl : ∀ (k : Nat) {N : Nat → Prop} {w : World} {d d' : D} {v : Value}, dLe k d d' → Cl N w d v → Cl N w d' v
  | 0, _, _, d, d', v, h, c => by have h : d' = d := h; subst h; exact c
  | k + 1, N, w, d, d', v, h, c => by
    cases d' <;> simp only [dLe] at h
    case raw => subst h; exact c
    case undef => exact .undef _
    case nil => subst h; exact c
    case imm z n r =>
      split at h
      · obtain ⟨rfl, rfl, h⟩ := h
        cases c with
        | imm _ _ _ a cap b o vs ha hl hs hc hr =>
          exact .imm _ _ _ a cap b o vs ha hl (fun i hi => by rw [(lLeOf_nth (h i hi)).1]; exact hs i hi) hc (fun i j hi hj => dLe_cl k ((lLeOf_nth (h i hi)).2 j (by rw [hs i hi]; exact hj)) (hr i j hi hj))
      · subst h
        cases c with
        | nil a => exact .imm _ _ _ _ _ 0 0 (fun _ _ => Go.undef) (fun h => by omega) (by omega) (fun i hi => by omega) (fun i j hi => by omega) (fun i j hi => by omega)
      · exact h.elim
    case ip cs =>
      split at h
      · obtain ⟨h1, h2⟩ := lLeOf_nth h
        cases c with
        | ip _ b o vs hc hr => exact .ip _ b o vs (fun j hj => hc j (by omega)) (fun j hj => dLe_cl k (h2 j (by omega)) (hr j (by omega)))
      · exact h.elim
    case ref => subst h; exact c
    case ptr => subst h; exact c
    case mref => subst h; exact c
    case clo f nf cs =>
      split at h
      · obtain ⟨rfl, rfl, h⟩ := h
        obtain ⟨h1, h2⟩ := lLeOf_nth h
        cases c with
        | clo _ _ _ vs hl hr => exact .clo _ _ _ vs (by omega) (fun j hj => dLe_cl k (h2 j (by omega)) (hr j (by omega)))
      · exact h.elim
    case agg cs =>
      split at h
      · obtain ⟨h1, h2⟩ := lLeOf_nth h
        cases c with
        | agg _ vs hl hr => exact .agg _ vs (by omega) (fun j hj => dLe_cl k (h2 j (by omega)) (hr j (by omega)))
      · exact h.elim
    case tup cs =>
      split at h
      · obtain ⟨h1, h2⟩ := lLeOf_nth h
        cases c with
        | tup _ vs hl hr => exact .tup _ vs (by omega) (fun j hj => dLe_cl k (h2 j (by omega)) (hr j (by omega)))
      · exact h.elim
theorem dLe_rel : ∀ (k : Nat) {Z : Nat → Prop} {h : List Ob} {pl : List Pl} {w : World} {d d' : D} {v : Value}, dLe k d d' → RelV Z h pl w d v → RelV Z h pl w d' v
  | 0, _, _, _, _, d, d', v, e, c => by have e : d' = d := e; subst e; exact c
  | k + 1, Z, h, pl, w, d, d', v, e, c => by
    cases c with
    | cl _ _ hc => exact .cl _ _ (dLe_cl (k + 1) e hc)
    | ref l g off len o p a cap ho hp hk hg hs =>
      cases d' <;> simp only [dLe, reduceCtorEq] at e
      · exact .cl _ _ (.undef _)
      · cases e; exact .ref l g off len o p a cap ho hp hk hg hs
    | ptr l g i j o p a ho hp hk hg hs =>
      cases d' <;> simp only [dLe, reduceCtorEq] at e
      · exact .cl _ _ (.undef _)
      · cases e; exact .ptr l g i j o p a ho hp hk hg hs
    | mref l g o p b ho hp hk hg hs =>
      cases d' <;> simp only [dLe, reduceCtorEq] at e
      · exact .cl _ _ (.undef _)
      · cases e; exact .mref l g o p b ho hp hk hg hs
    | clo f nf cs vs hl hr =>
      cases d' <;> simp only [dLe, reduceCtorEq] at e
      · exact .cl _ _ (.undef _)
      · obtain ⟨rfl, rfl, e⟩ := e
        obtain ⟨h1, h2⟩ := lLeOf_nth e
        exact .clo _ _ _ vs (by omega) (fun j hj => dLe_rel k (h2 j (by omega)) (hr j (by omega)))
    | agg cs vs hl hr =>
      cases d' <;> simp only [dLe, reduceCtorEq] at e
      · exact .cl _ _ (.undef _)
      · obtain ⟨h1, h2⟩ := lLeOf_nth e
        exact .agg _ vs (by omega) (fun j hj => dLe_rel k (h2 j (by omega)) (hr j (by omega)))
    | tup cs vs hl hr =>
      cases d' <;> simp only [dLe, reduceCtorEq] at e
      · exact .cl _ _ (.undef _)
      · obtain ⟨h1, h2⟩ := lLeOf_nth e
        exact .tup _ vs (by omega) (fun j hj => dLe_rel k (h2 j (by omega)) (hr j (by omega)))

def Told (R : D → List Ob → Prop) (d : D) (h : List Ob) : Prop := ∃ d', dLe 6 d d' ∧ R d' h
/-- What a function hands back, told otherwise. -/
theorem MFn.tell {P : Program} {f : FuncId} {F : List Ob} {args : List D} {R : D → List Ob → Prop} (h : MFn P f F args (Told R)) : MFn P f F args R := fun Z base w pl vs h1 h2 h3 hl hc =>
  (h Z base w pl vs h1 h2 h3 hl hc).mono fun _ _ ⟨v, d, hh, pl', k1, ⟨d', e1, e2⟩, k3, k4, k5⟩ => ⟨v, d', hh, pl', k1, e2, k3, dLe_rel 6 e1 k4, k5⟩
theorem AFn.tell {P : Program} {f : FuncId} {args : List D} {R : D → List Ob → Prop} (h : AFn P f args (Told R)) : AFn P f args R := MFn.tell h
/-- What a function is given, told otherwise. -/
theorem MFn.tellArgs {P : Program} {f : FuncId} {F : List Ob} {cs' cs : List D} {R : D → List Ob → Prop} (h : MFn P f F cs R) (e : lLeOf (dLe 6) cs' cs) : MFn P f F cs' R := fun Z base w pl vs h1 h2 h3 hl hc => by
  obtain ⟨e1, e2⟩ := lLeOf_nth e
  exact h Z base w pl vs h1 h2 h3 (by omega) fun i hi => dLe_rel 6 (e2 i (by omega)) (hc i (by omega))
def frTell (fr : List (Nat × D)) : List (Nat × D) → Prop
  | [] => True
  | (t, d) :: r => dLe 6 (get fr t) d ∧ frTell fr r
theorem frTell_mem {fr : List (Nat × D)} : ∀ {r : List (Nat × D)}, frTell fr r → ∀ t d, (t, d) ∈ r → dLe 6 (get fr t) d
  | [], _, _, _, h => by cases h
  | (u, e) :: r, h, t, d, hm => by
    rcases List.mem_cons.1 hm with h1 | h1
    · cases h1; exact h.1
    · exact frTell_mem h.2 t d h1
def obTell (o o' : Ob) : Prop := o'.gen = o.gen ∧ o'.sz = o.sz ∧ o'.n = o.n ∧ o'.kd.like o.kd ∧ ∀ i, i < o.n → lLeOf (dLe 6) (o.row i) (o'.row i)
def obsTell : List Ob → List Ob → Prop
  | [], [] => True
  | o :: r, o' :: r' => obTell o o' ∧ obsTell r r'
  | _, _ => False
theorem obsTell_get : ∀ {h h' : List Ob}, obsTell h h' → h'.length = h.length ∧ ∀ (l : Nat) (o' : Ob), h'[l]? = some o' → ∃ o, h[l]? = some o ∧ obTell o o'
  | [], [], _ => ⟨rfl, fun l o' e => by simp at e⟩
  | [], _ :: _, h => h.elim
  | _ :: _, [], h => h.elim
  | o :: r, o' :: r', h => by
    obtain ⟨h1, h2⟩ := obsTell_get h.2
    refine ⟨by simp [h1], fun l u e => ?_⟩
    cases l with
    | zero => simp at e; subst e; exact ⟨o, rfl, h.1⟩
    | succ l => simp at e; obtain ⟨v, h3, h4⟩ := h2 l u e; exact ⟨v, by simpa using h3, h4⟩
/-- Slots and rows told otherwise. -/
theorem Wk.tell {m : Nat} {fr fr' : List (Nat × D)} {h h' : List Ob} (hf : frTell fr fr') (hl : obsTell h h') : Wk m ⟨fr, h⟩ ⟨fr', h'⟩ := fun Z base nt pl a w r => by
  obtain ⟨h1, h2⟩ := obsTell_get hl
  have key : ∀ (l : Nat) (o : Ob), h[l]? = some o → ∃ o', h'[l]? = some o' ∧ obTell o o' := fun l o e => by
    have : l < h'.length := by rw [h1]; exact lt_of_some e
    obtain ⟨o2, h3, h4⟩ := h2 l _ (List.getElem?_eq_getElem this)
    rw [e] at h3; cases h3
    exact ⟨_, List.getElem?_eq_getElem this, h4⟩
  have rel : ∀ {d : D} {v : Value}, RelV Z h pl w d v → RelV Z h' pl w d v := fun r => by
    induction r with
    | cl d v hc => exact .cl d v hc
    | ref l g off len o p a cap ho hp hk hg hs =>
      obtain ⟨o', h3, h4⟩ := key l o ho
      exact .ref l g off len o' p a cap h3 hp (by rw [h4.2.2.2.1.1]; exact hk) (by rw [h4.1]; exact hg) (fun e => by rw [h4.2.1]; exact hs (by rw [e, h4.1]))
    | ptr l g i j o p a ho hp hk hg hs =>
      obtain ⟨o', h3, h4⟩ := key l o ho
      exact .ptr l g i j o' p a h3 hp (by rw [h4.2.2.2.1.1]; exact hk) (by rw [h4.1]; exact hg) (fun e => by rw [h4.2.1]; exact hs (by rw [e, h4.1]))
    | mref l g o p b ho hp hk hg hs =>
      obtain ⟨o', h3, h4⟩ := key l o ho
      exact .mref l g o' p b h3 hp (by rw [h4.2.2.2.1.1]; exact hk) (by rw [h4.1]; exact hg) (fun e => hs (by rw [e, h4.1]))
    | clo f nf cs vs hl hr ih => exact .clo f nf cs vs hl ih
    | agg cs vs hl hr ih => exact .agg cs vs hl ih
    | tup cs vs hl hr ih => exact .tup cs vs hl ih
  refine ⟨pl, ⟨r.nt, r.defers, fun t => ?_, ⟨by rw [h1]; exact r.o.len, r.o.inj, fun l o' ho hp => ?_, fun l o' b q ho hp => ?_⟩⟩, fun _ h => h, fun l o p _ ho hp => ?_⟩
  · rcases mem_get fr' t with h1 | h1
    · show RelV Z h' pl w (get fr' t) _
      rw [h1]; exact .cl _ _ (.undef _)
    · exact dLe_rel 6 (frTell_mem hf _ _ h1) (rel (r.fr t))
  · obtain ⟨o, h3, h4⟩ := h2 l o' ho
    rw [h4.2.2.1]; exact r.o.noRow l o h3 hp
  · obtain ⟨o, h3, h4, h5, h6, h8, h7⟩ := h2 l o' ho
    obtain ⟨g1, x⟩ := r.o.at_ l o b q h3 hp
    exact ⟨fun hr => g1 (by rw [← h8.2, hr]), x.to h8.1 h5 h6 rfl (fun i hi => (lLeOf_nth (h7 i hi)).1) fun i j v hi hj hr => dLe_rel 6 ((lLeOf_nth (h7 i hi)).2 j hj) (rel hr)⟩
  · obtain ⟨o', h3, h4⟩ := key l o ho
    exact ⟨o', h3, hp, h4.1, h4.2.1, h4.2.2.2.1.1⟩
theorem Weak.tell {w0 : Start} {fr fr' : List (Nat × D)} {h h' : List Ob} (hf : frTell fr fr' ∧ obsTell h h') : Weak w0 ⟨fr, h⟩ ⟨fr', h'⟩ := (Wk.tell hf.1 hf.2).up
/-- As Weak.to, with values told otherwise. -/
theorem Weak.toT {w0 : Start} (k : Nat) {fr fr' : List (Nat × D)} {h h' : List Ob} (hw : frTell fr fr' ∧ obsTell h (h' ++ h.drop k) ∧ frUpto k fr' = true ∧ obsUpto k h' ∧ h'.length = k) (hm : w0.F.length ≤ k := by exact Nat.le_of_ble_eq_true rfl) : Weak w0 ⟨fr, h⟩ ⟨fr', h'⟩ := by
  refine Weak.trans (Weak.tell ⟨hw.1, hw.2.1⟩) ?_
  have e : (h' ++ h.drop k).take k = h' := by rw [List.take_append_of_le_length (by omega), List.take_of_length_le (by omega)]
  have := Wk.drop (m := w0.F.length) k hm (fr := fr') (h := h' ++ h.drop k) hw.2.2.1 (by rw [e]; exact hw.2.2.2.1)
  rw [e] at this
  exact this.up
section
variable {k : Nat} {d : D}
theorem dLe_self : dLe k d d = True := eq_true (dLe_refl k d)
theorem dLe_raw {v : Value} : dLe (k + 1) d (.raw v) = (d = .raw v) := rfl
theorem dLe_undef : dLe (k + 1) d .undef = True := rfl
theorem dLe_nil : dLe (k + 1) d .nil = (d = .nil) := rfl
theorem dLe_imm {z n z' n' : Nat} {r r' : Nat → List D} : dLe (k + 1) (.imm z' n' r') (.imm z n r) = (z = z' ∧ n = n' ∧ ∀ i, i < n → lLeOf (dLe k) (r' i) (r i)) := rfl
theorem dLe_nil_imm {z n : Nat} {r : Nat → List D} : dLe (k + 1) .nil (.imm z n r) = (n = 0) := rfl
theorem dLe_ref {l g o n : Nat} : dLe (k + 1) d (.ref l g o n) = (d = .ref l g o n) := rfl
theorem dLe_ptr {l g i j : Nat} : dLe (k + 1) d (.ptr l g i j) = (d = .ptr l g i j) := rfl
theorem dLe_mref {l g : Nat} : dLe (k + 1) d (.mref l g) = (d = .mref l g) := rfl
theorem dLe_ip {cs cs' : List D} : dLe (k + 1) (.ip cs') (.ip cs) = lLeOf (dLe k) cs' cs := rfl
theorem dLe_clo {f f' : FuncId} {nf nf' : Nat} {cs cs' : List D} : dLe (k + 1) (.clo f' nf' cs') (.clo f nf cs) = (f = f' ∧ nf = nf' ∧ lLeOf (dLe k) cs' cs) := rfl
theorem dLe_agg {cs cs' : List D} : dLe (k + 1) (.agg cs') (.agg cs) = lLeOf (dLe k) cs' cs := rfl
theorem dLe_tup {cs cs' : List D} : dLe (k + 1) (.tup cs') (.tup cs) = lLeOf (dLe k) cs' cs := rfl
theorem lLe_nil {f : D → D → Prop} : lLeOf f [] [] = True := rfl
theorem lLe_cons {f : D → D → Prop} {a b : D} {r s : List D} : lLeOf f (a :: r) (b :: s) = (f a b ∧ lLeOf f r s) := rfl
end
attribute [go_sem] dLe_self dLe_raw dLe_undef dLe_nil dLe_imm dLe_nil_imm dLe_ref dLe_ptr dLe_mref dLe_ip dLe_clo dLe_agg dLe_tup lLe_nil lLe_cons lLe_self frTell obTell obsTell
end Go.Fg
namespace Go.Fg
set_option linter.unusedSimpArgs false
set_option linter.unusedVariables false
open Go.RowKit (Below)
variable {Z : Nat → Prop}
/-- Only the kinds differ. -/
theorem RelV.kds {h h' : List Ob} {pl : List Pl} {w : World} (key : ∀ (l : Nat) (o : Ob), h[l]? = some o → ∃ o', h'[l]? = some o' ∧ o'.gen = o.gen ∧ o'.sz = o.sz ∧ o'.kd.ty = o.kd.ty) {d : D} {v : Value} (r : RelV Z h pl w d v) : RelV Z h' pl w d v := by
  induction r with
  | cl d v hc => exact .cl d v hc
  | ref l g off len o p a cap ho hp hk hg hs =>
    obtain ⟨o', h3, h4, h5, h6⟩ := key l o ho
    exact .ref l g off len o' p a cap h3 hp (by rw [h6]; exact hk) (by rw [h4]; exact hg) (fun e => by rw [h5]; exact hs (by rw [e, h4]))
  | ptr l g i j o p a ho hp hk hg hs =>
    obtain ⟨o', h3, h4, h5, h6⟩ := key l o ho
    exact .ptr l g i j o' p a h3 hp (by rw [h6]; exact hk) (by rw [h4]; exact hg) (fun e => by rw [h5]; exact hs (by rw [e, h4]))
  | mref l g o p b ho hp hk hg hs =>
    obtain ⟨o', h3, h4, h5, h6⟩ := key l o ho
    exact .mref l g o' p b h3 hp (by rw [h6]; exact hk) (by rw [h4]; exact hg) (fun e => hs (by rw [e, h4]))
  | clo f nf cs vs hl hr ih => exact .clo f nf cs vs hl ih
  | agg cs vs hl hr ih => exact .agg cs vs hl ih
  | tup cs vs hl hr ih => exact .tup cs vs hl ih
theorem ro_get {h : List Ob} {l : Nat} {o : Ob} (e : h[l]? = some o) : (h.map Ob.ro)[l]? = some o.ro := by rw [List.getElem?_map, e]; rfl
theorem ro_get' {h : List Ob} {l : Nat} {o : Ob} (e : (h.map Ob.ro)[l]? = some o) : ∃ o', h[l]? = some o' ∧ o = o'.ro := by
  rw [List.getElem?_map, Option.map_eq_some_iff] at e
  obtain ⟨o', h1, h2⟩ := e
  exact ⟨o', h1, h2.symm⟩
@[go_sem] theorem ro_mk (k : Kd) (g z n : Nat) (r : Nat → List D) : Ob.ro ⟨k, g, z, n, r⟩ = ⟨k.toRo, g, z, n, r⟩ := rfl
theorem ro_ro (o : Ob) : o.ro.ro = o.ro := by
  obtain ⟨k, g, z, n, r⟩ := o
  cases k <;> rfl
/-- Called with the objects h lent to be read alone, function f returns what meets R: a value, and objects of its own. -/
def RFn (P : Program) (f : FuncId) (h : List Ob) (args : List D) (R : D → List Ob → Prop) : Prop :=
  MFn P f (h.map Ob.ro) args fun d h' => ∃ g, h' = h.map Ob.ro ++ g ∧ R d g
theorem RFn.mono {P : Program} {f : FuncId} {h : List Ob} {args : List D} {R R' : D → List Ob → Prop} (hh : RFn P f h args R) (hr : ∀ d g, R d g → R' d g) : RFn P f h args R' := MFn.mono hh fun _ _ ⟨g, h1, h2⟩ => ⟨g, h1, hr _ _ h2⟩
section
variable {P : Program} {base nt : Nat} {w0 : Start} {Q : Exit → St → Prop}
theorem callH_wp (hbase : base ≤ w0.w.heap.size) {o : Oper} {s : St} {x : Operand} {args : Array Operand} {tys : Array TypeId} {f : FuncId} {nf : Nat} {caps : List D} (hf : FnOk P f) (ho : o.op = .call ⟨.value x, args, tys⟩)
    (hx : calleeD (evalO s.fr x) = some (f, nf, caps)) {R : D → List Ob → Prop} (hF : MFn P f s.h (argsD nf caps (args.toList.map (evalO s.fr))) R)
    (ht : okO nt o.dst = true) (pl : List Pl) (a : Act) (w : World) (r : Rel Z base nt s pl a w) (b : Since Z base w0 s.h pl w) (Q' : Exit → Act → World → Prop) :
    o.wp P a w (fun a' w' => ∃ d h pl', R d h ∧ Rel Z base nt ⟨putO s.fr o.dst d, h⟩ pl' a' w' ∧ Since Z base w0 h pl' w' ∧ Tr s.h pl w h pl' w' ∧ ∃ v, a' = a.put o.dst v) Q' := by
  obtain ⟨vs, hv, hvl, hvr⟩ := callee_ok (r.eval x) hx
  have hsize : base ≤ w.heap.size := Nat.le_trans hbase b.1.size
  obtain ⟨q1, hall⟩ := argsD_rel (r := fun d v => RelV Z s.h pl w d v) (nf := nf) hvl hvr (us := args.toList.map a.eval) (args := args.toList.map (evalO s.fr)) (by simp) (fun i hi => by
    have hi' : i < args.toList.length := by simpa using hi
    simp only [nth, nthV, List.getD_eq_getElem?_getD, List.getElem?_map]
    rw [List.getElem?_eq_getElem hi']
    exact r.eval _)
  have hc := hF Z base w pl (argsD nf vs (args.toList.map a.eval)) hsize b.2.2.new r.o q1 hall
  unfold Oper.wp
  rw [run_callop hf ho hv w]
  simp only [Oper.upon_enter]
  refine hc.mono fun e w' he => ?_
  obtain ⟨v, d, h', pl', rfl, hR, hO, hV, hT, hB⟩ := he
  refine ⟨d, h', pl', hR, ?_, b.step hT hB, hT, v, rfl⟩
  cases hd : o.dst with
  | none => exact r.to' hT hO v
  | some t => rw [hd] at ht; exact r.to hT hO (okO_lt ht) hV
/-- The rule: a call that is lent the whole heap. -/
theorem kont_callH (hbase : base ≤ w0.w.heap.size) {k : List Item} {dst : Option Nat} {ty : TypeId} {pos : String} {after : Array Edge} {gd : Option (Nat × Bool)} {r : List (Oper × G)} {s : St} {x : Operand} {args : Array Operand} {tys : Array TypeId} {f : FuncId} {nf : Nat} {caps : List D} (hf : FnOk P f)
    (hx : calleeD (evalO s.fr x) = some (f, nf, caps)) {cs : List D} (he : argsEq (argsD nf caps (args.toList.map (evalO s.fr))) cs)
    {R : D → List Ob → Prop} (hF : MFn P f s.h cs R) (ht : okO nt dst = true) (hk : ∀ d h, R d h → kont P base nt w0 Q (.ops r :: k) .normal ⟨putO s.fr dst d, h⟩) :
    kont P base nt w0 Q (.ops ((⟨dst, .call ⟨.value x, args, tys⟩, ty, pos, after, gd⟩, none) :: r) :: k) .normal s := by
  simp only [kont] at hk ⊢
  intro Z z pl a w rr b
  simp only [wpG, wantedG, if_true]
  exact Oper.wp_mono (fun a' w' ⟨d, h, pl', hR, r', b', _⟩ => hk d h hR Z z pl' a' w' r' b') (callH_wp hbase hf rfl hx (hF.args he) ht pl a w rr b _)
theorem callR_wp (hbase : base ≤ w0.w.heap.size) {o : Oper} {s : St} {x : Operand} {args : Array Operand} {tys : Array TypeId} {f : FuncId} {nf : Nat} {caps : List D} (hf : FnOk P f) (ho : o.op = .call ⟨.value x, args, tys⟩)
    (hx : calleeD (evalO s.fr x) = some (f, nf, caps)) {R : D → List Ob → Prop} (hF : RFn P f s.h (argsD nf caps (args.toList.map (evalO s.fr))) R)
    (ht : okO nt o.dst = true) (pl : List Pl) (a : Act) (w : World) (r : Rel Z base nt s pl a w) (b : Since Z base w0 s.h pl w) (Q' : Exit → Act → World → Prop) :
    o.wp P a w (fun a' w' => Ext w w' ∧ ∃ d g pl', R d g ∧ Rel Z base nt ⟨putO s.fr o.dst d, s.h ++ g⟩ pl' a' w' ∧ Since Z base w0 (s.h ++ g) pl' w' ∧ Tr s.h pl w (s.h ++ g) pl' w' ∧ ∃ v, a' = a.put o.dst v) Q' := by
  obtain ⟨vs, hv, hvl, hvr⟩ := callee_ok (r.eval x) hx
  have hsize : base ≤ w.heap.size := Nat.le_trans hbase b.1.size
  obtain ⟨q1, hall⟩ := argsD_rel (r := fun d v => RelV Z s.h pl w d v) (nf := nf) hvl hvr (us := args.toList.map a.eval) (args := args.toList.map (evalO s.fr)) (by simp) (fun i hi => by
    have hi' : i < args.toList.length := by simpa using hi
    simp only [nth, nthV, List.getD_eq_getElem?_getD, List.getElem?_map]
    rw [List.getElem?_eq_getElem hi']
    exact r.eval _)
  have k1 : ∀ (l : Nat) (o : Ob), s.h[l]? = some o → ∃ o', (s.h.map Ob.ro)[l]? = some o' ∧ o'.gen = o.gen ∧ o'.sz = o.sz ∧ o'.kd.ty = o.kd.ty := fun l o e => ⟨o.ro, ro_get e, rfl, rfl, Kd.toRo_ty _⟩
  have hO0 : RelO Z w.heap.size (s.h.map Ob.ro) pl w := by
    refine ⟨by simp [r.o.len], r.o.inj, fun l o ho hp => ?_, fun l o b q ho hp => ?_⟩
    · obtain ⟨o', h1, rfl⟩ := ro_get' ho
      exact r.o.noRow l o' h1 hp
    · obtain ⟨o', h1, rfl⟩ := ro_get' ho
      obtain ⟨_, x⟩ := r.o.at_ l o' b q h1 hp
      exact ⟨fun hr => (by rw [ro_kd, Kd.toRo_ro] at hr; cases hr), x.to (Kd.toRo_ty _) rfl rfl rfl (fun _ _ => rfl) fun i j v _ _ hr => hr.kds k1⟩
  have hc := hF Z w.heap.size w pl (argsD nf vs (args.toList.map a.eval)) (Nat.le_refl _) b.2.2.new hO0 q1 (fun i hi => (hall i hi).kds k1)
  unfold Oper.wp
  rw [run_callop hf ho hv w]
  simp only [Oper.upon_enter]
  refine hc.mono fun e w' he => ?_
  obtain ⟨v, d, _, pl', rfl, ⟨g, rfl, hR⟩, hO, hV, hT, hB⟩ := he
  have hpl : ∀ (l : Nat) (p : Pl), l < s.h.length → pl'[l]? = some p → pl[l]? = some p := fun l p hl e => by
    have hl2 : l < pl.length := by rw [r.o.len]; exact hl
    obtain ⟨o', p', e1, e2, _, _, e3⟩ := hT.obj l _ _ (ro_get (List.getElem?_eq_getElem hl)) (List.getElem?_eq_getElem hl2)
    rw [List.getElem?_append_left (by simpa using hl), ro_get (List.getElem?_eq_getElem hl)] at e1
    cases e1
    obtain ⟨_, e4⟩ := e3 rfl
    rw [e] at e2; cases e2
    rw [e4]; exact List.getElem?_eq_getElem hl2
  have hpl' : ∀ (l : Nat) (p : Pl), l < s.h.length → pl[l]? = some p → pl'[l]? = some p := fun l p hl e => by
    have hl2 : l < pl'.length := by have := hO.len; simp at this; omega
    have h1 := hpl l _ hl (List.getElem?_eq_getElem hl2)
    rw [e] at h1; cases h1
    exact List.getElem?_eq_getElem hl2
  have T : Tr s.h pl w (s.h ++ g) pl' w' := by
    refine ⟨hT.old, fun l o p ho hp => ⟨o, p, by rw [List.getElem?_append_left (lt_of_some ho)]; exact ho, hpl' l p (lt_of_some ho) hp, Nat.le_refl _, rfl, fun _ => ⟨rfl, rfl⟩⟩, fun l o o' b q ho ho' hg hp c el hc => ⟨c, ?_, rfl⟩⟩
    rw [hB.block b (r.o.lt hp).1]; exact hc
  have k2 : ∀ (l : Nat) (o : Ob), (s.h.map Ob.ro ++ g)[l]? = some o → ∃ o', (s.h ++ g)[l]? = some o' ∧ o'.gen = o.gen ∧ o'.sz = o.sz ∧ o'.kd.ty = o.kd.ty := fun l o e => by
    by_cases hl : l < s.h.length
    · rw [List.getElem?_append_left (by simpa using hl)] at e
      obtain ⟨o', h1, rfl⟩ := ro_get' e
      exact ⟨o', by rw [List.getElem?_append_left hl]; exact h1, rfl, rfl, (Kd.toRo_ty _).symm⟩
    · rw [List.getElem?_append_right (by simpa using hl)] at e
      exact ⟨o, by rw [List.getElem?_append_right (by omega)]; simpa using e, rfl, rfl, rfl⟩
  have hO2 : RelO Z base (s.h ++ g) pl' w' := by
    refine ⟨by have := hO.len; simpa using this, hO.inj, fun l o ho hp => ?_, fun l o b q ho hp => ?_⟩
    · by_cases hl : l < s.h.length
      · rw [List.getElem?_append_left hl] at ho
        exact r.o.noRow l o ho (hpl l _ hl hp)
      · refine hO.noRow l o ?_ hp
        rw [List.getElem?_append_right (by omega)] at ho
        rw [List.getElem?_append_right (by simpa using hl)]; simpa using ho
    · by_cases hl : l < s.h.length
      · rw [List.getElem?_append_left hl] at ho
        have hp0 := hpl l _ hl hp
        obtain ⟨g1, x⟩ := r.o.at_ l o b q ho hp0
        exact ⟨g1, x.to rfl rfl rfl (hB.block b (r.o.lt hp0).1) (fun _ _ => rfl) fun i j v _ _ hr => hr.tr T⟩
      · have e2 : (s.h.map Ob.ro ++ g)[l]? = some o := by
          rw [List.getElem?_append_right (by omega)] at ho
          rw [List.getElem?_append_right (by simpa using hl)]; simpa using ho
        obtain ⟨g1, x⟩ := hO.at_ l o b q e2 hp
        exact ⟨fun hr => Nat.le_trans hsize (g1 hr), x.to rfl rfl rfl rfl (fun _ _ => rfl) fun i j v _ _ hr => hr.kds k2⟩
  refine ⟨fun b hb => hB.block b hb, d, g, pl', hR, ?_, b.step T (hB.mono hsize), T, v, rfl⟩
  cases hd : o.dst with
  | none => exact r.to' T hO2 v
  | some t => rw [hd] at ht; exact r.to T hO2 (okO_lt ht) (hV.kds k2)
theorem RFn.args {f : FuncId} {h : List Ob} {cs' cs : List D} {R : D → List Ob → Prop} (hh : RFn P f h cs R) (e : argsEq cs' cs) : RFn P f h cs' R := MFn.args hh e
/-- The rule: a call that is lent the whole heap to be read. -/
theorem kont_callR (hbase : base ≤ w0.w.heap.size) {k : List Item} {dst : Option Nat} {ty : TypeId} {pos : String} {after : Array Edge} {gd : Option (Nat × Bool)} {r : List (Oper × G)} {s : St} {x : Operand} {args : Array Operand} {tys : Array TypeId} {f : FuncId} {nf : Nat} {caps : List D} (hf : FnOk P f)
    (hx : calleeD (evalO s.fr x) = some (f, nf, caps)) {cs : List D} (he : argsEq (argsD nf caps (args.toList.map (evalO s.fr))) cs)
    {R : D → List Ob → Prop} (hF : RFn P f s.h cs R) (ht : okO nt dst = true) (hk : ∀ d g, R d g → kont P base nt w0 Q (.ops r :: k) .normal ⟨putO s.fr dst d, s.h ++ g⟩) :
    kont P base nt w0 Q (.ops ((⟨dst, .call ⟨.value x, args, tys⟩, ty, pos, after, gd⟩, none) :: r) :: k) .normal s := by
  simp only [kont] at hk ⊢
  intro Z z pl a w rr b
  simp only [wpG, wantedG, if_true]
  exact Oper.wp_mono (fun a' w' ⟨_, d, h, pl', hR, r', b', _⟩ => hk d h hR Z z pl' a' w' r' b') (callR_wp hbase hf rfl hx (hF.args he) ht pl a w rr b _)
theorem AX_callR (hbase : base ≤ w0.w.heap.size) {K : St → Prop} {dst : Option Nat} {ty : TypeId} {pos : String} {after : Array Edge} {gd : Option (Nat × Bool)} {r : List (Bool × Oper × G)} {s : St} {x : Operand} {args : Array Operand} {tys : Array TypeId} {f : FuncId} {nf : Nat} {caps : List D} (hf : FnOk P f)
    (hx : calleeD (evalO s.fr x) = some (f, nf, caps)) {cs : List D} (he : argsEq (argsD nf caps (args.toList.map (evalO s.fr))) cs) {R : D → List Ob → Prop} (hF : RFn P f s.h cs R)
    (ht : okO nt dst = true) (hk : ∀ d g, R d g → AX P base nt w0 K r ⟨putO s.fr dst d, s.h ++ g⟩) :
    AX P base nt w0 K ((false, ⟨dst, .call ⟨.value x, args, tys⟩, ty, pos, after, gd⟩, none) :: r) s := by
  simp only [AX, AXo, lateT]
  intro Z z pl a w rr b
  exact Oper.wp_mono (fun a' w' ⟨hE, d, g, pl', hR, r', b', T, v, e⟩ => ⟨fun _ => hE, _, _, pl', v, hk d g hR, r', b', T, e⟩) (callR_wp hbase hf rfl hx (hF.args he) ht pl a w rr b _)
/-- A step of an iterator over a map. -/
theorem kont_next (hbase : base ≤ w0.w.heap.size) {k : List Item} {dst : Option Nat} {ty : TypeId} {pos : String} {after : Array Edge} {gd : Option (Nat × Bool)} {r : List (Oper × G)} {s : St} {x : Operand} {li l c : Nat} {es : List Ent} {seen : List Nat} {q : IntKind}
    (hx : evalO s.fr x = .mref li 0) (hit : s.h[li]? = some (iterOb l c c seen)) {kd : Kd} (hkd : kd.ty = 1) (hob : s.h[l]? = some (mapObK kd q c es)) (ht : okO nt dst = true)
    (h0 : (∀ e ∈ es, e.b ∈ seen) → kont P base nt w0 Q (.ops r :: k) .normal ⟨putO s.fr dst (.tup [.raw (.bool false)]), s.h⟩)
    (h1 : ∀ e ∈ es, e.b ∉ seen → kont P base nt w0 Q (.ops r :: k) .normal ⟨putO s.fr dst (.tup [.raw (.bool true), .raw (.int q e.k), e.v]), s.h.set li (iterOb l c c (seen ++ [e.b]))⟩) :
    kont P base nt w0 Q (.ops ((⟨dst, .next x false, ty, pos, after, gd⟩, none) :: r) :: k) .normal s := by
  simp only [kont] at h0 h1 ⊢
  intro Z z pl a w rr b
  have hsize : base ≤ w.heap.size := Nat.le_trans hbase b.1.size
  simp only [wpG, wantedG, if_true]
  unfold Oper.wp
  rcases next_run (o := ⟨dst, .next x false, ty, pos, after, gd⟩) rfl rr hsize hx hit hkd hob with ⟨g1, g2⟩ | ⟨e, he, g1, v, w', g2, T, O, V, B⟩
  · rw [g2]
    simp only [Oper.upon_value]
    refine h0 g1 Z z pl _ w ?_ b
    have hv : RelV Z s.h pl w (.tup [.raw (.bool false)]) (.tuple #[.bool false]) := .tup _ [.bool false] rfl fun i hi => match i, hi with
      | 0, _ => .cl _ _ (.raw _)
    cases dst with
    | none => exact rr.to' (Tr.refl _ _ _) rr.o _
    | some t => exact rr.to (Tr.refl _ _ _) rr.o (okO_lt ht) hv
  · rw [g2]
    simp only [Oper.upon_value]
    refine h1 e he g1 Z z pl _ w' ?_ (b.step T B)
    cases dst with
    | none => exact rr.to' T O _
    | some t => exact rr.to T O (okO_lt ht) V
end
/-- The same, of a function that hands back what leans on no object of its own: nothing of it is kept. -/
def RFn0 (P : Program) (f : FuncId) (h : List Ob) (args : List D) (R : D → Prop) : Prop := RFn P f h args fun d _ => d.upto h.length = true ∧ R d
theorem RFn0.mono {P : Program} {f : FuncId} {h : List Ob} {args : List D} {R R' : D → Prop} (hh : RFn0 P f h args R) (hr : ∀ d, R d → R' d) : RFn0 P f h args R' := RFn.mono hh fun _ _ h => ⟨h.1, hr _ h.2⟩
theorem RFn0.args {P : Program} {f : FuncId} {h : List Ob} {cs' cs : List D} {R : D → Prop} (hh : RFn0 P f h cs R) (e : argsEq cs' cs) : RFn0 P f h cs' R := RFn.args hh e
section
variable {P : Program} {base nt : Nat} {w0 : Start} {Q : Exit → St → Prop}
theorem callR0_wp (hbase : base ≤ w0.w.heap.size) {o : Oper} {s : St} {x : Operand} {args : Array Operand} {tys : Array TypeId} {f : FuncId} {nf : Nat} {caps : List D} (hf : FnOk P f) (ho : o.op = .call ⟨.value x, args, tys⟩)
    (hx : calleeD (evalO s.fr x) = some (f, nf, caps)) {R : D → Prop} (hF : RFn0 P f s.h (argsD nf caps (args.toList.map (evalO s.fr))) R)
    (ht : okO nt o.dst = true) (pl : List Pl) (a : Act) (w : World) (r : Rel Z base nt s pl a w) (b : Since Z base w0 s.h pl w) (Q' : Exit → Act → World → Prop) :
    o.wp P a w (fun a' w' => Ext w w' ∧ ∃ d, R d ∧ Rel Z base nt ⟨putO s.fr o.dst d, s.h⟩ pl a' w' ∧ Since Z base w0 s.h pl w' ∧ Tr s.h pl w s.h pl w' ∧ ∃ v, a' = a.put o.dst v) Q' := by
  obtain ⟨vs, hv, hvl, hvr⟩ := callee_ok (r.eval x) hx
  have hsize : base ≤ w.heap.size := Nat.le_trans hbase b.1.size
  obtain ⟨q1, hall⟩ := argsD_rel (r := fun d v => RelV Z s.h pl w d v) (nf := nf) hvl hvr (us := args.toList.map a.eval) (args := args.toList.map (evalO s.fr)) (by simp) (fun i hi => by
    have hi' : i < args.toList.length := by simpa using hi
    simp only [nth, nthV, List.getD_eq_getElem?_getD, List.getElem?_map]
    rw [List.getElem?_eq_getElem hi']
    exact r.eval _)
  have k1 : ∀ (l : Nat) (o : Ob), s.h[l]? = some o → ∃ o', (s.h.map Ob.ro)[l]? = some o' ∧ o'.gen = o.gen ∧ o'.sz = o.sz ∧ o'.kd.ty = o.kd.ty := fun l o e => ⟨o.ro, ro_get e, rfl, rfl, Kd.toRo_ty _⟩
  have k3 : ∀ (g : List Ob) (l : Nat) (o : Ob), (s.h.map Ob.ro ++ g)[l]? = some o → ∃ o', (s.h ++ g)[l]? = some o' ∧ o'.gen = o.gen ∧ o'.sz = o.sz ∧ o'.kd.ty = o.kd.ty := fun g l o e => by
    by_cases hl : l < s.h.length
    · rw [List.getElem?_append_left (by simpa using hl)] at e
      obtain ⟨o', h1, rfl⟩ := ro_get' e
      exact ⟨o', by rw [List.getElem?_append_left hl]; exact h1, rfl, rfl, (Kd.toRo_ty _).symm⟩
    · rw [List.getElem?_append_right (by simpa using hl)] at e
      exact ⟨o, by rw [List.getElem?_append_right (by omega)]; simpa using e, rfl, rfl, rfl⟩
  have hO0 : RelO Z w.heap.size (s.h.map Ob.ro) pl w := by
    refine ⟨by simp [r.o.len], r.o.inj, fun l o ho hp => ?_, fun l o b q ho hp => ?_⟩
    · obtain ⟨o', h1, rfl⟩ := ro_get' ho
      exact r.o.noRow l o' h1 hp
    · obtain ⟨o', h1, rfl⟩ := ro_get' ho
      obtain ⟨_, x⟩ := r.o.at_ l o' b q h1 hp
      exact ⟨fun hr => (by rw [ro_kd, Kd.toRo_ro] at hr; cases hr), x.to (Kd.toRo_ty _) rfl rfl rfl (fun _ _ => rfl) fun i j v _ _ hr => hr.kds k1⟩
  have hc := hF Z w.heap.size w pl (argsD nf vs (args.toList.map a.eval)) (Nat.le_refl _) b.2.2.new hO0 q1 (fun i hi => (hall i hi).kds k1)
  unfold Oper.wp
  rw [run_callop hf ho hv w]
  simp only [Oper.upon_enter]
  refine hc.mono fun e w' he => ?_
  obtain ⟨v, d, _, pl', rfl, ⟨g, rfl, hu, hR⟩, hO, hV, hT, hB⟩ := he
  have hE : Ext w w' := fun b hb => hB.block b hb
  have T0 : Tr s.h pl w s.h pl w' := Tr.ext r.o hE
  have hfin : RelV Z s.h pl w' d v := by
    have h1 := hV.take hu
    have e1 : (s.h.map Ob.ro ++ g).take s.h.length = s.h.map Ob.ro := List.take_left' (by simp)
    have e2 : pl'.take s.h.length = pl := by
      apply List.ext_getElem?
      intro i
      rw [List.getElem?_take]
      by_cases hi : i < s.h.length
      · rw [if_pos hi]
        have hi2 : i < pl.length := by rw [r.o.len]; exact hi
        obtain ⟨o', p', m1, m2, _, _, m3⟩ := hT.obj i _ _ (ro_get (List.getElem?_eq_getElem hi)) (List.getElem?_eq_getElem hi2)
        rw [List.getElem?_append_left (by simpa using hi), ro_get (List.getElem?_eq_getElem hi)] at m1
        cases m1
        obtain ⟨_, rfl⟩ := m3 rfl
        rw [m2, List.getElem?_eq_getElem hi2]
      · rw [if_neg hi, List.getElem?_eq_none (by rw [r.o.len]; omega)]
    rw [e1, e2] at h1
    exact h1.kds fun l o e => by
      obtain ⟨o', h1, rfl⟩ := ro_get' e
      exact ⟨o', h1, rfl, rfl, (Kd.toRo_ty _).symm⟩
  refine ⟨hE, d, hR, ?_, b.step T0 (hB.mono hsize), T0, v, rfl⟩
  have r' := r.ext hE
  cases hd : o.dst with
  | none => exact r'.to' (Tr.refl _ _ _) r'.o v
  | some t => rw [hd] at ht; exact r'.to (Tr.refl _ _ _) r'.o (okO_lt ht) hfin
theorem kont_callR0 (hbase : base ≤ w0.w.heap.size) {k : List Item} {dst : Option Nat} {ty : TypeId} {pos : String} {after : Array Edge} {gd : Option (Nat × Bool)} {r : List (Oper × G)} {s : St} {x : Operand} {args : Array Operand} {tys : Array TypeId} {f : FuncId} {nf : Nat} {caps : List D} (hf : FnOk P f)
    (hx : calleeD (evalO s.fr x) = some (f, nf, caps)) {cs : List D} (he : argsEq (argsD nf caps (args.toList.map (evalO s.fr))) cs)
    {R : D → Prop} (hF : RFn0 P f s.h cs R) (ht : okO nt dst = true) (hk : ∀ d, R d → kont P base nt w0 Q (.ops r :: k) .normal ⟨putO s.fr dst d, s.h⟩) :
    kont P base nt w0 Q (.ops ((⟨dst, .call ⟨.value x, args, tys⟩, ty, pos, after, gd⟩, none) :: r) :: k) .normal s := by
  simp only [kont] at hk ⊢
  intro Z z pl a w rr b
  simp only [wpG, wantedG, if_true]
  exact Oper.wp_mono (fun a' w' ⟨_, d, hR, r', b', _⟩ => hk d hR Z z pl a' w' r' b') (callR0_wp hbase hf rfl hx (hF.args he) ht pl a w rr b _)
theorem AX_callR0 (hbase : base ≤ w0.w.heap.size) {K : St → Prop} {dst : Option Nat} {ty : TypeId} {pos : String} {after : Array Edge} {gd : Option (Nat × Bool)} {r : List (Bool × Oper × G)} {s : St} {x : Operand} {args : Array Operand} {tys : Array TypeId} {f : FuncId} {nf : Nat} {caps : List D} (hf : FnOk P f)
    (hx : calleeD (evalO s.fr x) = some (f, nf, caps)) {cs : List D} (he : argsEq (argsD nf caps (args.toList.map (evalO s.fr))) cs) {R : D → Prop} (hF : RFn0 P f s.h cs R)
    (ht : okO nt dst = true) (hk : ∀ d, R d → AX P base nt w0 K r ⟨putO s.fr dst d, s.h⟩) :
    AX P base nt w0 K ((false, ⟨dst, .call ⟨.value x, args, tys⟩, ty, pos, after, gd⟩, none) :: r) s := by
  simp only [AX, AXo, lateT]
  intro Z z pl a w rr b
  exact Oper.wp_mono (fun a' w' ⟨hE, d, hR, r', b', T, v, e⟩ => ⟨fun _ => hE, _, _, pl, v, hk d hR, r', b', T, e⟩) (callR0_wp hbase hf rfl hx (hF.args he) ht pl a w rr b _)
end
/-! Heaps that are not told object by object. -/
theorem hlt {h : List Ob} {l : Nat} {o : Ob} (e : h[l]? = some o) : l < h.length := lt_of_some e
theorem hgetA {h t : List Ob} {l : Nat} (hl : l < h.length) : (h ++ t)[l]? = h[l]? := List.getElem?_append_left hl
theorem hgetL {h t : List Ob} {n : Nat} (hn : h.length = n) : (h ++ t)[n]? = t[0]? := by rw [← hn, List.getElem?_append_right (Nat.le_refl _), Nat.sub_self]
theorem hgetLk {h t : List Ob} {n k : Nat} (hn : h.length = n) : (h ++ t)[n + k]? = t[k]? := by rw [← hn, List.getElem?_append_right (by omega), Nat.add_sub_cancel_left]
theorem hsetA {h t : List Ob} {l : Nat} {o : Ob} (hl : l < h.length) : (h ++ t).set l o = h.set l o ++ t := List.set_append_left _ _ hl
theorem hsetL {h t : List Ob} {n : Nat} {o : Ob} (hn : h.length = n) : (h ++ t).set n o = h ++ t.set 0 o := by rw [← hn, List.set_append_right _ _ (Nat.le_refl _), Nat.sub_self]
theorem hsetLk {h t : List Ob} {n k : Nat} {o : Ob} (hn : h.length = n) : (h ++ t).set (n + k) o = h ++ t.set k o := by rw [← hn, List.set_append_right _ _ (by omega), Nat.add_sub_cancel_left]
theorem hgetS {h : List Ob} {l : Nat} {o : Ob} (hl : l < h.length) : (h.set l o)[l]? = some o := List.getElem?_set_self hl
theorem hgetN {h : List Ob} {l m : Nat} {o : Ob} (hn : l ≠ m) : (h.set l o)[m]? = h[m]? := List.getElem?_set_ne hn
/-- The walk of a function that is lent a heap to be read. -/
theorem RFn0_hx {P : Program} {X : Cx} (hX : CxOk P X) {f : FuncId} {fn : Func} {c : Code} (n : Nat) (hf : P.funcs[f]? = some fn) (hb : fn.body = some c) {h : List Ob} {args : List D} {R : D → Prop} {nt : Nat} {rs : Array ResultVar} (hnt : fn.ntmps = nt) (hrs : fn.results = rs) (hn : Nat.ble args.length nt = true)
    (hh : ∀ (base : Nat) (w : World) (pl : List Pl) (F : List Ob), F = h.map Ob.ro → F.length = h.length → base ≤ w.heap.size → hx P base ⟨w, F, pl⟩ (Post X.L rs.toList fun d h' => ∃ g, h' = F ++ g ∧ d.upto F.length = true ∧ R d) X nt n [.code c] ⟨initFr args 0, F⟩) : RFn0 P f h args R :=
  (MFn_hx hX n hf hb hnt hrs hn fun base w pl hb => hh base w pl _ rfl (by simp) hb).mono fun d h' ⟨g, h1, h2, h3⟩ => ⟨g, h1, by simpa using h2, h3⟩
theorem RFn_hx {P : Program} {X : Cx} (hX : CxOk P X) {f : FuncId} {fn : Func} {c : Code} (n : Nat) (hf : P.funcs[f]? = some fn) (hb : fn.body = some c) {h : List Ob} {args : List D} {R : D → List Ob → Prop} {nt : Nat} {rs : Array ResultVar} (hnt : fn.ntmps = nt) (hrs : fn.results = rs) (hn : Nat.ble args.length nt = true)
    (hh : ∀ (base : Nat) (w : World) (pl : List Pl) (F : List Ob), F = h.map Ob.ro → F.length = h.length → base ≤ w.heap.size → hx P base ⟨w, F, pl⟩ (Post X.L rs.toList fun d h' => ∃ g, h' = F ++ g ∧ R d g) X nt n [.code c] ⟨initFr args 0, F⟩) : RFn P f h args R :=
  MFn_hx hX n hf hb hnt hrs hn fun base w pl hb => hh base w pl _ rfl (by simp) hb
attribute [go_sem] plook pmlen pmake pupd pdel prange entsOf_map entsOf_mapK clockOf_map clockOf_mapK IsMap_map clockOf_ro entsOf_ro IsMap_ro mapOb_kd mapOb_n mapOb_gen ro_kd ro_n ro_gen ro_ro zeroD
end Go.Fg
