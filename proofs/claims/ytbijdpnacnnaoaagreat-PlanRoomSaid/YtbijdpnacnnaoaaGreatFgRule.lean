/- Walks of the functions that the statement reaches. No conditions: contracts and laws. -/
import Derived.Test.YtbijdpnacnnaoaaGreatFgCall
namespace Go.Fg
set_option linter.unusedSimpArgs false
set_option linter.unusedVariables false
open Go.RowKit (Below)
variable {Z : Nat → Prop}

/-! Closing values for a callee. -/
def D.cl1 : D → Bool
  | .raw _ | .nil | .imm _ _ _ | .ip _ => true
  | _ => false
theorem cl1_ok {h : List Ob} {pl : List Pl} {w : World} {d : D} {v : Value} (r : RelV Z h pl w d v) (hd : d.cl1 = true) : Cl (free Z pl) w d v := by
  cases r with
  | cl _ _ hc => exact hc
  | _ => cases hd

def closeW (f : D → Option (Prop × D)) : List D → Option (Prop × List D)
  | [] => some (True, [])
  | d :: r => match f d, closeW f r with
    | some (p, c), some (q, cs) => some (p ∧ q, c :: cs)
    | _, _ => none
/-- What a callee that only reads sees. -/
def closeD (h : List Ob) : Nat → D → Option (Prop × D)
  | 0, .raw v => some (True, .raw v)
  | 0, _ => none
  | n + 1, d => match d with
    | .raw v => some (True, .raw v)
    | .nil => some (True, .nil)
    | .imm z n r => some (True, .imm z n r)
    | .ip c => some (True, .ip c)
    | .ref l g off len => match h[l]? with
      | some o => some (g = o.gen ∧ off + len ≤ o.n ∧ ∀ i, i < len → (o.row (off + i)).all D.cl1 = true, .imm o.sz len fun i => o.row (off + i))
      | none => none
    | .ptr l g i j => match h[l]? with
      | some o => match closeW (closeD h n) ((o.row i).drop j) with
        | some (p, cs) => some (g = o.gen ∧ i < o.n ∧ j ≤ o.sz ∧ p, .ip cs)
        | none => none
      | none => none
    | .agg cs => match closeW (closeD h n) cs with
      | some (p, cs') => some (p, .agg cs')
      | none => none
    | .clo f nf cs => match closeW (closeD h n) cs with
      | some (p, cs') => some (p, .clo f nf cs')
      | none => none
    | _ => none

theorem closeW_ok {f : D → Option (Prop × D)} {C : D → Value → Prop} {r : D → Value → Prop} (hf : ∀ d v p c, r d v → f d = some (p, c) → p → C c v) : ∀ (cs : List D) (vs : List Value) (p : Prop) (cs' : List D), vs.length = cs.length → (∀ i, i < cs.length → r (nth cs i) (nthV vs i)) →
    closeW f cs = some (p, cs') → p → cs'.length = cs.length ∧ ∀ i, i < cs.length → C (nth cs' i) (nthV vs i)
  | [], vs, p, cs', hl, hr, h, hp => by simp [closeW] at h; obtain ⟨_, rfl⟩ := h; exact ⟨rfl, fun i hi => by simp at hi⟩
  | d :: cs, [], p, cs', hl, hr, h, hp => by simp at hl
  | d :: cs, v :: vs, p, cs', hl, hr, h, hp => by
    simp only [closeW] at h
    split at h
    · rename_i p1 c q cs1 h1 h2
      simp only [Option.some.injEq, Prod.mk.injEq] at h
      obtain ⟨rfl, rfl⟩ := h
      obtain ⟨k1, k2⟩ := closeW_ok hf cs vs q cs1 (by simpa using hl) (fun i hi => by have := hr (i + 1) (by simpa using hi); simpa [nth, nthV] using this) h2 hp.2
      refine ⟨by simp [k1], fun i hi => ?_⟩
      cases i with
      | zero => exact hf d v p1 c (hr 0 (by simp)) h1 hp.1
      | succ i => have := k2 i (by simpa using hi); simpa [nth, nthV] using this
    · cases h

theorem closeD_okN {N : Nat → Prop} {base : Nat} {h : List Ob} {pl : List Pl} {w : World} (R : RelO Z base h pl w) (hN1 : ∀ b, free Z pl b → N b) (hN2 : ∀ l b q : Nat, pl[l]? = some (some (b, q)) → N b) : ∀ (n : Nat) (d : D) (v : Value) (p : Prop) (c : D), RelV Z h pl w d v → closeD h n d = some (p, c) → p → Cl N w c v
  | 0, d, v, p, c, r, e, hp => by
    cases d <;> simp only [closeD, reduceCtorEq, Option.some.injEq, Prod.mk.injEq] at e
    obtain ⟨_, rfl⟩ := e
    rw [inv_raw r]; exact .raw _
  | n + 1, d, v, p, c, r, e, hp => by
    have top : ∀ {d : D} {v : Value}, Cl (free Z pl) w d v → Cl N w d v := fun h => h.mono fun b hb _ => ⟨hN1 b hb, rfl⟩
    cases d with
    | raw u => simp only [closeD, Option.some.injEq, Prod.mk.injEq] at e; obtain ⟨_, rfl⟩ := e; exact top (cl1_ok r rfl)
    | nil => simp only [closeD, Option.some.injEq, Prod.mk.injEq] at e; obtain ⟨_, rfl⟩ := e; exact top (cl1_ok r rfl)
    | imm z k row => simp only [closeD, Option.some.injEq, Prod.mk.injEq] at e; obtain ⟨_, rfl⟩ := e; exact top (cl1_ok r rfl)
    | ip cs => simp only [closeD, Option.some.injEq, Prod.mk.injEq] at e; obtain ⟨_, rfl⟩ := e; exact top (cl1_ok r rfl)
    | undef => simp [closeD] at e
    | tup cs => simp [closeD] at e
    | ref l g off len =>
      simp only [closeD] at e
      split at e
      · rename_i o ho
        simp only [Option.some.injEq, Prod.mk.injEq] at e
        obtain ⟨rfl, rfl⟩ := e
        obtain ⟨hg, hn, hall⟩ := hp
        obtain ⟨a, cap, vs, S⟩ := psrc_ok R r (p := g = o.gen ∧ off + len ≤ o.n) (n := len) (sz := o.sz) (rows := fun k => o.row (off + k)) (by simp [psrc, ho]) ⟨hg, hn⟩
        have hcell : ∀ i j, i < len → j < o.sz → (nth (o.row (off + i)) j).cl1 = true := fun i j hi hj => by
          have h1 := hall i hi
          rw [List.all_eq_true] at h1
          have h2 : j < (o.row (off + i)).length := by rw [S.len i hi]; exact hj
          refine h1 _ ?_
          simp only [nth, List.getD_eq_getElem?_getD, List.getElem?_eq_getElem h2, Option.getD_some]
          exact List.getElem_mem h2
        obtain ⟨o', p', ad, cap', hv, ho', hp', hk', hg', hat⟩ := inv_ref r
        rw [ho] at ho'; cases ho'
        have hsv := S.v
        rw [hv] at hsv
        simp only [Value.slice.injEq, true_and] at hsv
        obtain ⟨rfl, rfl⟩ := hsv
        rw [hv]
        rcases hat hg with ⟨h1, h2⟩ | ⟨b, q, c, el, hpp, had, hb, hc, hl⟩
        · subst h1
          exact .imm _ _ _ _ _ 0 0 (fun _ _ => Go.undef) (fun h => by omega) (by omega) (fun i hi => by omega) (fun i j hi => by omega) (fun i j hi => by omega)
        · refine .imm _ _ _ _ _ b (q + off * o.sz) vs (fun _ => had) hl S.len (fun i j hi hj => ⟨hN2 l b q (by rw [hp', hpp]), ?_⟩) (fun i j hi hj => ?_)
          · obtain ⟨b1, q1, hh, hc1⟩ := S.cell i j hi hj
            rw [had] at hh
            simp only [Option.some.injEq, Addr.mk.injEq, and_true] at hh
            obtain ⟨rfl, rfl⟩ := hh
            exact hc1
          · exact top (cl1_ok (S.rel i j hi hj) (hcell i j hi hj))
      · cases e
    | mref l g => simp [closeD] at e
    | ptr l g i j =>
      simp only [closeD] at e
      split at e
      · rename_i o ho
        split at e
        · rename_i q cs hcs
          simp only [Option.some.injEq, Prod.mk.injEq] at e
          obtain ⟨rfl, rfl⟩ := e
          obtain ⟨hg, hi, hj, hq⟩ := hp
          obtain ⟨o', p', ad, hv, ho', hp', hk', hg', hat⟩ := inv_ptr r
          rw [ho] at ho'; cases ho'
          obtain ⟨b, q0, rfl, rfl⟩ := hat hg
          obtain ⟨hbase, xx⟩ := R.at_ l o b q0 ho hp'
          obtain ⟨c, el, hb, hcsz, hrl, hrow⟩ := xx.cells hk'
          have hlen : ((o.row i).drop j).length = o.sz - j := by rw [List.length_drop, hrl i hi]
          let vs : List Value := (List.range (o.sz - j)).map fun k => (c[q0 + (i * o.sz + (j + k))]?).getD Go.undef
          have hvs : ∀ k, k < o.sz - j → nthV vs k = (c[q0 + (i * o.sz + (j + k))]?).getD Go.undef := fun k hk => by simp [vs, nthV, List.getD_eq_getElem?_getD, hk]
          obtain ⟨k1, k2⟩ := closeW_ok (r := fun d v => RelV Z h pl w d v) (C := fun d v => Cl N w d v) (fun d v p c hr he hp => closeD_okN R hN1 hN2 n d v p c hr he hp) _ vs q cs (by simp [vs, hlen]) (fun k hk => by
            rw [hlen] at hk
            obtain ⟨u, hu, hr⟩ := hrow i (j + k) hi (by omega)
            rw [nth_drop, hvs k hk, hu]; exact hr) hcs hq
          rw [hv]
          rw [hlen] at k1 k2
          refine .ip _ b _ (fun k => nthV vs k) (fun k hk => ⟨hN2 l b q0 hp', ?_⟩) (fun k hk => k2 k (by omega))
          rw [k1] at hk
          obtain ⟨u, hu, hr⟩ := hrow i (j + k) hi (by omega)
          rw [cell_of_row w b _ c el (0, 0) hb, hvs k hk, hu, Option.getD_some, show q0 + (i * o.sz + j) + k = q0 + (i * o.sz + (j + k)) by omega, hu]
        · cases e
      · cases e
    | agg cs =>
      simp only [closeD] at e
      split at e
      · rename_i q cs' hcs
        simp only [Option.some.injEq, Prod.mk.injEq] at e
        obtain ⟨rfl, rfl⟩ := e
        obtain ⟨vs, rfl, hl, hr⟩ := inv_agg r
        obtain ⟨k1, k2⟩ := closeW_ok (r := fun d v => RelV Z h pl w d v) (C := fun d v => Cl N w d v) (fun d v p c hr he hp => closeD_okN R hN1 hN2 n d v p c hr he hp) cs vs _ cs' hl hr hcs hp
        exact .agg _ _ (by omega) (fun i hi => k2 i (by omega))
      · cases e
    | clo f nf cs =>
      simp only [closeD] at e
      split at e
      · rename_i q cs' hcs
        simp only [Option.some.injEq, Prod.mk.injEq] at e
        obtain ⟨rfl, rfl⟩ := e
        obtain ⟨vs, rfl, hl, hr⟩ := inv_clo r
        obtain ⟨k1, k2⟩ := closeW_ok (r := fun d v => RelV Z h pl w d v) (C := fun d v => Cl N w d v) (fun d v p c hr he hp => closeD_okN R hN1 hN2 n d v p c hr he hp) cs vs _ cs' hl hr hcs hp
        exact .clo _ _ _ _ (by omega) (fun i hi => k2 i (by omega))
      · cases e

theorem closeD_ok {base : Nat} {h : List Ob} {pl : List Pl} {w : World} (R : RelO Z base h pl w) (n : Nat) (d : D) (v : Value) (p : Prop) (c : D) (r : RelV Z h pl w d v) (e : closeD h n d = some (p, c)) (hp : p) : Cl (fun _ => True) w c v :=
  closeD_okN R (fun _ _ => trivial) (fun _ _ _ _ => trivial) n d v p c r e hp

mutual
/-- A value that leans on no memory but objects. -/
def D.flat : D → Bool
  | .raw _ | .nil | .ref _ _ _ _ | .ptr _ _ _ _ | .mref _ _ => true
  | .agg cs => flatL cs
  | .tup cs => flatL cs
  | .clo _ _ cs => flatL cs
  | _ => false
def flatL : List D → Bool
  | [] => true
  | d :: r => d.flat && flatL r
end
theorem flatL_nth : ∀ {cs : List D}, flatL cs = true → ∀ i, i < cs.length → (nth cs i).flat = true
  | [], _, i, h => by simp at h
  | d :: r, hf, i, h => by
    simp only [flatL, Bool.and_eq_true] at hf
    cases i with
    | zero => exact hf.1
    | succ i => have := flatL_nth hf.2 i (by simpa using h); simpa [nth] using this
theorem RelV.anyZ {Z' : Nat → Prop} {h : List Ob} {pl : List Pl} {w : World} {d : D} {v : Value} (r : RelV Z h pl w d v) (hf : d.flat = true) : RelV Z' h pl w d v := by
  induction r with
  | cl d v hc =>
    have : ∀ {d : D} {v : Value}, Cl (free Z pl) w d v → d.flat = true → RelV Z' h pl w d v := by
      intro d v hc
      induction hc with
      | raw v => exact fun _ => .cl _ _ (.raw v)
      | undef v => intro hf; simp [D.flat] at hf
      | nil a => exact fun _ => .cl _ _ (.nil a)
      | imm => intro hf; simp [D.flat] at hf
      | ip => intro hf; simp [D.flat] at hf
      | clo f nf cs vs hl hr ih => exact fun hf => .clo f nf cs vs hl fun i hi => ih i hi (flatL_nth (by simpa [D.flat] using hf) i hi)
      | agg cs vs hl hr ih => exact fun hf => .agg cs vs hl fun i hi => ih i hi (flatL_nth (by simpa [D.flat] using hf) i hi)
      | tup cs vs hl hr ih => exact fun hf => .tup cs vs hl fun i hi => ih i hi (flatL_nth (by simpa [D.flat] using hf) i hi)
    exact this hc hf
  | ref l g off len o p a cap ho hp hk hg hs => exact .ref l g off len o p a cap ho hp hk hg hs
  | ptr l g i j o p a ho hp hk hg hs => exact .ptr l g i j o p a ho hp hk hg hs
  | mref l g o p b ho hp hk hg hs => exact .mref l g o p b ho hp hk hg hs
  | clo f nf cs vs hl hr ih => exact .clo f nf cs vs hl fun i hi => ih i hi (flatL_nth (by simpa [D.flat] using hf) i hi)
  | agg cs vs hl hr ih => exact .agg cs vs hl fun i hi => ih i hi (flatL_nth (by simpa [D.flat] using hf) i hi)
  | tup cs vs hl hr ih => exact .tup cs vs hl fun i hi => ih i hi (flatL_nth (by simpa [D.flat] using hf) i hi)
def Ob.flat (o : Ob) : Prop := ∀ i, i < o.n → flatL (o.row i) = true
theorem RelO.anyZ {Z' : Nat → Prop} {base : Nat} {h : List Ob} {pl : List Pl} {w : World} (R : RelO Z base h pl w) (hf : ∀ o ∈ h, o.flat) : RelO Z' base h pl w where
  len := R.len
  inj := R.inj
  noRow := R.noRow
  at_ := fun l o b q ho hp => by
    obtain ⟨h1, x⟩ := R.at_ l o b q ho hp
    exact ⟨h1, x.to rfl rfl rfl rfl (fun _ _ => rfl) fun i j v hi hj hr => hr.anyZ (flatL_nth (hf o (List.mem_of_getElem? ho) i hi) j hj)⟩

/-! Calls. -/
def FnOk (P : Program) (f : FuncId) : Prop := ∀ (args : Array Value) (w : World), (callFunc f args).run P w = .ok (.enter f args) w
/-- Which function a value means, and what it captured. -/
def calleeD : D → Option (FuncId × Nat × List D)
  | .raw (.func (.func f) ⟨[]⟩ ⟨[]⟩) => some (f, 0, [])
  | .clo f nf cs => some (f, nf, cs)
  | _ => none

section
variable {P : Program} {base nt : Nat} {w0 : Start} {Q : Exit → St → Prop}

theorem callee_ok {h : List Ob} {pl : List Pl} {w : World} {d : D} {v : Value} {f : FuncId} {nf : Nat} {caps : List D} (r : RelV Z h pl w d v) (e : calleeD d = some (f, nf, caps)) :
    ∃ vs : List Value, v = .func (.func f) (vs.take nf).toArray (vs.drop nf).toArray ∧ vs.length = caps.length ∧ ∀ i, i < caps.length → RelV Z h pl w (nth caps i) (nthV vs i) := by
  unfold calleeD at e
  split at e
  · simp only [Option.some.injEq, Prod.mk.injEq] at e
    obtain ⟨rfl, rfl, rfl⟩ := e
    exact ⟨[], inv_raw r, rfl, fun i hi => by simp at hi⟩
  · simp only [Option.some.injEq, Prod.mk.injEq] at e
    obtain ⟨rfl, rfl, rfl⟩ := e
    exact inv_clo r
  · cases e

/-- What a function value is called with: the first of what it holds, the arguments, the rest. -/
def argsD {α : Type} (nf : Nat) (caps args : List α) : List α := caps.take nf ++ (args ++ caps.drop nf)
theorem argsD_rel {r : D → Value → Prop} {nf : Nat} {caps args : List D} {vs us : List Value} (h1 : vs.length = caps.length) (h2 : ∀ i, i < caps.length → r (nth caps i) (nthV vs i)) (k1 : us.length = args.length) (k2 : ∀ i, i < args.length → r (nth args i) (nthV us i)) :
    (argsD nf vs us).length = (argsD nf caps args).length ∧ ∀ i, i < (argsD nf caps args).length → r (nth (argsD nf caps args) i) (nthV (argsD nf vs us) i) := by
  refine ⟨by simp [argsD, h1, k1], fun i hi => ?_⟩
  have hl : (vs.take nf).length = (caps.take nf).length := by simp [h1]
  simp only [argsD, nth, nthV, List.getD_eq_getElem?_getD]
  by_cases c1 : i < (caps.take nf).length
  · rw [List.getElem?_append_left (l₁ := caps.take nf) c1, List.getElem?_append_left (l₁ := vs.take nf) (by omega)]
    have c2 : i < nf ∧ i < caps.length := by simp at c1; omega
    rw [List.getElem?_take, List.getElem?_take, if_pos c2.1, if_pos c2.1]
    exact h2 i c2.2
  · rw [List.getElem?_append_right (l₁ := caps.take nf) (by omega), List.getElem?_append_right (l₁ := vs.take nf) (by omega), hl]
    by_cases c2 : i - (caps.take nf).length < args.length
    · rw [List.getElem?_append_left (l₁ := args) c2, List.getElem?_append_left (l₁ := us) (by omega)]
      exact k2 _ c2
    · rw [List.getElem?_append_right (l₁ := args) (by omega), List.getElem?_append_right (l₁ := us) (by omega), k1]
      rw [List.getElem?_drop, List.getElem?_drop]
      refine h2 _ ?_
      simp only [argsD, List.length_append, List.length_take, List.length_drop] at hi c1 c2 ⊢; omega
theorem run_callop {o : Oper} {a : Act} {x : Operand} {args : Array Operand} {tys : Array TypeId} {f : FuncId} {nf : Nat} {vs : List Value} (hf : FnOk P f) (ho : o.op = .call ⟨.value x, args, tys⟩) (hx : a.eval x = .func (.func f) (vs.take nf).toArray (vs.drop nf).toArray) (w : World) :
    (execOp a.eval o).run P w = .ok (.enter f (argsD nf vs (args.toList.map a.eval)).toArray) w := by
  have e : (argsD nf vs (args.toList.map a.eval)).toArray = (vs.take nf).toArray ++ args.map a.eval ++ (vs.drop nf).toArray := by apply Array.ext'; simp [argsD]
  rw [e]
  simp [execOp, ho, resolve, hx, Deferred.ofValue, invoke, hf _ w]

/-- A call of a function that reads what it is given and hands back what leans on nothing but its own objects. -/
theorem call_wp (hbase : base ≤ w0.w.heap.size) {o : Oper} {s : St} {x : Operand} {args : Array Operand} {tys : Array TypeId} {f : FuncId} {nf : Nat} {caps : List D} (hf : FnOk P f) (ho : o.op = .call ⟨.value x, args, tys⟩)
    (hx : calleeD (evalO s.fr x) = some (f, nf, caps)) {n : Nat} {p : Prop} {cs : List D} (hcs : closeW (closeD s.h n) (argsD nf caps (args.toList.map (evalO s.fr))) = some (p, cs)) (hp : p) {R : D → List Ob → Prop} (hF : AFn P f cs R)
    (hflat : ∀ d h, R d h → d.flat = true ∧ ∀ o ∈ h, o.flat) (ht : okO nt o.dst = true) (pl : List Pl) (a : Act) (w : World) (r : Rel Z base nt s pl a w) (b : Since Z base w0 s.h pl w) (Q' : Exit → Act → World → Prop) :
    o.wp P a w (fun a' w' => Ext w w' ∧ ∃ d h pl', R d h ∧ Rel Z base nt ⟨putO s.fr o.dst (d.shift s.h.length), s.h ++ h.map (Ob.shift s.h.length)⟩ pl' a' w' ∧ Since Z base w0 (s.h ++ h.map (Ob.shift s.h.length)) pl' w' ∧ Tr s.h pl w (s.h ++ h.map (Ob.shift s.h.length)) pl' w' ∧ ∃ v, a' = a.put o.dst v) Q' := by
  obtain ⟨vs, hv, hvl, hvr⟩ := callee_ok (r.eval x) hx
  have hsize : base ≤ w.heap.size := Nat.le_trans hbase b.1.size
  obtain ⟨q1, q2⟩ := argsD_rel (r := fun d v => RelV Z s.h pl w d v) (nf := nf) hvl hvr (us := args.toList.map a.eval) (args := args.toList.map (evalO s.fr)) (by simp) (fun i hi => by
    have hi' : i < args.toList.length := by simpa using hi
    simp only [nth, nthV, List.getD_eq_getElem?_getD, List.getElem?_map]
    rw [List.getElem?_eq_getElem hi']
    exact r.eval _)
  obtain ⟨k1, k2⟩ := closeW_ok (r := fun d v => RelV Z s.h pl w d v) (C := fun d v => Cl (fun _ => True) w d v) (fun d v p c hr he hp => closeD_ok r.o n d v p c hr he hp) _ (argsD nf vs (args.toList.map a.eval)) p cs q1 q2 hcs hp
  have hc := hF (fun _ => True) w.heap.size w [] (argsD nf vs (args.toList.map a.eval)) (Nat.le_refl _) (fun _ _ => trivial) ⟨rfl, fun l l' b q q' e => by simp at e, fun l o e => by simp at e, fun l o b q e => by simp at e⟩ (by omega) (fun i hi => .cl _ _ ((k2 i (by omega)).mono fun b _ _ => ⟨⟨trivial, fun l q e => by simp at e⟩, rfl⟩))
  unfold Oper.wp
  rw [run_callop hf ho hv w]
  simp only [Oper.upon_enter]
  refine hc.mono fun e w' he => ?_
  obtain ⟨v, d, h', pl', rfl, hR, hO, hV, hTT, hB⟩ := he
  obtain ⟨f1, f2⟩ := hflat d h' hR
  have hO' := hO.anyZ (Z' := fun _ => False) f2
  have hV' := hV.anyZ (Z' := fun _ => False) f1
  have hfr : ∀ b, free (fun _ => False) pl' b → free Z (pl ++ pl') b := fun b hb => hb.1.elim
  have hnew : ∀ (l b q : Nat), pl'[l]? = some (some (b, q)) → w.heap.size ≤ b := fun l b q e => by
    rcases Nat.lt_or_ge b w.heap.size with hlt | hge
    · exact absurd e ((hTT.old b (fun l q e => by simp at e) hlt).1 l q)
    · exact hge
  have T := Tr.join (h' := h'.map (Ob.shift s.h.length)) r.o hB hnew
  have hO2 := RelO.join r.o hsize hB hO' hfr hnew
  refine ⟨fun i hi => hB.block i hi, d, h', pl ++ pl', hR, ?_, b.step T (hB.mono hsize), T, v, rfl⟩
  cases hd : o.dst with
  | none => exact r.to' T hO2 v
  | some t => rw [hd] at ht; exact r.to T hO2 (okO_lt ht) (hV'.join r.o.len hfr)
theorem AG_call (hbase : base ≤ w0.w.heap.size) {o : Oper} {rest : List (Oper × G)} {s : St} {x : Operand} {args : Array Operand} {tys : Array TypeId} {f : FuncId} {nf : Nat} {caps : List D} (hf : FnOk P f) (ho : o.op = .call ⟨.value x, args, tys⟩)
    (hx : calleeD (evalO s.fr x) = some (f, nf, caps)) {n : Nat} {p : Prop} {cs : List D} (hcs : closeW (closeD s.h n) (argsD nf caps (args.toList.map (evalO s.fr))) = some (p, cs)) (hp : p) {R : D → List Ob → Prop} (hF : AFn P f cs R)
    (hflat : ∀ d h, R d h → d.flat = true ∧ ∀ o ∈ h, o.flat) (ht : okO nt o.dst = true) (hk : ∀ d h, R d h → AG P base nt w0 rest Q ⟨putO s.fr o.dst (d.shift s.h.length), s.h ++ h.map (Ob.shift s.h.length)⟩) : AG P base nt w0 ((o, none) :: rest) Q s := by
  intro Z z pl a w r b
  simp only [wpG, wantedG, if_true]
  exact Oper.wp_mono (fun a' w' ⟨_, d, h, pl', hR, r', b', _⟩ => hk d h hR Z z pl' a' w' r' b') (call_wp hbase hf ho hx hcs hp hF hflat ht pl a w r b _)

/-! Weakening. -/
/-- The first m objects stay what and where they are; no place comes that was not. -/
def Keep (m : Nat) (h : List Ob) (pl : List Pl) (h' : List Ob) (pl' : List Pl) : Prop :=
  (∀ b, away pl b → away pl' b) ∧ ∀ (l : Nat) (o : Ob) (p : Pl), l < m → h[l]? = some o → pl[l]? = some p → ∃ o', h'[l]? = some o' ∧ pl'[l]? = some p ∧ o'.gen = o.gen ∧ o'.sz = o.sz ∧ o'.kd.ty = o.kd.ty
theorem Keep.refl (m : Nat) (h : List Ob) (pl : List Pl) : Keep m h pl h pl := ⟨fun _ h => h, fun _ o p _ ho hp => ⟨o, ho, hp, rfl, rfl, rfl⟩⟩
theorem Keep.trans {m : Nat} {h h' h'' : List Ob} {pl pl' pl'' : List Pl} (a : Keep m h pl h' pl') (b : Keep m h' pl' h'' pl'') : Keep m h pl h'' pl'' :=
  ⟨fun x hx => b.1 x (a.1 x hx), fun l o p hl ho hp => by
    obtain ⟨o1, h1, h2, h3, h4, h5⟩ := a.2 l o p hl ho hp
    obtain ⟨o2, k1, k2, k3, k4, k5⟩ := b.2 l o1 p hl h1 h2
    exact ⟨o2, k1, k2, by rw [k3, h3], by rw [k4, h4], by rw [k5, h5]⟩⟩
theorem Tr.keep {F h h' : List Ob} {pl0 pl pl' : List Pl} {w0 w : World} {m : Nat} (T : Tr F pl0 w0 h pl w) (hm : F.length ≤ m) (K : Keep m h pl h' pl') : Tr F pl0 w0 h' pl' w where
  old := fun b hb hlt => ⟨K.1 b (T.old b hb hlt).1, (T.old b hb hlt).2⟩
  obj := fun l o p ho hp => by
    obtain ⟨o1, p1, h1, h2, h3, h4, h5⟩ := T.obj l o p ho hp
    obtain ⟨o2, k1, k2, k3, k4, k5⟩ := K.2 l o1 p1 (Nat.lt_of_lt_of_le (lt_of_some ho) hm) h1 h2
    exact ⟨o2, p1, k1, k2, by omega, by rw [k5, h4], fun e => by obtain ⟨x, y⟩ := h5 (by omega); exact ⟨by rw [k4, x], y⟩⟩
  shape := fun l o o'' b q ho ho'' hg hp c el hb => by
    obtain ⟨o1, p1, h1, h2, h3, h4, h5⟩ := T.obj l o _ ho hp
    obtain ⟨o2, k1, k2, k3, k4, k5⟩ := K.2 l o1 p1 (Nat.lt_of_lt_of_le (lt_of_some ho) hm) h1 h2
    rw [ho''] at k1; cases k1
    exact T.shape l o o1 b q ho h1 (by omega) hp c el hb
def Wk (m : Nat) (s s' : St) : Prop := ∀ (Z : Nat → Prop) (base nt : Nat) pl a w, Rel Z base nt s pl a w → ∃ pl', Rel Z base nt s' pl' a w ∧ Keep m s.h pl s'.h pl'
theorem Wk.refl {m : Nat} (s : St) : Wk m s s := fun _ _ _ pl _ _ r => ⟨pl, r, .refl _ _ _⟩
theorem Wk.trans {m : Nat} {s s' s'' : St} (h : Wk m s s') (k : Wk m s' s'') : Wk m s s'' := fun Z b n pl a w r =>
  let ⟨pl', r', K⟩ := h Z b n pl a w r
  let ⟨pl'', r'', K'⟩ := k Z b n pl' a w r'
  ⟨pl'', r'', K.trans K'⟩
theorem Since.keep {h h' : List Ob} {pl pl' : List Pl} {w : World} (b : Since Z base w0 h pl w) (K : Keep w0.F.length h pl h' pl') : Since Z base w0 h' pl' w := ⟨b.1, b.2.1.keep (Nat.le_refl _) K, b.2.2.new, fun l b' q e h0 => by
  by_cases ha : away pl b'
  · exact absurd e (K.1 b' ha l q)
  · obtain ⟨l1, h1⟩ := Classical.not_forall.1 ha
    obtain ⟨q1, h2⟩ := Classical.not_forall.1 h1
    exact b.2.2.own l1 b' q1 (Classical.not_not.1 h2) h0⟩
/-- What one may say of a state out of another one, at any moment of a walk. -/
def Weak (w0 : Start) (s s' : St) : Prop := ∀ (Z : Nat → Prop), ZOk w0 Z → ∀ (base nt : Nat) pl a w, Rel Z base nt s pl a w → Since Z base w0 s.h pl w → ∃ pl', Rel Z base nt s' pl' a w ∧ Since Z base w0 s'.h pl' w
theorem Wk.up {s s' : St} (h : Wk w0.F.length s s') : Weak w0 s s' := fun Z _ base nt pl a w r b => let ⟨pl', r', K⟩ := h Z base nt pl a w r; ⟨pl', r', b.keep K⟩
theorem Weak.refl (s : St) : Weak w0 s s := fun _ _ _ _ pl _ _ r b => ⟨pl, r, b⟩
theorem Weak.trans {s s' s'' : St} (h : Weak w0 s s') (k : Weak w0 s' s'') : Weak w0 s s'' := fun Z z bs n pl a w r b =>
  let ⟨pl', r', b'⟩ := h Z z bs n pl a w r b
  k Z z bs n pl' a w r' b'
theorem A.weak {c : Code} {s s' : St} (h : Weak w0 s s') (k : A P base nt w0 c Q s') : A P base nt w0 c Q s := fun Z z pl a w r b => let ⟨pl', r', b'⟩ := h Z z base nt pl a w r b; k Z z pl' a w r' b'
theorem AG.weak {l : List (Oper × G)} {s s' : St} (h : Weak w0 s s') (k : AG P base nt w0 l Q s') : AG P base nt w0 l Q s := fun Z z pl a w r b => let ⟨pl', r', b'⟩ := h Z z base nt pl a w r b; k Z z pl' a w r' b'
theorem kont_weak_code {c : Code} {k : List Item} {s s' : St} (h : Weak w0 s s') (hk : kont P base nt w0 Q (.code c :: k) .normal s') : kont P base nt w0 Q (.code c :: k) .normal s := by
  simp only [kont] at hk ⊢; exact hk.weak h

/-- The values of a frame, one by one. -/
def frLe (fr : List (Nat × D)) : List (Nat × D) → Prop
  | [] => True
  | (t, d) :: r => get fr t = d ∧ frLe fr r
theorem frLe_mem {fr : List (Nat × D)} : ∀ {r : List (Nat × D)}, frLe fr r → ∀ t d, (t, d) ∈ r → get fr t = d
  | [], _, _, _, h => by cases h
  | (u, e) :: r, h, t, d, hm => by
    rcases List.mem_cons.1 hm with h1 | h1
    · cases h1; exact h.1
    · exact frLe_mem h.2 t d h1
theorem mem_get (fr : List (Nat × D)) (u : Nat) : get fr u = .undef ∨ (u, get fr u) ∈ fr := by
  induction fr with
  | nil => exact .inl rfl
  | cons x r ih =>
    obtain ⟨t, d⟩ := x
    simp only [get]
    by_cases h : t = u
    · subst h; simp
    · have : Nat.beq t u = false := by rw [← Bool.not_eq_true, Nat.beq_eq]; exact h
      rw [this]
      rcases ih with ih | ih
      · exact .inl (by simpa using ih)
      · exact .inr (by simp [ih])
theorem Wk.frame {m : Nat} {fr fr' : List (Nat × D)} {h : List Ob} (hf : frLe fr fr') : Wk m ⟨fr, h⟩ ⟨fr', h⟩ := fun Z base nt pl a w r =>
  ⟨pl, ⟨r.nt, r.defers, fun t => by
    rcases mem_get fr' t with h1 | h1
    · show RelV Z h pl w (get fr' t) _
      rw [h1]; exact .cl _ _ (.undef _)
    · have := frLe_mem hf _ _ h1
      show RelV Z h pl w (get fr' t) _
      rw [← this]; exact r.fr t, r.o⟩, .refl _ _ _⟩

/-- Kinds that are alike. -/
def Kd.like (k k' : Kd) : Prop := k.ty = k'.ty ∧ k.ro = k'.ro
def obLe (o o' : Ob) : Prop := o'.gen = o.gen ∧ o'.sz = o.sz ∧ o'.n = o.n ∧ o'.kd.like o.kd ∧ ∀ i, i < o.n → o'.row i = o.row i
def obsLe : List Ob → List Ob → Prop
  | [], [] => True
  | o :: r, o' :: r' => obLe o o' ∧ obsLe r r'
  | _, _ => False
theorem obsLe_get : ∀ {h h' : List Ob}, obsLe h h' → h'.length = h.length ∧ ∀ (l : Nat) (o' : Ob), h'[l]? = some o' → ∃ o, h[l]? = some o ∧ obLe o o'
  | [], [], _ => ⟨rfl, fun l o' e => by simp at e⟩
  | [], _ :: _, h => h.elim
  | _ :: _, [], h => h.elim
  | o :: r, o' :: r', h => by
    obtain ⟨h1, h2⟩ := obsLe_get h.2
    refine ⟨by simp [h1], fun l u e => ?_⟩
    cases l with
    | zero => simp at e; subst e; exact ⟨o, rfl, h.1⟩
    | succ l => simp at e; obtain ⟨v, h3, h4⟩ := h2 l u e; exact ⟨v, by simpa using h3, h4⟩
theorem RelV.obs {h h' : List Ob} {pl : List Pl} {w : World} (hl : obsLe h h') {d : D} {v : Value} (r : RelV Z h pl w d v) : RelV Z h' pl w d v := by
  obtain ⟨h1, h2⟩ := obsLe_get hl
  have key : ∀ (l : Nat) (o : Ob), h[l]? = some o → ∃ o', h'[l]? = some o' ∧ obLe o o' := fun l o e => by
    have : l < h'.length := by rw [h1]; exact lt_of_some e
    obtain ⟨o2, h3, h4⟩ := h2 l _ (List.getElem?_eq_getElem this)
    rw [e] at h3; cases h3
    exact ⟨_, List.getElem?_eq_getElem this, h4⟩
  induction r with
  | cl d v hc => exact .cl d v hc
  | ref l g off len o p a cap ho hp hk hg hs =>
    obtain ⟨o', h3, h4⟩ := key l o ho
    exact .ref l g off len o' p a cap h3 hp (by rw [h4.2.2.2.1.1]; exact hk) (by rw [h4.1]; exact hg) (fun e => by rw [h4.2.1]; exact hs (by rw [e, h4.1]))
  | ptr l g i j o p a ho hp hk hg hs =>
    obtain ⟨o', h3, h4⟩ := key l o ho
    exact .ptr l g i j o' p a h3 hp (by rw [h4.2.2.2.1.1]; exact hk) (by rw [h4.1]; exact hg) (fun e => by rw [h4.2.1]; exact hs (by rw [e, h4.1]))
  | mref l g o p b ho hp hk hg hs =>
    obtain ⟨o', h3, h4⟩ := key l o ho
    exact .mref l g o' p b h3 hp (by rw [h4.2.2.2.1.1]; exact hk) (by rw [h4.1]; exact hg) (fun e => hs (by rw [e, h4.1]))
  | clo f nf cs vs hl hr ih => exact .clo f nf cs vs hl ih
  | agg cs vs hl hr ih => exact .agg cs vs hl ih
  | tup cs vs hl hr ih => exact .tup cs vs hl ih
theorem Wk.obs {m : Nat} {fr : List (Nat × D)} {h h' : List Ob} (hl : obsLe h h') : Wk m ⟨fr, h⟩ ⟨fr, h'⟩ := fun Z base nt pl a w r => by
  obtain ⟨h1, h2⟩ := obsLe_get hl
  refine ⟨pl, ⟨r.nt, r.defers, fun t => (r.fr t).obs hl, ⟨by rw [h1]; exact r.o.len, r.o.inj, fun l o' ho hp => ?_, fun l o' b q ho hp => ?_⟩⟩, fun _ h => h, fun l o p _ ho hp => ?_⟩
  · obtain ⟨o, h3, h4⟩ := h2 l o' ho
    rw [h4.2.2.1]; exact r.o.noRow l o h3 hp
  · obtain ⟨o, h3, h4, h5, h6, h8, h7⟩ := h2 l o' ho
    obtain ⟨g1, x⟩ := r.o.at_ l o b q h3 hp
    exact ⟨fun hr => g1 (by rw [← h8.2, hr]), x.to h8.1 h5 h6 rfl (fun i hi => by rw [h7 i hi]) fun i j v hi _ hr => by rw [h7 i hi]; exact hr.obs hl⟩
  · have hlt : l < h'.length := by rw [h1]; exact lt_of_some ho
    obtain ⟨o2, h3, h4⟩ := h2 l _ (List.getElem?_eq_getElem hlt)
    have ho : h[l]? = some o := ho
    rw [ho] at h3; cases h3
    exact ⟨_, List.getElem?_eq_getElem hlt, hp, h4.1, h4.2.1, h4.2.2.2.1.1⟩

mutual
/-- It names objects below k alone. -/
def D.upto (k : Nat) : D → Bool
  | .ref l _ _ _ => Nat.blt l k
  | .ptr l _ _ _ => Nat.blt l k
  | .mref l _ => Nat.blt l k
  | .clo _ _ cs => uptoL k cs
  | .agg cs => uptoL k cs
  | .tup cs => uptoL k cs
  | _ => true
def uptoL (k : Nat) : List D → Bool
  | [] => true
  | d :: r => d.upto k && uptoL k r
end
theorem uptoL_nth {k : Nat} : ∀ {cs : List D}, uptoL k cs = true → ∀ i, i < cs.length → (nth cs i).upto k = true
  | [], _, i, h => by simp at h
  | d :: r, hf, i, h => by
    simp only [uptoL, Bool.and_eq_true] at hf
    cases i with
    | zero => exact hf.1
    | succ i => have := uptoL_nth hf.2 i (by simpa using h); simpa [nth] using this
theorem RelV.take {h : List Ob} {pl : List Pl} {w : World} {k : Nat} {d : D} {v : Value} (r : RelV Z h pl w d v) (hk : d.upto k = true) : RelV Z (h.take k) (pl.take k) w d v := by
  have hfr : ∀ b, free Z pl b → free Z (pl.take k) b := fun b hb => ⟨hb.1, fun l q e => by
    rw [List.getElem?_take] at e
    split at e
    · exact hb.2 l q e
    · cases e⟩
  induction r with
  | cl d v hc => exact .cl d v (hc.mono fun b hb _ => ⟨hfr b hb, rfl⟩)
  | ref l g off len o p a cap ho hp hm hg hs =>
    have : l < k := by simpa [D.upto, Nat.blt_eq] using hk
    exact .ref l g off len o p a cap (by rw [List.getElem?_take, if_pos this]; exact ho) (by rw [List.getElem?_take, if_pos this]; exact hp) hm hg hs
  | ptr l g i j o p a ho hp hm hg hs =>
    have : l < k := by simpa [D.upto, Nat.blt_eq] using hk
    exact .ptr l g i j o p a (by rw [List.getElem?_take, if_pos this]; exact ho) (by rw [List.getElem?_take, if_pos this]; exact hp) hm hg hs
  | mref l g o p b ho hp hm hg hs =>
    have : l < k := by simpa [D.upto, Nat.blt_eq] using hk
    exact .mref l g o p b (by rw [List.getElem?_take, if_pos this]; exact ho) (by rw [List.getElem?_take, if_pos this]; exact hp) hm hg hs
  | clo f nf cs vs hl hr ih => exact .clo f nf cs vs hl fun i hi => ih i hi (uptoL_nth (by simpa [D.upto] using hk) i hi)
  | agg cs vs hl hr ih => exact .agg cs vs hl fun i hi => ih i hi (uptoL_nth (by simpa [D.upto] using hk) i hi)
  | tup cs vs hl hr ih => exact .tup cs vs hl fun i hi => ih i hi (uptoL_nth (by simpa [D.upto] using hk) i hi)
def frUpto (k : Nat) : List (Nat × D) → Bool
  | [] => true
  | (_, d) :: r => d.upto k && frUpto k r
theorem frUpto_get {k : Nat} : ∀ {fr : List (Nat × D)}, frUpto k fr = true → ∀ t, (get fr t).upto k = true
  | [], _, t => rfl
  | (u, d) :: r, h, t => by
    simp only [frUpto, Bool.and_eq_true] at h
    simp only [get]
    cases Nat.beq u t
    · exact frUpto_get h.2 t
    · exact h.1
def obsUpto (k : Nat) : List Ob → Prop
  | [] => True
  | o :: r => (∀ i, i < o.n → uptoL k (o.row i) = true) ∧ obsUpto k r
theorem obsUpto_get {k : Nat} : ∀ {h : List Ob}, obsUpto k h → ∀ (l : Nat) (o : Ob), h[l]? = some o → ∀ i, i < o.n → uptoL k (o.row i) = true
  | [], _, l, o, e => by simp at e
  | o :: r, h, l, u, e => by
    cases l with
    | zero => simp at e; subst e; exact h.1
    | succ l => simp at e; exact obsUpto_get h.2 l u e
/-- Objects that nothing names go. -/
theorem Wk.drop {m : Nat} (k : Nat) (hm : m ≤ k) {fr : List (Nat × D)} {h : List Ob} (h1 : frUpto k fr = true) (h2 : obsUpto k (h.take k)) : Wk m ⟨fr, h⟩ ⟨fr, h.take k⟩ := fun Z base nt pl a w r => by
  have hpl : ∀ (l : Nat) (p : Pl), (pl.take k)[l]? = some p → pl[l]? = some p := fun l p e => by
    rw [List.getElem?_take] at e; split at e
    · exact e
    · cases e
  have hh : ∀ (l : Nat) (o : Ob), (h.take k)[l]? = some o → h[l]? = some o := fun l o e => by
    rw [List.getElem?_take] at e; split at e
    · exact e
    · cases e
  refine ⟨pl.take k, ⟨r.nt, r.defers, fun t => (r.fr t).take (frUpto_get h1 t), ⟨by simp [r.o.len], fun l l' b q q' e1 e2 => r.o.inj l l' b q q' (hpl _ _ e1) (hpl _ _ e2), fun l o ho hp => r.o.noRow l o (hh _ _ ho) (hpl _ _ hp), fun l o b q ho hp => ?_⟩⟩,
    fun b hb l q e => hb l q (hpl _ _ e), fun l o p hl ho hp => ⟨o, by show (h.take k)[l]? = _; rw [List.getElem?_take, if_pos (by omega)]; exact ho, by rw [List.getElem?_take, if_pos (by omega)]; exact hp, rfl, rfl, rfl⟩⟩
  obtain ⟨g1, x⟩ := r.o.at_ l o b q (hh _ _ ho) (hpl _ _ hp)
  exact ⟨g1, x.to rfl rfl rfl rfl (fun _ _ => rfl) fun i j v hi hj hr => hr.take (uptoL_nth (obsUpto_get h2 l o ho i hi) j hj)⟩

/-- A nil slice told ens a slice over an object without rows. -/
theorem Wk.phantom {m : Nat} {fr : List (Nat × D)} {h : List Ob} (t sz : Nat) (row : Nat → List D) (ht : get fr t = .nil) : Wk m ⟨fr, h⟩ ⟨put fr t (.ref h.length 0 0 0), h ++ [⟨.arr, 0, sz, 0, row⟩]⟩ := fun Z base nt pl a w r => by
  have T : Tr h pl w (h ++ [⟨.arr, 0, sz, 0, row⟩]) (pl ++ [none]) w := Tr.push r.o (fun _ _ => rfl) _ _ (by intro b q e; cases e)
  refine ⟨pl ++ [none], ⟨r.nt, r.defers, fun u => ?_, r.o.phantom _ rfl⟩, fun b hb => away_append hb (fun q e => by cases e), fun l o p _ ho hp => ⟨o, append_left_some ho, append_left_some hp, rfl, rfl, rfl⟩⟩
  show RelV Z _ _ w (get (put fr t (.ref h.length 0 0 0)) u) _
  rw [get_put]
  by_cases hu : u = t
  · subst hu
    rw [if_pos rfl]
    have := r.fr u
    have this : RelV Z h pl w (get fr u) (a.tmps.getD u Go.undef) := this
    rw [ht] at this
    obtain ⟨ad, hv⟩ := inv_nil this
    rw [hv]
    have hpl : pl.length = h.length := r.o.len
    exact .ref _ _ _ _ ⟨.arr, 0, sz, 0, row⟩ none ad 0 (by simp) (by rw [← hpl]; simp) rfl (Nat.le_refl _) (fun _ => .inl ⟨rfl, rfl⟩)
  · rw [if_neg hu]; exact (r.fr u).tr T

/-! Loops. -/
def LoopQ (P : Program) (base nt : Nat) (w0 : Start) (Q : Exit → St → Prop) (k : List Item) (I : Nat → St → Prop) (m : Nat) : Exit → St → Prop
  | .normal, s => ∃ m' s', m' < m ∧ Weak w0 s s' ∧ I m' s'
  | e, s => kont P base nt w0 Q k e s
theorem least_of {p : Nat → Prop} : ∀ n, p n → ∃ m, p m ∧ ∀ k, p k → m ≤ k := by
  intro n
  induction n using Nat.strongRecOn with
  | _ n ih =>
    intro hn
    by_cases h : ∃ k, k < n ∧ p k
    · obtain ⟨k, hk, hp⟩ := h; exact ih k hk hp
    · exact ⟨n, hn, fun k hk => Nat.le_of_not_lt fun hlt => h ⟨k, hlt, hk⟩⟩
theorem least_ex {p : Nat → Prop} (h : ∃ n, p n) : ∃ m, p m ∧ ∀ k, p k → m ≤ k := let ⟨n, hn⟩ := h; least_of n hn
open Classical in
theorem kont_loop {c : Code} {k : List Item} {s s0 : St} (I : Nat → St → Prop) (m0 : Nat) (hw : Weak w0 s s0) (h0 : I m0 s0) (round : ∀ m s, I m s → kont P base nt w0 (LoopQ P base nt w0 Q k I m) [.code c] .normal s) : kont P base nt w0 Q (.code (.loop c) :: k) .normal s := by
  simp only [kont]
  refine A.weak hw ?_
  intro Z z pl a w r b
  let J : Nat → Act → World → Prop := fun m a w => ∃ s pl, I m s ∧ Rel Z base nt s pl a w ∧ Since Z base w0 s.h pl w
  let μ : Act → World → Nat := fun a w => if h : ∃ m, J m a w then Classical.choose (least_ex h) else 0
  refine wp_loop (fun a w => ∃ m, J m a w) μ ⟨m0, s0, pl, h0, r, b⟩ fun a w hJ => ?_
  have hm := (Classical.choose_spec (least_ex hJ)).1
  have hμ : μ a w = Classical.choose (least_ex hJ) := by simp only [μ]; rw [dif_pos hJ]
  obtain ⟨s1, pl1, hI, r1, b1⟩ := hm
  have := round _ s1 hI
  simp only [kont] at this
  refine wp_mono (this Z z pl1 a w r1 b1) fun e a' w' hh => ?_
  obtain ⟨s2, pl2, hq, r2, b2⟩ := hh
  cases e with
  | normal =>
    obtain ⟨m', s3, hlt, hwk, hI3⟩ := hq
    obtain ⟨pl3, r3, b3⟩ := hwk Z z base nt pl2 a' w' r2 b2
    have hJ' : J m' a' w' := ⟨s3, pl3, hI3, r3, b3⟩
    refine ⟨⟨m', hJ'⟩, ?_⟩
    rw [hμ]
    have : μ a' w' ≤ m' := by simp only [μ]; rw [dif_pos ⟨m', hJ'⟩]; exact (Classical.choose_spec (least_ex (p := fun m => J m a' w') ⟨m', hJ'⟩)).2 m' hJ'
    omega
  | exit id => exact ⟨s2, pl2, hq, r2, b2⟩
  | goto l => exact ⟨s2, pl2, hq, r2, b2⟩
  | ret => exact ⟨s2, pl2, hq, r2, b2⟩
  | panic ch => exact ⟨s2, pl2, hq, r2, b2⟩
  | outgrown => exact ⟨s2, pl2, hq, r2, b2⟩
end
end Go.Fg
namespace Go.Fg
theorem A_of_kont {P : Program} {base nt : Nat} {w0 : Start} {Q : Exit → St → Prop} {c : Code} {s : St} (h : kont P base nt w0 Q [.code c] .normal s) : A P base nt w0 c Q s := by
  simp only [kont] at h
  exact h.mono fun e s' he => by cases e <;> exact he
theorem MFn_of' {P : Program} {X : Cx} (hX : CxOk P X) {f : FuncId} {fn : Func} {c : Code} (n : Nat) (hf : P.funcs[f]? = some fn) (hb : fn.body = some c) {F : List Ob} {args : List D} {R : D → List Ob → Prop} {nt : Nat} (hnt : fn.ntmps = nt) (hn : args.length ≤ nt)
    (h : ∀ (base : Nat) (w : World) (pl : List Pl), base ≤ w.heap.size → pl.length = F.length → (exec X nt n [.code c] ⟨initFr args 0, F⟩).holds P base nt ⟨w, F, pl⟩ (Post X.L fn.results.toList R)) : MFn P f F args R :=
  MFn_of hX.L hf hb (by rw [hnt]; exact hn) fun base w pl hbase hlen => A_of_kont (by rw [hnt]; exact exec_ok hX hbase n _ _ (h base w pl hbase hlen))
end Go.Fg
