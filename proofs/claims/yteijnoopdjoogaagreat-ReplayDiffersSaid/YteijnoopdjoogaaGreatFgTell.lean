/- Walks of the functions that the statement reaches. No conditions: contracts and laws. -/
import Derived.Test.YteijnoopdjoogaaGreatFgExec
import Derived.OrdersHeld
namespace Go.Fg
set_option linter.unusedSimpArgs false
set_option linter.unusedVariables false
open Go.RowKit (Below)
variable {Z : Nat → Prop}

mutual
def D.shift (k : Nat) : D → D
  | .ref l g off len => .ref (k + l) g off len
  | .ptr l g i j => .ptr (k + l) g i j
  | .mref l g => .mref (k + l) g
  | .clo f nf cs => .clo f nf (shiftL k cs)
  | .agg cs => .agg (shiftL k cs)
  | .tup cs => .tup (shiftL k cs)
  | d => d
def shiftL (k : Nat) : List D → List D
  | [] => []
  | c :: cs => c.shift k :: shiftL k cs
end
def Ob.shift (k : Nat) (o : Ob) : Ob := { o with row := fun i => shiftL k (o.row i) }

theorem shiftL_length (k : Nat) : ∀ cs : List D, (shiftL k cs).length = cs.length
  | [] => rfl
  | _ :: cs => by simp [shiftL, shiftL_length k cs]
theorem nth_shiftL (k : Nat) : ∀ (cs : List D) (i : Nat), i < cs.length → nth (shiftL k cs) i = (nth cs i).shift k
  | [], i, h => by simp at h
  | c :: cs, 0, _ => by simp [shiftL, nth]
  | c :: cs, i + 1, h => by
    have := nth_shiftL k cs i (by simpa using h)
    simpa [shiftL, nth] using this

/-- The callee's objects behind the caller's. -/
theorem RelV.join {Zc : Nat → Prop} {h h' : List Ob} {pl pl' : List Pl} {w : World} (hl : pl.length = h.length) (hf : ∀ b, free Zc pl' b → free Z (pl ++ pl') b) {d : D} {v : Value} (r : RelV Zc h' pl' w d v) :
    RelV Z (h ++ h'.map (Ob.shift h.length)) (pl ++ pl') w (d.shift h.length) v := by
  have hob : ∀ (l : Nat) (o : Ob), h'[l]? = some o → (h ++ h'.map (Ob.shift h.length))[h.length + l]? = some (o.shift h.length) := fun l o e => by
    rw [List.getElem?_append_right (by omega)]; simp [e]
  have hpl : ∀ (l : Nat) (p : Pl), pl'[l]? = some p → (pl ++ pl')[h.length + l]? = some p := fun l p e => by
    rw [List.getElem?_append_right (by omega), hl]; simp [e]
  have hcl : ∀ (d : D) (v : Value), Cl (free Zc pl') w d v → RelV Z (h ++ h'.map (Ob.shift h.length)) (pl ++ pl') w (d.shift h.length) v := by
    intro d v hc
    have hc2 := hc.mono (N' := free Z (pl ++ pl')) (w' := w) (fun b hb _ => ⟨hf b hb, rfl⟩)
    clear hc
    induction hc2 with
    | raw v => exact .cl _ _ (.raw v)
    | undef v => exact .cl _ _ (.undef v)
    | nil a => exact .cl _ _ (.nil a)
    | imm sz n row a cap b o vs ha hl hs hc hr ih => exact .cl _ _ (.imm sz n row a cap b o vs ha hl hs hc hr)
    | ip cells b o vs hc hr ih => exact .cl _ _ (.ip cells b o vs hc hr)
    | clo f nf cs vs hl hr ih => exact .clo f nf _ vs (by rw [shiftL_length]; exact hl) (fun i hi => by rw [shiftL_length] at hi; rw [nth_shiftL _ _ _ hi]; exact ih i hi)
    | agg cs vs hl hr ih => exact .agg _ vs (by rw [shiftL_length]; exact hl) (fun i hi => by rw [shiftL_length] at hi; rw [nth_shiftL _ _ _ hi]; exact ih i hi)
    | tup cs vs hl hr ih => exact .tup _ vs (by rw [shiftL_length]; exact hl) (fun i hi => by rw [shiftL_length] at hi; rw [nth_shiftL _ _ _ hi]; exact ih i hi)
  induction r with
  | cl d v hc => exact hcl d v hc
  | ref l g off len o p a cap ho hp hk hg hs => exact .ref _ g off len _ p a cap (hob l o ho) (hpl l p hp) hk hg hs
  | ptr l g i j o p a ho hp hk hg hs => exact .ptr _ g i j _ p a (hob l o ho) (hpl l p hp) hk hg hs
  | mref l g o p b ho hp hk hg hs => exact .mref _ g _ p b (hob l o ho) (hpl l p hp) hk hg hs
  | clo f nf cs vs hl hr ih => exact .clo f nf _ vs (by rw [shiftL_length]; exact hl) (fun i hi => by rw [shiftL_length] at hi; rw [nth_shiftL _ _ _ hi]; exact ih i hi)
  | agg cs vs hl hr ih => exact .agg _ vs (by rw [shiftL_length]; exact hl) (fun i hi => by rw [shiftL_length] at hi; rw [nth_shiftL _ _ _ hi]; exact ih i hi)
  | tup cs vs hl hr ih => exact .tup _ vs (by rw [shiftL_length]; exact hl) (fun i hi => by rw [shiftL_length] at hi; rw [nth_shiftL _ _ _ hi]; exact ih i hi)

theorem Tr.join {base : Nat} {h h' : List Ob} {pl pl' : List Pl} {w w' : World} (R : RelO Z base h pl w) (hb : Below w.heap.size w w') (hnew : ∀ (l b q : Nat), pl'[l]? = some (some (b, q)) → w.heap.size ≤ b) :
    Tr h pl w (h ++ h') (pl ++ pl') w' where
  old := fun b hfr hlt => by
    refine ⟨fun l q e => ?_, hb.block b hlt⟩
    by_cases hl : l < pl.length
    · rw [List.getElem?_append_left hl] at e; exact hfr l q e
    · rw [List.getElem?_append_right (by omega)] at e
      have := hnew _ _ _ e; omega
  obj := fun l o p ho hp => ⟨o, p, by rw [List.getElem?_append_left (lt_of_some ho)]; exact ho, by rw [List.getElem?_append_left (ltp_of_some hp)]; exact hp, Nat.le_refl _, rfl, fun _ => ⟨rfl, rfl⟩⟩
  shape := fun l o o' b q ho ho' hg hp c el hbb => ⟨c, by rw [hb.block b (R.lt hp).1]; exact hbb, rfl⟩

theorem RelO.join {Zc : Nat → Prop} {base : Nat} {h h' : List Ob} {pl pl' : List Pl} {w w' : World} (R : RelO Z base h pl w) (hbase : base ≤ w.heap.size) (hb : Below w.heap.size w w') (R' : RelO Zc w.heap.size h' pl' w')
    (hf : ∀ b, free Zc pl' b → free Z (pl ++ pl') b) (hnew : ∀ (l b q : Nat), pl'[l]? = some (some (b, q)) → w.heap.size ≤ b) : RelO Z base (h ++ h'.map (Ob.shift h.length)) (pl ++ pl') w' := by
  have T := Tr.join (h' := h'.map (Ob.shift h.length)) R hb hnew
  refine ⟨by simp [R.len, R'.len], ?_, ?_, ?_⟩
  · intro l l' b q q' e1 e2
    by_cases h1 : l < pl.length <;> by_cases h2 : l' < pl.length
    · rw [List.getElem?_append_left h1] at e1; rw [List.getElem?_append_left h2] at e2; exact R.inj _ _ _ _ _ e1 e2
    · rw [List.getElem?_append_left h1] at e1; rw [List.getElem?_append_right (by omega)] at e2
      have := (R.lt e1).1; have := hnew _ _ _ e2; omega
    · rw [List.getElem?_append_right (by omega)] at e1; rw [List.getElem?_append_left h2] at e2
      have := (R.lt e2).1; have := hnew _ _ _ e1; omega
    · rw [List.getElem?_append_right (by omega)] at e1 e2
      have := R'.inj _ _ _ _ _ e1 e2; omega
  · intro l o ho hp
    by_cases h1 : l < h.length
    · rw [List.getElem?_append_left h1] at ho
      rw [List.getElem?_append_left (by rw [R.len]; exact h1)] at hp
      exact R.noRow l o ho hp
    · rw [List.getElem?_append_right (by omega)] at ho
      rw [List.getElem?_append_right (by rw [R.len]; omega), R.len] at hp
      simp only [List.getElem?_map, Option.map_eq_some_iff] at ho
      obtain ⟨o', ho', rfl⟩ := ho
      exact R'.noRow _ o' ho' hp
  · intro l o b q ho hp
    by_cases h1 : l < h.length
    · rw [List.getElem?_append_left h1] at ho
      rw [List.getElem?_append_left (by rw [R.len]; exact h1)] at hp
      obtain ⟨g1, x⟩ := R.at_ l o b q ho hp
      exact ⟨g1, x.to rfl rfl rfl (hb.block b (R.lt hp).1) (fun _ _ => rfl) fun i j v _ _ hr => hr.tr T⟩
    · rw [List.getElem?_append_right (by omega)] at ho
      rw [List.getElem?_append_right (by rw [R.len]; omega), R.len] at hp
      simp only [List.getElem?_map, Option.map_eq_some_iff] at ho
      obtain ⟨o', ho', rfl⟩ := ho
      obtain ⟨g1, x⟩ := R'.at_ _ o' b q ho' hp
      refine ⟨fun _ => by have := hnew _ _ _ hp; omega, x.to rfl rfl rfl rfl (fun i _ => shiftL_length _ _) fun i j v hi hj hr => ?_⟩
      show RelV Z _ _ _ (nth (shiftL _ (o'.row i)) j) v
      rw [nth_shiftL _ _ _ hj]
      exact hr.join R.len hf

/-! Contracts. -/
/-- Called with objects F lent, and with values that read so, function f returns what meets R: a value and objects, those that were lent first; nothing else changes. -/
def MFn (P : Program) (f : FuncId) (F : List Ob) (args : List D) (R : D → List Ob → Prop) : Prop :=
  ∀ (Z : Nat → Prop) (base : Nat) (w : World) (pl : List Pl) (vs : List Value), base ≤ w.heap.size → (∀ b, w.heap.size ≤ b → Z b) → RelO Z base F pl w →
    vs.length = args.length → (∀ i, i < args.length → RelV Z F pl w (nth args i) (nthV vs i)) →
    Calls P f vs.toArray w fun e w' => ∃ v d h pl', e = .returned v ∧ R d h ∧ RelO Z base h pl' w' ∧ RelV Z h pl' w' d v ∧ Tr F pl w h pl' w' ∧ Below base w w'
theorem MFn.mono {P : Program} {f : FuncId} {F : List Ob} {args : List D} {R R' : D → List Ob → Prop} (h : MFn P f F args R) (hr : ∀ d h, R d h → R' d h) : MFn P f F args R' := fun Z base w pl vs h1 h2 h3 h4 h5 =>
  (h Z base w pl vs h1 h2 h3 h4 h5).mono fun _ _ ⟨v, d, hh, pl', k1, k2, k3⟩ => ⟨v, d, hh, pl', k1, hr _ _ k2, k3⟩
/-- The same with nothing lent: what was there is ens it was. -/
def AFn (P : Program) (f : FuncId) (args : List D) (R : D → List Ob → Prop) : Prop := MFn P f [] args R
theorem AFn.mono {P : Program} {f : FuncId} {args : List D} {R R' : D → List Ob → Prop} (h : AFn P f args R) (hr : ∀ d h, R d h → R' d h) : AFn P f args R' := MFn.mono h hr

def initFr : List D → Nat → List (Nat × D)
  | [], _ => []
  | d :: r, i => (i, d) :: initFr r (i + 1)
theorem get_initFr : ∀ (args : List D) (i t : Nat), get (initFr args i) t = if i ≤ t then nth args (t - i) else .undef
  | [], i, t => by simp [initFr, get, nth]
  | d :: r, i, t => by
    simp only [initFr, get]
    by_cases h : i = t
    · subst h; simp [nth]
    · have : Nat.beq i t = false := by rw [← Bool.not_eq_true, Nat.beq_eq]; exact h
      rw [this]
      simp only [cond_false]
      rw [get_initFr r (i + 1) t]
      by_cases h2 : i + 1 ≤ t
      · rw [if_pos h2, if_pos (by omega)]
        obtain ⟨m, rfl⟩ : ∃ m, t = i + (m + 1) := ⟨t - i - 1, by omega⟩
        rw [show i + (m + 1) - (i + 1) = m by omega, show i + (m + 1) - i = m + 1 by omega]
        simp [nth]
      · rw [if_neg h2, if_neg (by omega)]

/-- What a function hands back. -/
def resD (L : Lay) (s : St) : List ResultVar → Option (Prop × List D)
  | [] => some (True, [])
  | .tmp t :: r => match resD L s r with
    | some (p, ds) => some (p, get s.fr t :: ds)
    | none => none
  | .cell a ty :: r => match pload L s.h ty (get s.fr a), resD L s r with
    | some (q, d), some (p, ds) => some (q ∧ p, d :: ds)
    | _, _ => none
def one : List D → D
  | [d] => d
  | ds => .tup ds
/-- The post of a body: at its end the results meet R. -/
def Post (L : Lay) (rs : List ResultVar) (R : D → List Ob → Prop) : Exit → St → Prop
  | .normal, s | .ret, s => match resD L s rs with
    | some (p, ds) => p ∧ R (one ds) s.h
    | none => False
  | _, _ => False

def resV (tmps : Array Value) : ResultVar → Sem Value
  | .tmp t => pure (tmps.getD t Go.undef)
  | .cell x t => do loadVar t (← asAddr (tmps.getD x Go.undef))
theorem results_eq (fn : Func) (tmps : Array Value) : results fn tmps = (do let vs ← fn.results.mapM (resV tmps); pure (if h : vs.size = 1 then vs[0] else .tuple vs)) := by
  unfold results
  congr 2
theorem run_resD {P : Program} {L : Lay} (hL : LayOk P L) {base nt : Nat} {s : St} {pl : List Pl} {a : Act} {w : World} (r : Rel Z base nt s pl a w) : ∀ (rs : List ResultVar) (p : Prop) (ds : List D), resD L s rs = some (p, ds) → p →
    ∃ vs : List Value, vs.length = ds.length ∧ (∀ i, i < ds.length → RelV Z s.h pl w (nth ds i) (nthV vs i)) ∧
      (rs.mapM (resV a.tmps)).run P w = .ok vs w
  | [], p, ds, h, _ => by simp [resD] at h; obtain ⟨_, rfl⟩ := h; exact ⟨[], rfl, fun i hi => by simp at hi, by simp⟩
  | .tmp t :: rs, p, ds, h, hp => by
    simp only [resD] at h
    split at h
    · rename_i q ds' hr
      simp only [Option.some.injEq, Prod.mk.injEq] at h
      obtain ⟨rfl, rfl⟩ := h
      obtain ⟨vs, h1, h2, h3⟩ := run_resD hL r rs _ _ hr hp
      refine ⟨a.tmps.getD t Go.undef :: vs, by simp [h1], fun i hi => ?_, by simp [List.mapM_cons, resV, h3]⟩
      cases i with
      | zero => exact r.fr t
      | succ i => have := h2 i (by simpa using hi); simpa [nth, nthV] using this
    · cases h
  | .cell x t :: rs, p, ds, h, hp => by
    simp only [resD] at h
    split at h
    · rename_i q d p' ds' hl hr
      simp only [Option.some.injEq, Prod.mk.injEq] at h
      obtain ⟨rfl, rfl⟩ := h
      obtain ⟨vs, h1, h2, h3⟩ := run_resD hL r rs _ _ hr hp.2
      -- the load, by a load's own law
      have ho := load_ok (P := P) (base := base) (nt := nt) (s := s) (o := ⟨none, .load t (.tmp x), 0, "", #[], none⟩) hL (t := t) (x := .tmp x) rfl hl hp.1
      obtain ⟨v, hv, hrun⟩ := ho Z pl a w r
      have hrun := hrun w (fun _ _ => rfl)
      refine ⟨v :: vs, by simp [h1], fun i hi => ?_, ?_⟩
      · cases i with
        | zero => exact hv
        | succ i => have := h2 i (by simpa using hi); simpa [nth, nthV] using this
      · have hx := r.fr x
        have hld : (resV a.tmps (.cell x t)).run P w = .ok v w := by
          simp only [execOp, Act.eval, Instr.loadAt, Sem.run_bind] at hrun
          simp only [resV]
          have hptr : ∃ ad, a.tmps.getD x Go.undef = .pointer (some ad) := by
            unfold pload at hl
            split at hl
            · cases hl
            · split at hl
              · rename_i hg; rw [hg] at hx; obtain ⟨_, _, ad, hv, _⟩ := inv_ptr hx; exact ⟨_, hv⟩
              · rename_i hg; rw [hg] at hx; obtain ⟨_, _, _, hv, _⟩ := inv_ip hx; exact ⟨_, hv⟩
              · cases hl
          obtain ⟨ad, had⟩ := hptr
          rw [had] at hrun ⊢
          simp only [Instr.sureAddr, asAddr, Sem.run_bind, Sem.run_pure, Result.andThen_ok] at hrun ⊢
          generalize (loadVar t ad).run P w = r1 at *
          cases r1 with
          | ok u w1 => simp only [Result.andThen_ok] at hrun; cases hrun; rfl
          | halt x w1 => simp only [Result.andThen_halt] at hrun; cases hrun
        simp [List.mapM_cons, hld, h3]
    · cases h

theorem MFn_of {P : Program} {L : Lay} (hL : LayOk P L) {f : FuncId} {fn : Func} {c : Code} (hf : P.funcs[f]? = some fn) (hb : fn.body = some c) {F : List Ob} {args : List D} {R : D → List Ob → Prop} (hn : args.length ≤ fn.ntmps)
    (h : ∀ (base : Nat) (w : World) (pl : List Pl), base ≤ w.heap.size → pl.length = F.length → A P base fn.ntmps ⟨w, F, pl⟩ c (Post L fn.results.toList R) ⟨initFr args 0, F⟩) : MFn P f F args R := by
  intro Z base w pl vs hbase hZ hO hl hc
  refine calls_of_wp hf hb ?_
  have hrel : Rel Z base fn.ntmps ⟨initFr args 0, F⟩ pl { tmps := vs.toArray ++ Array.replicate (fn.ntmps - vs.toArray.size) Go.undef, defers := [] } w := by
    refine ⟨by simp; omega, rfl, fun t => ?_, hO⟩
    rw [get_initFr]
    simp only [Nat.zero_le, if_true, Nat.sub_zero]
    by_cases ht : t < args.length
    · have := hc t ht
      have e : (vs.toArray ++ Array.replicate (fn.ntmps - vs.toArray.size) Go.undef).getD t Go.undef = nthV vs t := by
        rw [Array.getD_eq_getD_getElem?, Array.getElem?_append_left (by simp; omega)]
        simp [nthV, List.getD_eq_getElem?_getD]
      rw [e]
      exact this
    · have : nth args t = .undef := by simp [nth, List.getD_eq_getElem?_getD, List.getElem?_eq_none (Nat.le_of_not_lt ht)]
      rw [this]
      exact .cl _ _ (.undef _)
  refine wp_mono (h base w pl hbase hO.len _ trivial pl _ w hrel ⟨Below.refl _ _, Tr.refl _ _ _, ZIn.start (w0 := ⟨w, F, pl⟩) hO hZ⟩) fun e a' w' hh => ?_
  obtain ⟨s', pl', hq, r', hbl, hT, _⟩ := hh
  have fin : (match resD L s' fn.results.toList with | some (p, ds) => p ∧ R (one ds) s'.h | none => False) → a'.defers = [] ∧ ∃ v, (results fn a'.tmps).run P w' = .ok v w' ∧
      ∃ v1 d h pl', Ending.returned v = .returned v1 ∧ R d h ∧ RelO Z base h pl' w' ∧ RelV Z h pl' w' d v1 ∧ Tr F pl w h pl' w' ∧ Below base w w' := by
    intro hm
    split at hm
    · rename_i p ds hres
      obtain ⟨vs', h1, h2, h3⟩ := run_resD hL r' _ _ _ hres hm.1
      have hrun : (fn.results.mapM (resV a'.tmps)).run P w' = .ok vs'.toArray w' := by
        rw [Array.mapM_eq_mapM_toList]
        simp only [Sem.run_map, h3, Result.andThen_ok]
      refine ⟨r'.defers, ?_⟩
      have hsz : vs'.toArray.size = vs'.length := by simp
      match ds, vs', h1, h2, hrun, hm with
      | [d], [v], _, h2, hrun, hm =>
        refine ⟨v, ?_, v, d, s'.h, pl', rfl, hm.2, r'.o, h2 0 (by simp), hT, hbl⟩
        rw [results_eq]; simp only [Sem.run_bind]
        rw [hrun]; simp
      | [], [], _, h2, hrun, hm =>
        refine ⟨.tuple #[], ?_, _, _, s'.h, pl', rfl, hm.2, r'.o, .tup [] [] rfl (fun i hi => by simp at hi), hT, hbl⟩
        rw [results_eq]; simp only [Sem.run_bind]
        rw [hrun]; simp
      | d :: d2 :: ds, v :: v2 :: vs, h1, h2, hrun, hm =>
        refine ⟨.tuple (v :: v2 :: vs).toArray, ?_, _, _, s'.h, pl', rfl, hm.2, r'.o, .tup _ _ h1 h2, hT, hbl⟩
        rw [results_eq]; simp only [Sem.run_bind]
        rw [hrun]; simp
      | [], _ :: _, h1, _, _, _ => simp at h1
      | [_], [], h1, _, _, _ => simp at h1
      | [_], _ :: _ :: _, h1, _, _, _ => simp at h1
      | _ :: _ :: _, [], h1, _, _, _ => simp at h1
      | _ :: _ :: _, [_], h1, _, _, _ => simp at h1
    · exact hm.elim
  cases e with
  | normal => exact fin hq
  | ret => exact fin hq
  | exit id => exact hq.elim
  | goto l => exact hq.elim
  | panic ch => exact hq.elim
  | outgrown => exact hq.elim
end Go.Fg
namespace Go.Fg
set_option linter.unusedSimpArgs false
set_option linter.unusedVariables false
open Go.RowKit (Below)
variable {Z : Nat → Prop}

/-! Closing values for a callee. -/
def D.cl1 : D → Bool
  | .raw _ | .nil | .imm _ _ _ | .ip _ => true
  | _ => false
theorem cl1_ok {h : List Ob} {pl : List Pl} {w : World} {d : D} {v : Value} (r : RelV Z h pl w d v) (hd : d.cl1 = true) : Cl (free Z pl) w d v := by
  cases r with
  | cl _ _ hc => exact hc
  | _ => cases hd

def closeW (f : D → Option (Prop × D)) : List D → Option (Prop × List D)
  | [] => some (True, [])
  | d :: r => match f d, closeW f r with
    | some (p, c), some (q, cs) => some (p ∧ q, c :: cs)
    | _, _ => none
/-- What a callee that only reads sees. -/
def closeD (h : List Ob) : Nat → D → Option (Prop × D)
  | 0, .raw v => some (True, .raw v)
  | 0, _ => none
  | n + 1, d => match d with
    | .raw v => some (True, .raw v)
    | .nil => some (True, .nil)
    | .imm z n r => some (True, .imm z n r)
    | .ip c => some (True, .ip c)
    | .ref l g off len => match h[l]? with
      | some o => some (g = o.gen ∧ off + len ≤ o.n ∧ ∀ i, i < len → (o.row (off + i)).all D.cl1 = true, .imm o.sz len fun i => o.row (off + i))
      | none => none
    | .ptr l g i j => match h[l]? with
      | some o => match closeW (closeD h n) ((o.row i).drop j) with
        | some (p, cs) => some (g = o.gen ∧ i < o.n ∧ j ≤ o.sz ∧ p, .ip cs)
        | none => none
      | none => none
    | .agg cs => match closeW (closeD h n) cs with
      | some (p, cs') => some (p, .agg cs')
      | none => none
    | .clo f nf cs => match closeW (closeD h n) cs with
      | some (p, cs') => some (p, .clo f nf cs')
      | none => none
    | _ => none

theorem closeW_ok {f : D → Option (Prop × D)} {C : D → Value → Prop} {r : D → Value → Prop} (hf : ∀ d v p c, r d v → f d = some (p, c) → p → C c v) : ∀ (cs : List D) (vs : List Value) (p : Prop) (cs' : List D), vs.length = cs.length → (∀ i, i < cs.length → r (nth cs i) (nthV vs i)) →
    closeW f cs = some (p, cs') → p → cs'.length = cs.length ∧ ∀ i, i < cs.length → C (nth cs' i) (nthV vs i)
  | [], vs, p, cs', hl, hr, h, hp => by simp [closeW] at h; obtain ⟨_, rfl⟩ := h; exact ⟨rfl, fun i hi => by simp at hi⟩
  | d :: cs, [], p, cs', hl, hr, h, hp => by simp at hl
  | d :: cs, v :: vs, p, cs', hl, hr, h, hp => by
    simp only [closeW] at h
    split at h
    · rename_i p1 c q cs1 h1 h2
      simp only [Option.some.injEq, Prod.mk.injEq] at h
      obtain ⟨rfl, rfl⟩ := h
      obtain ⟨k1, k2⟩ := closeW_ok hf cs vs q cs1 (by simpa using hl) (fun i hi => by have := hr (i + 1) (by simpa using hi); simpa [nth, nthV] using this) h2 hp.2
      refine ⟨by simp [k1], fun i hi => ?_⟩
      cases i with
      | zero => exact hf d v p1 c (hr 0 (by simp)) h1 hp.1
      | succ i => have := k2 i (by simpa using hi); simpa [nth, nthV] using this
    · cases h

theorem closeD_okN {N : Nat → Prop} {base : Nat} {h : List Ob} {pl : List Pl} {w : World} (R : RelO Z base h pl w) (hN1 : ∀ b, free Z pl b → N b) (hN2 : ∀ l b q : Nat, pl[l]? = some (some (b, q)) → N b) : ∀ (n : Nat) (d : D) (v : Value) (p : Prop) (c : D), RelV Z h pl w d v → closeD h n d = some (p, c) → p → Cl N w c v
  | 0, d, v, p, c, r, e, hp => by
    cases d <;> simp only [closeD, reduceCtorEq, Option.some.injEq, Prod.mk.injEq] at e
    obtain ⟨_, rfl⟩ := e
    rw [inv_raw r]; exact .raw _
  | n + 1, d, v, p, c, r, e, hp => by
    have top : ∀ {d : D} {v : Value}, Cl (free Z pl) w d v → Cl N w d v := fun h => h.mono fun b hb _ => ⟨hN1 b hb, rfl⟩
    cases d with
    | raw u => simp only [closeD, Option.some.injEq, Prod.mk.injEq] at e; obtain ⟨_, rfl⟩ := e; exact top (cl1_ok r rfl)
    | nil => simp only [closeD, Option.some.injEq, Prod.mk.injEq] at e; obtain ⟨_, rfl⟩ := e; exact top (cl1_ok r rfl)
    | imm z k row => simp only [closeD, Option.some.injEq, Prod.mk.injEq] at e; obtain ⟨_, rfl⟩ := e; exact top (cl1_ok r rfl)
    | ip cs => simp only [closeD, Option.some.injEq, Prod.mk.injEq] at e; obtain ⟨_, rfl⟩ := e; exact top (cl1_ok r rfl)
    | undef => simp [closeD] at e
    | tup cs => simp [closeD] at e
    | ref l g off len =>
      simp only [closeD] at e
      split at e
      · rename_i o ho
        simp only [Option.some.injEq, Prod.mk.injEq] at e
        obtain ⟨rfl, rfl⟩ := e
        obtain ⟨hg, hn, hall⟩ := hp
        obtain ⟨a, cap, vs, S⟩ := psrc_ok R r (p := g = o.gen ∧ off + len ≤ o.n) (n := len) (sz := o.sz) (rows := fun k => o.row (off + k)) (by simp [psrc, ho]) ⟨hg, hn⟩
        have hcell : ∀ i j, i < len → j < o.sz → (nth (o.row (off + i)) j).cl1 = true := fun i j hi hj => by
          have h1 := hall i hi
          rw [List.all_eq_true] at h1
          have h2 : j < (o.row (off + i)).length := by rw [S.len i hi]; exact hj
          refine h1 _ ?_
          simp only [nth, List.getD_eq_getElem?_getD, List.getElem?_eq_getElem h2, Option.getD_some]
          exact List.getElem_mem h2
        obtain ⟨o', p', ad, cap', hv, ho', hp', hk', hg', hat⟩ := inv_ref r
        rw [ho] at ho'; cases ho'
        have hsv := S.v
        rw [hv] at hsv
        simp only [Value.slice.injEq, true_and] at hsv
        obtain ⟨rfl, rfl⟩ := hsv
        rw [hv]
        rcases hat hg with ⟨h1, h2⟩ | ⟨b, q, c, el, hpp, had, hb, hc, hl⟩
        · subst h1
          exact .imm _ _ _ _ _ 0 0 (fun _ _ => Go.undef) (fun h => by omega) (by omega) (fun i hi => by omega) (fun i j hi => by omega) (fun i j hi => by omega)
        · refine .imm _ _ _ _ _ b (q + off * o.sz) vs (fun _ => had) hl S.len (fun i j hi hj => ⟨hN2 l b q (by rw [hp', hpp]), ?_⟩) (fun i j hi hj => ?_)
          · obtain ⟨b1, q1, hh, hc1⟩ := S.cell i j hi hj
            rw [had] at hh
            simp only [Option.some.injEq, Addr.mk.injEq, and_true] at hh
            obtain ⟨rfl, rfl⟩ := hh
            exact hc1
          · exact top (cl1_ok (S.rel i j hi hj) (hcell i j hi hj))
      · cases e
    | mref l g => simp [closeD] at e
    | ptr l g i j =>
      simp only [closeD] at e
      split at e
      · rename_i o ho
        split at e
        · rename_i q cs hcs
          simp only [Option.some.injEq, Prod.mk.injEq] at e
          obtain ⟨rfl, rfl⟩ := e
          obtain ⟨hg, hi, hj, hq⟩ := hp
          obtain ⟨o', p', ad, hv, ho', hp', hk', hg', hat⟩ := inv_ptr r
          rw [ho] at ho'; cases ho'
          obtain ⟨b, q0, rfl, rfl⟩ := hat hg
          obtain ⟨hbase, xx⟩ := R.at_ l o b q0 ho hp'
          obtain ⟨c, el, hb, hcsz, hrl, hrow⟩ := xx.cells hk'
          have hlen : ((o.row i).drop j).length = o.sz - j := by rw [List.length_drop, hrl i hi]
          let vs : List Value := (List.range (o.sz - j)).map fun k => (c[q0 + (i * o.sz + (j + k))]?).getD Go.undef
          have hvs : ∀ k, k < o.sz - j → nthV vs k = (c[q0 + (i * o.sz + (j + k))]?).getD Go.undef := fun k hk => by simp [vs, nthV, List.getD_eq_getElem?_getD, hk]
          obtain ⟨k1, k2⟩ := closeW_ok (r := fun d v => RelV Z h pl w d v) (C := fun d v => Cl N w d v) (fun d v p c hr he hp => closeD_okN R hN1 hN2 n d v p c hr he hp) _ vs q cs (by simp [vs, hlen]) (fun k hk => by
            rw [hlen] at hk
            obtain ⟨u, hu, hr⟩ := hrow i (j + k) hi (by omega)
            rw [nth_drop, hvs k hk, hu]; exact hr) hcs hq
          rw [hv]
          rw [hlen] at k1 k2
          refine .ip _ b _ (fun k => nthV vs k) (fun k hk => ⟨hN2 l b q0 hp', ?_⟩) (fun k hk => k2 k (by omega))
          rw [k1] at hk
          obtain ⟨u, hu, hr⟩ := hrow i (j + k) hi (by omega)
          rw [cell_of_row w b _ c el (0, 0) hb, hvs k hk, hu, Option.getD_some, show q0 + (i * o.sz + j) + k = q0 + (i * o.sz + (j + k)) by omega, hu]
        · cases e
      · cases e
    | agg cs =>
      simp only [closeD] at e
      split at e
      · rename_i q cs' hcs
        simp only [Option.some.injEq, Prod.mk.injEq] at e
        obtain ⟨rfl, rfl⟩ := e
        obtain ⟨vs, rfl, hl, hr⟩ := inv_agg r
        obtain ⟨k1, k2⟩ := closeW_ok (r := fun d v => RelV Z h pl w d v) (C := fun d v => Cl N w d v) (fun d v p c hr he hp => closeD_okN R hN1 hN2 n d v p c hr he hp) cs vs _ cs' hl hr hcs hp
        exact .agg _ _ (by omega) (fun i hi => k2 i (by omega))
      · cases e
    | clo f nf cs =>
      simp only [closeD] at e
      split at e
      · rename_i q cs' hcs
        simp only [Option.some.injEq, Prod.mk.injEq] at e
        obtain ⟨rfl, rfl⟩ := e
        obtain ⟨vs, rfl, hl, hr⟩ := inv_clo r
        obtain ⟨k1, k2⟩ := closeW_ok (r := fun d v => RelV Z h pl w d v) (C := fun d v => Cl N w d v) (fun d v p c hr he hp => closeD_okN R hN1 hN2 n d v p c hr he hp) cs vs _ cs' hl hr hcs hp
        exact .clo _ _ _ _ (by omega) (fun i hi => k2 i (by omega))
      · cases e

theorem closeD_ok {base : Nat} {h : List Ob} {pl : List Pl} {w : World} (R : RelO Z base h pl w) (n : Nat) (d : D) (v : Value) (p : Prop) (c : D) (r : RelV Z h pl w d v) (e : closeD h n d = some (p, c)) (hp : p) : Cl (fun _ => True) w c v :=
  closeD_okN R (fun _ _ => trivial) (fun _ _ _ _ => trivial) n d v p c r e hp

mutual
/-- A value that leans on no memory but objects. -/
def D.flat : D → Bool
  | .raw _ | .nil | .ref _ _ _ _ | .ptr _ _ _ _ | .mref _ _ => true
  | .agg cs => flatL cs
  | .tup cs => flatL cs
  | .clo _ _ cs => flatL cs
  | _ => false
def flatL : List D → Bool
  | [] => true
  | d :: r => d.flat && flatL r
end
theorem flatL_nth : ∀ {cs : List D}, flatL cs = true → ∀ i, i < cs.length → (nth cs i).flat = true
  | [], _, i, h => by simp at h
  | d :: r, hf, i, h => by
    simp only [flatL, Bool.and_eq_true] at hf
    cases i with
    | zero => exact hf.1
    | succ i => have := flatL_nth hf.2 i (by simpa using h); simpa [nth] using this
theorem RelV.anyZ {Z' : Nat → Prop} {h : List Ob} {pl : List Pl} {w : World} {d : D} {v : Value} (r : RelV Z h pl w d v) (hf : d.flat = true) : RelV Z' h pl w d v := by
  induction r with
  | cl d v hc =>
    have : ∀ {d : D} {v : Value}, Cl (free Z pl) w d v → d.flat = true → RelV Z' h pl w d v := by
      intro d v hc
      induction hc with
      | raw v => exact fun _ => .cl _ _ (.raw v)
      | undef v => intro hf; simp [D.flat] at hf
      | nil a => exact fun _ => .cl _ _ (.nil a)
      | imm => intro hf; simp [D.flat] at hf
      | ip => intro hf; simp [D.flat] at hf
      | clo f nf cs vs hl hr ih => exact fun hf => .clo f nf cs vs hl fun i hi => ih i hi (flatL_nth (by simpa [D.flat] using hf) i hi)
      | agg cs vs hl hr ih => exact fun hf => .agg cs vs hl fun i hi => ih i hi (flatL_nth (by simpa [D.flat] using hf) i hi)
      | tup cs vs hl hr ih => exact fun hf => .tup cs vs hl fun i hi => ih i hi (flatL_nth (by simpa [D.flat] using hf) i hi)
    exact this hc hf
  | ref l g off len o p a cap ho hp hk hg hs => exact .ref l g off len o p a cap ho hp hk hg hs
  | ptr l g i j o p a ho hp hk hg hs => exact .ptr l g i j o p a ho hp hk hg hs
  | mref l g o p b ho hp hk hg hs => exact .mref l g o p b ho hp hk hg hs
  | clo f nf cs vs hl hr ih => exact .clo f nf cs vs hl fun i hi => ih i hi (flatL_nth (by simpa [D.flat] using hf) i hi)
  | agg cs vs hl hr ih => exact .agg cs vs hl fun i hi => ih i hi (flatL_nth (by simpa [D.flat] using hf) i hi)
  | tup cs vs hl hr ih => exact .tup cs vs hl fun i hi => ih i hi (flatL_nth (by simpa [D.flat] using hf) i hi)
def Ob.flat (o : Ob) : Prop := ∀ i, i < o.n → flatL (o.row i) = true
theorem RelO.anyZ {Z' : Nat → Prop} {base : Nat} {h : List Ob} {pl : List Pl} {w : World} (R : RelO Z base h pl w) (hf : ∀ o ∈ h, o.flat) : RelO Z' base h pl w where
  len := R.len
  inj := R.inj
  noRow := R.noRow
  at_ := fun l o b q ho hp => by
    obtain ⟨h1, x⟩ := R.at_ l o b q ho hp
    exact ⟨h1, x.to rfl rfl rfl rfl (fun _ _ => rfl) fun i j v hi hj hr => hr.anyZ (flatL_nth (hf o (List.mem_of_getElem? ho) i hi) j hj)⟩

/-! Calls. -/
def FnOk (P : Program) (f : FuncId) : Prop := ∀ (args : Array Value) (w : World), (callFunc f args).run P w = .ok (.enter f args) w
/-- Which function a value means, and what it captured. -/
def calleeD : D → Option (FuncId × Nat × List D)
  | .raw (.func (.func f) ⟨[]⟩ ⟨[]⟩) => some (f, 0, [])
  | .clo f nf cs => some (f, nf, cs)
  | _ => none

section
variable {P : Program} {base nt : Nat} {w0 : Start} {Q : Exit → St → Prop}

theorem callee_ok {h : List Ob} {pl : List Pl} {w : World} {d : D} {v : Value} {f : FuncId} {nf : Nat} {caps : List D} (r : RelV Z h pl w d v) (e : calleeD d = some (f, nf, caps)) :
    ∃ vs : List Value, v = .func (.func f) (vs.take nf).toArray (vs.drop nf).toArray ∧ vs.length = caps.length ∧ ∀ i, i < caps.length → RelV Z h pl w (nth caps i) (nthV vs i) := by
  unfold calleeD at e
  split at e
  · simp only [Option.some.injEq, Prod.mk.injEq] at e
    obtain ⟨rfl, rfl, rfl⟩ := e
    exact ⟨[], inv_raw r, rfl, fun i hi => by simp at hi⟩
  · simp only [Option.some.injEq, Prod.mk.injEq] at e
    obtain ⟨rfl, rfl, rfl⟩ := e
    exact inv_clo r
  · cases e

/-- What a function value is called with: the first of what it holds, the arguments, the rest. -/
def argsD {α : Type} (nf : Nat) (caps args : List α) : List α := caps.take nf ++ (args ++ caps.drop nf)
theorem argsD_rel {r : D → Value → Prop} {nf : Nat} {caps args : List D} {vs us : List Value} (h1 : vs.length = caps.length) (h2 : ∀ i, i < caps.length → r (nth caps i) (nthV vs i)) (k1 : us.length = args.length) (k2 : ∀ i, i < args.length → r (nth args i) (nthV us i)) :
    (argsD nf vs us).length = (argsD nf caps args).length ∧ ∀ i, i < (argsD nf caps args).length → r (nth (argsD nf caps args) i) (nthV (argsD nf vs us) i) := by
  refine ⟨by simp [argsD, h1, k1], fun i hi => ?_⟩
  have hl : (vs.take nf).length = (caps.take nf).length := by simp [h1]
  simp only [argsD, nth, nthV, List.getD_eq_getElem?_getD]
  by_cases c1 : i < (caps.take nf).length
  · rw [List.getElem?_append_left (l₁ := caps.take nf) c1, List.getElem?_append_left (l₁ := vs.take nf) (by omega)]
    have c2 : i < nf ∧ i < caps.length := by simp at c1; omega
    rw [List.getElem?_take, List.getElem?_take, if_pos c2.1, if_pos c2.1]
    exact h2 i c2.2
  · rw [List.getElem?_append_right (l₁ := caps.take nf) (by omega), List.getElem?_append_right (l₁ := vs.take nf) (by omega), hl]
    by_cases c2 : i - (caps.take nf).length < args.length
    · rw [List.getElem?_append_left (l₁ := args) c2, List.getElem?_append_left (l₁ := us) (by omega)]
      exact k2 _ c2
    · rw [List.getElem?_append_right (l₁ := args) (by omega), List.getElem?_append_right (l₁ := us) (by omega), k1]
      rw [List.getElem?_drop, List.getElem?_drop]
      refine h2 _ ?_
      simp only [argsD, List.length_append, List.length_take, List.length_drop] at hi c1 c2 ⊢; omega
theorem run_callop {o : Oper} {a : Act} {x : Operand} {args : Array Operand} {tys : Array TypeId} {f : FuncId} {nf : Nat} {vs : List Value} (hf : FnOk P f) (ho : o.op = .call ⟨.value x, args, tys⟩) (hx : a.eval x = .func (.func f) (vs.take nf).toArray (vs.drop nf).toArray) (w : World) :
    (execOp a.eval o).run P w = .ok (.enter f (argsD nf vs (args.toList.map a.eval)).toArray) w := by
  have e : (argsD nf vs (args.toList.map a.eval)).toArray = (vs.take nf).toArray ++ args.map a.eval ++ (vs.drop nf).toArray := by apply Array.ext'; simp [argsD]
  rw [e]
  simp [execOp, ho, resolve, hx, Deferred.ofValue, invoke, hf _ w]

/-- A call of a function that reads what it is given and hands back what leans on nothing but its own objects. -/
theorem call_wp (hbase : base ≤ w0.w.heap.size) {o : Oper} {s : St} {x : Operand} {args : Array Operand} {tys : Array TypeId} {f : FuncId} {nf : Nat} {caps : List D} (hf : FnOk P f) (ho : o.op = .call ⟨.value x, args, tys⟩)
    (hx : calleeD (evalO s.fr x) = some (f, nf, caps)) {n : Nat} {p : Prop} {cs : List D} (hcs : closeW (closeD s.h n) (argsD nf caps (args.toList.map (evalO s.fr))) = some (p, cs)) (hp : p) {R : D → List Ob → Prop} (hF : AFn P f cs R)
    (hflat : ∀ d h, R d h → d.flat = true ∧ ∀ o ∈ h, o.flat) (ht : okO nt o.dst = true) (pl : List Pl) (a : Act) (w : World) (r : Rel Z base nt s pl a w) (b : Since Z base w0 s.h pl w) (Q' : Exit → Act → World → Prop) :
    o.wp P a w (fun a' w' => Ext w w' ∧ ∃ d h pl', R d h ∧ Rel Z base nt ⟨putO s.fr o.dst (d.shift s.h.length), s.h ++ h.map (Ob.shift s.h.length)⟩ pl' a' w' ∧ Since Z base w0 (s.h ++ h.map (Ob.shift s.h.length)) pl' w' ∧ Tr s.h pl w (s.h ++ h.map (Ob.shift s.h.length)) pl' w' ∧ ∃ v, a' = a.put o.dst v) Q' := by
  obtain ⟨vs, hv, hvl, hvr⟩ := callee_ok (r.eval x) hx
  have hsize : base ≤ w.heap.size := Nat.le_trans hbase b.1.size
  obtain ⟨q1, q2⟩ := argsD_rel (r := fun d v => RelV Z s.h pl w d v) (nf := nf) hvl hvr (us := args.toList.map a.eval) (args := args.toList.map (evalO s.fr)) (by simp) (fun i hi => by
    have hi' : i < args.toList.length := by simpa using hi
    simp only [nth, nthV, List.getD_eq_getElem?_getD, List.getElem?_map]
    rw [List.getElem?_eq_getElem hi']
    exact r.eval _)
  obtain ⟨k1, k2⟩ := closeW_ok (r := fun d v => RelV Z s.h pl w d v) (C := fun d v => Cl (fun _ => True) w d v) (fun d v p c hr he hp => closeD_ok r.o n d v p c hr he hp) _ (argsD nf vs (args.toList.map a.eval)) p cs q1 q2 hcs hp
  have hc := hF (fun _ => True) w.heap.size w [] (argsD nf vs (args.toList.map a.eval)) (Nat.le_refl _) (fun _ _ => trivial) ⟨rfl, fun l l' b q q' e => by simp at e, fun l o e => by simp at e, fun l o b q e => by simp at e⟩ (by omega) (fun i hi => .cl _ _ ((k2 i (by omega)).mono fun b _ _ => ⟨⟨trivial, fun l q e => by simp at e⟩, rfl⟩))
  unfold Oper.wp
  rw [run_callop hf ho hv w]
  simp only [Oper.upon_enter]
  refine hc.mono fun e w' he => ?_
  obtain ⟨v, d, h', pl', rfl, hR, hO, hV, hTT, hB⟩ := he
  obtain ⟨f1, f2⟩ := hflat d h' hR
  have hO' := hO.anyZ (Z' := fun _ => False) f2
  have hV' := hV.anyZ (Z' := fun _ => False) f1
  have hfr : ∀ b, free (fun _ => False) pl' b → free Z (pl ++ pl') b := fun b hb => hb.1.elim
  have hnew : ∀ (l b q : Nat), pl'[l]? = some (some (b, q)) → w.heap.size ≤ b := fun l b q e => by
    rcases Nat.lt_or_ge b w.heap.size with hlt | hge
    · exact absurd e ((hTT.old b (fun l q e => by simp at e) hlt).1 l q)
    · exact hge
  have T := Tr.join (h' := h'.map (Ob.shift s.h.length)) r.o hB hnew
  have hO2 := RelO.join r.o hsize hB hO' hfr hnew
  refine ⟨fun i hi => hB.block i hi, d, h', pl ++ pl', hR, ?_, b.step T (hB.mono hsize), T, v, rfl⟩
  cases hd : o.dst with
  | none => exact r.to' T hO2 v
  | some t => rw [hd] at ht; exact r.to T hO2 (okO_lt ht) (hV'.join r.o.len hfr)
theorem AG_call (hbase : base ≤ w0.w.heap.size) {o : Oper} {rest : List (Oper × G)} {s : St} {x : Operand} {args : Array Operand} {tys : Array TypeId} {f : FuncId} {nf : Nat} {caps : List D} (hf : FnOk P f) (ho : o.op = .call ⟨.value x, args, tys⟩)
    (hx : calleeD (evalO s.fr x) = some (f, nf, caps)) {n : Nat} {p : Prop} {cs : List D} (hcs : closeW (closeD s.h n) (argsD nf caps (args.toList.map (evalO s.fr))) = some (p, cs)) (hp : p) {R : D → List Ob → Prop} (hF : AFn P f cs R)
    (hflat : ∀ d h, R d h → d.flat = true ∧ ∀ o ∈ h, o.flat) (ht : okO nt o.dst = true) (hk : ∀ d h, R d h → AG P base nt w0 rest Q ⟨putO s.fr o.dst (d.shift s.h.length), s.h ++ h.map (Ob.shift s.h.length)⟩) : AG P base nt w0 ((o, none) :: rest) Q s := by
  intro Z z pl a w r b
  simp only [wpG, wantedG, if_true]
  exact Oper.wp_mono (fun a' w' ⟨_, d, h, pl', hR, r', b', _⟩ => hk d h hR Z z pl' a' w' r' b') (call_wp hbase hf ho hx hcs hp hF hflat ht pl a w r b _)

/-! Weakening. -/
/-- The first m objects stay what and where they are; no place comes that was not. -/
def Keep (m : Nat) (h : List Ob) (pl : List Pl) (h' : List Ob) (pl' : List Pl) : Prop :=
  (∀ b, away pl b → away pl' b) ∧ ∀ (l : Nat) (o : Ob) (p : Pl), l < m → h[l]? = some o → pl[l]? = some p → ∃ o', h'[l]? = some o' ∧ pl'[l]? = some p ∧ o'.gen = o.gen ∧ o'.sz = o.sz ∧ o'.kd.ty = o.kd.ty
theorem Keep.refl (m : Nat) (h : List Ob) (pl : List Pl) : Keep m h pl h pl := ⟨fun _ h => h, fun _ o p _ ho hp => ⟨o, ho, hp, rfl, rfl, rfl⟩⟩
theorem Keep.trans {m : Nat} {h h' h'' : List Ob} {pl pl' pl'' : List Pl} (a : Keep m h pl h' pl') (b : Keep m h' pl' h'' pl'') : Keep m h pl h'' pl'' :=
  ⟨fun x hx => b.1 x (a.1 x hx), fun l o p hl ho hp => by
    obtain ⟨o1, h1, h2, h3, h4, h5⟩ := a.2 l o p hl ho hp
    obtain ⟨o2, k1, k2, k3, k4, k5⟩ := b.2 l o1 p hl h1 h2
    exact ⟨o2, k1, k2, by rw [k3, h3], by rw [k4, h4], by rw [k5, h5]⟩⟩
theorem Tr.keep {F h h' : List Ob} {pl0 pl pl' : List Pl} {w0 w : World} {m : Nat} (T : Tr F pl0 w0 h pl w) (hm : F.length ≤ m) (K : Keep m h pl h' pl') : Tr F pl0 w0 h' pl' w where
  old := fun b hb hlt => ⟨K.1 b (T.old b hb hlt).1, (T.old b hb hlt).2⟩
  obj := fun l o p ho hp => by
    obtain ⟨o1, p1, h1, h2, h3, h4, h5⟩ := T.obj l o p ho hp
    obtain ⟨o2, k1, k2, k3, k4, k5⟩ := K.2 l o1 p1 (Nat.lt_of_lt_of_le (lt_of_some ho) hm) h1 h2
    exact ⟨o2, p1, k1, k2, by omega, by rw [k5, h4], fun e => by obtain ⟨x, y⟩ := h5 (by omega); exact ⟨by rw [k4, x], y⟩⟩
  shape := fun l o o'' b q ho ho'' hg hp c el hb => by
    obtain ⟨o1, p1, h1, h2, h3, h4, h5⟩ := T.obj l o _ ho hp
    obtain ⟨o2, k1, k2, k3, k4, k5⟩ := K.2 l o1 p1 (Nat.lt_of_lt_of_le (lt_of_some ho) hm) h1 h2
    rw [ho''] at k1; cases k1
    exact T.shape l o o1 b q ho h1 (by omega) hp c el hb
def Wk (m : Nat) (s s' : St) : Prop := ∀ (Z : Nat → Prop) (base nt : Nat) pl a w, Rel Z base nt s pl a w → ∃ pl', Rel Z base nt s' pl' a w ∧ Keep m s.h pl s'.h pl'
theorem Wk.refl {m : Nat} (s : St) : Wk m s s := fun _ _ _ pl _ _ r => ⟨pl, r, .refl _ _ _⟩
theorem Wk.trans {m : Nat} {s s' s'' : St} (h : Wk m s s') (k : Wk m s' s'') : Wk m s s'' := fun Z b n pl a w r =>
  let ⟨pl', r', K⟩ := h Z b n pl a w r
  let ⟨pl'', r'', K'⟩ := k Z b n pl' a w r'
  ⟨pl'', r'', K.trans K'⟩
theorem Since.keep {h h' : List Ob} {pl pl' : List Pl} {w : World} (b : Since Z base w0 h pl w) (K : Keep w0.F.length h pl h' pl') : Since Z base w0 h' pl' w := ⟨b.1, b.2.1.keep (Nat.le_refl _) K, b.2.2.new, fun l b' q e h0 => by
  by_cases ha : away pl b'
  · exact absurd e (K.1 b' ha l q)
  · obtain ⟨l1, h1⟩ := Classical.not_forall.1 ha
    obtain ⟨q1, h2⟩ := Classical.not_forall.1 h1
    exact b.2.2.own l1 b' q1 (Classical.not_not.1 h2) h0⟩
/-- What one may say of a state out of another one, at any moment of a walk. -/
def Weak (w0 : Start) (s s' : St) : Prop := ∀ (Z : Nat → Prop), ZOk w0 Z → ∀ (base nt : Nat) pl a w, Rel Z base nt s pl a w → Since Z base w0 s.h pl w → ∃ pl', Rel Z base nt s' pl' a w ∧ Since Z base w0 s'.h pl' w
theorem Wk.up {s s' : St} (h : Wk w0.F.length s s') : Weak w0 s s' := fun Z _ base nt pl a w r b => let ⟨pl', r', K⟩ := h Z base nt pl a w r; ⟨pl', r', b.keep K⟩
theorem Weak.refl (s : St) : Weak w0 s s := fun _ _ _ _ pl _ _ r b => ⟨pl, r, b⟩
theorem Weak.trans {s s' s'' : St} (h : Weak w0 s s') (k : Weak w0 s' s'') : Weak w0 s s'' := fun Z z bs n pl a w r b =>
  let ⟨pl', r', b'⟩ := h Z z bs n pl a w r b
  k Z z bs n pl' a w r' b'
theorem A.weak {c : Code} {s s' : St} (h : Weak w0 s s') (k : A P base nt w0 c Q s') : A P base nt w0 c Q s := fun Z z pl a w r b => let ⟨pl', r', b'⟩ := h Z z base nt pl a w r b; k Z z pl' a w r' b'
theorem AG.weak {l : List (Oper × G)} {s s' : St} (h : Weak w0 s s') (k : AG P base nt w0 l Q s') : AG P base nt w0 l Q s := fun Z z pl a w r b => let ⟨pl', r', b'⟩ := h Z z base nt pl a w r b; k Z z pl' a w r' b'
theorem kont_weak_code {c : Code} {k : List Item} {s s' : St} (h : Weak w0 s s') (hk : kont P base nt w0 Q (.code c :: k) .normal s') : kont P base nt w0 Q (.code c :: k) .normal s := by
  simp only [kont] at hk ⊢; exact hk.weak h

/-- The values of a frame, one by one. -/
def frLe (fr : List (Nat × D)) : List (Nat × D) → Prop
  | [] => True
  | (t, d) :: r => get fr t = d ∧ frLe fr r
theorem frLe_mem {fr : List (Nat × D)} : ∀ {r : List (Nat × D)}, frLe fr r → ∀ t d, (t, d) ∈ r → get fr t = d
  | [], _, _, _, h => by cases h
  | (u, e) :: r, h, t, d, hm => by
    rcases List.mem_cons.1 hm with h1 | h1
    · cases h1; exact h.1
    · exact frLe_mem h.2 t d h1
theorem mem_get (fr : List (Nat × D)) (u : Nat) : get fr u = .undef ∨ (u, get fr u) ∈ fr := by
  induction fr with
  | nil => exact .inl rfl
  | cons x r ih =>
    obtain ⟨t, d⟩ := x
    simp only [get]
    by_cases h : t = u
    · subst h; simp
    · have : Nat.beq t u = false := by rw [← Bool.not_eq_true, Nat.beq_eq]; exact h
      rw [this]
      rcases ih with ih | ih
      · exact .inl (by simpa using ih)
      · exact .inr (by simp [ih])
theorem Wk.frame {m : Nat} {fr fr' : List (Nat × D)} {h : List Ob} (hf : frLe fr fr') : Wk m ⟨fr, h⟩ ⟨fr', h⟩ := fun Z base nt pl a w r =>
  ⟨pl, ⟨r.nt, r.defers, fun t => by
    rcases mem_get fr' t with h1 | h1
    · show RelV Z h pl w (get fr' t) _
      rw [h1]; exact .cl _ _ (.undef _)
    · have := frLe_mem hf _ _ h1
      show RelV Z h pl w (get fr' t) _
      rw [← this]; exact r.fr t, r.o⟩, .refl _ _ _⟩

/-- Kinds that are alike. -/
def Kd.like (k k' : Kd) : Prop := k.ty = k'.ty ∧ k.ro = k'.ro
def obLe (o o' : Ob) : Prop := o'.gen = o.gen ∧ o'.sz = o.sz ∧ o'.n = o.n ∧ o'.kd.like o.kd ∧ ∀ i, i < o.n → o'.row i = o.row i
def obsLe : List Ob → List Ob → Prop
  | [], [] => True
  | o :: r, o' :: r' => obLe o o' ∧ obsLe r r'
  | _, _ => False
theorem obsLe_get : ∀ {h h' : List Ob}, obsLe h h' → h'.length = h.length ∧ ∀ (l : Nat) (o' : Ob), h'[l]? = some o' → ∃ o, h[l]? = some o ∧ obLe o o'
  | [], [], _ => ⟨rfl, fun l o' e => by simp at e⟩
  | [], _ :: _, h => h.elim
  | _ :: _, [], h => h.elim
  | o :: r, o' :: r', h => by
    obtain ⟨h1, h2⟩ := obsLe_get h.2
    refine ⟨by simp [h1], fun l u e => ?_⟩
    cases l with
    | zero => simp at e; subst e; exact ⟨o, rfl, h.1⟩
    | succ l => simp at e; obtain ⟨v, h3, h4⟩ := h2 l u e; exact ⟨v, by simpa using h3, h4⟩
theorem RelV.obs {h h' : List Ob} {pl : List Pl} {w : World} (hl : obsLe h h') {d : D} {v : Value} (r : RelV Z h pl w d v) : RelV Z h' pl w d v := by
  obtain ⟨h1, h2⟩ := obsLe_get hl
  have key : ∀ (l : Nat) (o : Ob), h[l]? = some o → ∃ o', h'[l]? = some o' ∧ obLe o o' := fun l o e => by
    have : l < h'.length := by rw [h1]; exact lt_of_some e
    obtain ⟨o2, h3, h4⟩ := h2 l _ (List.getElem?_eq_getElem this)
    rw [e] at h3; cases h3
    exact ⟨_, List.getElem?_eq_getElem this, h4⟩
  induction r with
  | cl d v hc => exact .cl d v hc
  | ref l g off len o p a cap ho hp hk hg hs =>
    obtain ⟨o', h3, h4⟩ := key l o ho
    exact .ref l g off len o' p a cap h3 hp (by rw [h4.2.2.2.1.1]; exact hk) (by rw [h4.1]; exact hg) (fun e => by rw [h4.2.1]; exact hs (by rw [e, h4.1]))
  | ptr l g i j o p a ho hp hk hg hs =>
    obtain ⟨o', h3, h4⟩ := key l o ho
    exact .ptr l g i j o' p a h3 hp (by rw [h4.2.2.2.1.1]; exact hk) (by rw [h4.1]; exact hg) (fun e => by rw [h4.2.1]; exact hs (by rw [e, h4.1]))
  | mref l g o p b ho hp hk hg hs =>
    obtain ⟨o', h3, h4⟩ := key l o ho
    exact .mref l g o' p b h3 hp (by rw [h4.2.2.2.1.1]; exact hk) (by rw [h4.1]; exact hg) (fun e => hs (by rw [e, h4.1]))
  | clo f nf cs vs hl hr ih => exact .clo f nf cs vs hl ih
  | agg cs vs hl hr ih => exact .agg cs vs hl ih
  | tup cs vs hl hr ih => exact .tup cs vs hl ih
theorem Wk.obs {m : Nat} {fr : List (Nat × D)} {h h' : List Ob} (hl : obsLe h h') : Wk m ⟨fr, h⟩ ⟨fr, h'⟩ := fun Z base nt pl a w r => by
  obtain ⟨h1, h2⟩ := obsLe_get hl
  refine ⟨pl, ⟨r.nt, r.defers, fun t => (r.fr t).obs hl, ⟨by rw [h1]; exact r.o.len, r.o.inj, fun l o' ho hp => ?_, fun l o' b q ho hp => ?_⟩⟩, fun _ h => h, fun l o p _ ho hp => ?_⟩
  · obtain ⟨o, h3, h4⟩ := h2 l o' ho
    rw [h4.2.2.1]; exact r.o.noRow l o h3 hp
  · obtain ⟨o, h3, h4, h5, h6, h8, h7⟩ := h2 l o' ho
    obtain ⟨g1, x⟩ := r.o.at_ l o b q h3 hp
    exact ⟨fun hr => g1 (by rw [← h8.2, hr]), x.to h8.1 h5 h6 rfl (fun i hi => by rw [h7 i hi]) fun i j v hi _ hr => by rw [h7 i hi]; exact hr.obs hl⟩
  · have hlt : l < h'.length := by rw [h1]; exact lt_of_some ho
    obtain ⟨o2, h3, h4⟩ := h2 l _ (List.getElem?_eq_getElem hlt)
    have ho : h[l]? = some o := ho
    rw [ho] at h3; cases h3
    exact ⟨_, List.getElem?_eq_getElem hlt, hp, h4.1, h4.2.1, h4.2.2.2.1.1⟩

mutual
/-- It names objects below k alone. -/
def D.upto (k : Nat) : D → Bool
  | .ref l _ _ _ => Nat.blt l k
  | .ptr l _ _ _ => Nat.blt l k
  | .mref l _ => Nat.blt l k
  | .clo _ _ cs => uptoL k cs
  | .agg cs => uptoL k cs
  | .tup cs => uptoL k cs
  | _ => true
def uptoL (k : Nat) : List D → Bool
  | [] => true
  | d :: r => d.upto k && uptoL k r
end
theorem uptoL_nth {k : Nat} : ∀ {cs : List D}, uptoL k cs = true → ∀ i, i < cs.length → (nth cs i).upto k = true
  | [], _, i, h => by simp at h
  | d :: r, hf, i, h => by
    simp only [uptoL, Bool.and_eq_true] at hf
    cases i with
    | zero => exact hf.1
    | succ i => have := uptoL_nth hf.2 i (by simpa using h); simpa [nth] using this
theorem RelV.take {h : List Ob} {pl : List Pl} {w : World} {k : Nat} {d : D} {v : Value} (r : RelV Z h pl w d v) (hk : d.upto k = true) : RelV Z (h.take k) (pl.take k) w d v := by
  have hfr : ∀ b, free Z pl b → free Z (pl.take k) b := fun b hb => ⟨hb.1, fun l q e => by
    rw [List.getElem?_take] at e
    split at e
    · exact hb.2 l q e
    · cases e⟩
  induction r with
  | cl d v hc => exact .cl d v (hc.mono fun b hb _ => ⟨hfr b hb, rfl⟩)
  | ref l g off len o p a cap ho hp hm hg hs =>
    have : l < k := by simpa [D.upto, Nat.blt_eq] using hk
    exact .ref l g off len o p a cap (by rw [List.getElem?_take, if_pos this]; exact ho) (by rw [List.getElem?_take, if_pos this]; exact hp) hm hg hs
  | ptr l g i j o p a ho hp hm hg hs =>
    have : l < k := by simpa [D.upto, Nat.blt_eq] using hk
    exact .ptr l g i j o p a (by rw [List.getElem?_take, if_pos this]; exact ho) (by rw [List.getElem?_take, if_pos this]; exact hp) hm hg hs
  | mref l g o p b ho hp hm hg hs =>
    have : l < k := by simpa [D.upto, Nat.blt_eq] using hk
    exact .mref l g o p b (by rw [List.getElem?_take, if_pos this]; exact ho) (by rw [List.getElem?_take, if_pos this]; exact hp) hm hg hs
  | clo f nf cs vs hl hr ih => exact .clo f nf cs vs hl fun i hi => ih i hi (uptoL_nth (by simpa [D.upto] using hk) i hi)
  | agg cs vs hl hr ih => exact .agg cs vs hl fun i hi => ih i hi (uptoL_nth (by simpa [D.upto] using hk) i hi)
  | tup cs vs hl hr ih => exact .tup cs vs hl fun i hi => ih i hi (uptoL_nth (by simpa [D.upto] using hk) i hi)
def frUpto (k : Nat) : List (Nat × D) → Bool
  | [] => true
  | (_, d) :: r => d.upto k && frUpto k r
theorem frUpto_get {k : Nat} : ∀ {fr : List (Nat × D)}, frUpto k fr = true → ∀ t, (get fr t).upto k = true
  | [], _, t => rfl
  | (u, d) :: r, h, t => by
    simp only [frUpto, Bool.and_eq_true] at h
    simp only [get]
    cases Nat.beq u t
    · exact frUpto_get h.2 t
    · exact h.1
def obsUpto (k : Nat) : List Ob → Prop
  | [] => True
  | o :: r => (∀ i, i < o.n → uptoL k (o.row i) = true) ∧ obsUpto k r
theorem obsUpto_get {k : Nat} : ∀ {h : List Ob}, obsUpto k h → ∀ (l : Nat) (o : Ob), h[l]? = some o → ∀ i, i < o.n → uptoL k (o.row i) = true
  | [], _, l, o, e => by simp at e
  | o :: r, h, l, u, e => by
    cases l with
    | zero => simp at e; subst e; exact h.1
    | succ l => simp at e; exact obsUpto_get h.2 l u e
/-- Objects that nothing names go. -/
theorem Wk.drop {m : Nat} (k : Nat) (hm : m ≤ k) {fr : List (Nat × D)} {h : List Ob} (h1 : frUpto k fr = true) (h2 : obsUpto k (h.take k)) : Wk m ⟨fr, h⟩ ⟨fr, h.take k⟩ := fun Z base nt pl a w r => by
  have hpl : ∀ (l : Nat) (p : Pl), (pl.take k)[l]? = some p → pl[l]? = some p := fun l p e => by
    rw [List.getElem?_take] at e; split at e
    · exact e
    · cases e
  have hh : ∀ (l : Nat) (o : Ob), (h.take k)[l]? = some o → h[l]? = some o := fun l o e => by
    rw [List.getElem?_take] at e; split at e
    · exact e
    · cases e
  refine ⟨pl.take k, ⟨r.nt, r.defers, fun t => (r.fr t).take (frUpto_get h1 t), ⟨by simp [r.o.len], fun l l' b q q' e1 e2 => r.o.inj l l' b q q' (hpl _ _ e1) (hpl _ _ e2), fun l o ho hp => r.o.noRow l o (hh _ _ ho) (hpl _ _ hp), fun l o b q ho hp => ?_⟩⟩,
    fun b hb l q e => hb l q (hpl _ _ e), fun l o p hl ho hp => ⟨o, by show (h.take k)[l]? = _; rw [List.getElem?_take, if_pos (by omega)]; exact ho, by rw [List.getElem?_take, if_pos (by omega)]; exact hp, rfl, rfl, rfl⟩⟩
  obtain ⟨g1, x⟩ := r.o.at_ l o b q (hh _ _ ho) (hpl _ _ hp)
  exact ⟨g1, x.to rfl rfl rfl rfl (fun _ _ => rfl) fun i j v hi hj hr => hr.take (uptoL_nth (obsUpto_get h2 l o ho i hi) j hj)⟩

/-- A nil slice told ens a slice over an object without rows. -/
theorem Wk.phantom {m : Nat} {fr : List (Nat × D)} {h : List Ob} (t sz : Nat) (row : Nat → List D) (ht : get fr t = .nil) : Wk m ⟨fr, h⟩ ⟨put fr t (.ref h.length 0 0 0), h ++ [⟨.arr, 0, sz, 0, row⟩]⟩ := fun Z base nt pl a w r => by
  have T : Tr h pl w (h ++ [⟨.arr, 0, sz, 0, row⟩]) (pl ++ [none]) w := Tr.push r.o (fun _ _ => rfl) _ _ (by intro b q e; cases e)
  refine ⟨pl ++ [none], ⟨r.nt, r.defers, fun u => ?_, r.o.phantom _ rfl⟩, fun b hb => away_append hb (fun q e => by cases e), fun l o p _ ho hp => ⟨o, append_left_some ho, append_left_some hp, rfl, rfl, rfl⟩⟩
  show RelV Z _ _ w (get (put fr t (.ref h.length 0 0 0)) u) _
  rw [get_put]
  by_cases hu : u = t
  · subst hu
    rw [if_pos rfl]
    have := r.fr u
    have this : RelV Z h pl w (get fr u) (a.tmps.getD u Go.undef) := this
    rw [ht] at this
    obtain ⟨ad, hv⟩ := inv_nil this
    rw [hv]
    have hpl : pl.length = h.length := r.o.len
    exact .ref _ _ _ _ ⟨.arr, 0, sz, 0, row⟩ none ad 0 (by simp) (by rw [← hpl]; simp) rfl (Nat.le_refl _) (fun _ => .inl ⟨rfl, rfl⟩)
  · rw [if_neg hu]; exact (r.fr u).tr T

/-! Loops. -/
def LoopQ (P : Program) (base nt : Nat) (w0 : Start) (Q : Exit → St → Prop) (k : List Item) (I : Nat → St → Prop) (m : Nat) : Exit → St → Prop
  | .normal, s => ∃ m' s', m' < m ∧ Weak w0 s s' ∧ I m' s'
  | e, s => kont P base nt w0 Q k e s
theorem least_of {p : Nat → Prop} : ∀ n, p n → ∃ m, p m ∧ ∀ k, p k → m ≤ k := by
  intro n
  induction n using Nat.strongRecOn with
  | _ n ih =>
    intro hn
    by_cases h : ∃ k, k < n ∧ p k
    · obtain ⟨k, hk, hp⟩ := h; exact ih k hk hp
    · exact ⟨n, hn, fun k hk => Nat.le_of_not_lt fun hlt => h ⟨k, hlt, hk⟩⟩
theorem least_ex {p : Nat → Prop} (h : ∃ n, p n) : ∃ m, p m ∧ ∀ k, p k → m ≤ k := let ⟨n, hn⟩ := h; least_of n hn
open Classical in
theorem kont_loop {c : Code} {k : List Item} {s s0 : St} (I : Nat → St → Prop) (m0 : Nat) (hw : Weak w0 s s0) (h0 : I m0 s0) (round : ∀ m s, I m s → kont P base nt w0 (LoopQ P base nt w0 Q k I m) [.code c] .normal s) : kont P base nt w0 Q (.code (.loop c) :: k) .normal s := by
  simp only [kont]
  refine A.weak hw ?_
  intro Z z pl a w r b
  let J : Nat → Act → World → Prop := fun m a w => ∃ s pl, I m s ∧ Rel Z base nt s pl a w ∧ Since Z base w0 s.h pl w
  let μ : Act → World → Nat := fun a w => if h : ∃ m, J m a w then Classical.choose (least_ex h) else 0
  refine wp_loop (fun a w => ∃ m, J m a w) μ ⟨m0, s0, pl, h0, r, b⟩ fun a w hJ => ?_
  have hm := (Classical.choose_spec (least_ex hJ)).1
  have hμ : μ a w = Classical.choose (least_ex hJ) := by simp only [μ]; rw [dif_pos hJ]
  obtain ⟨s1, pl1, hI, r1, b1⟩ := hm
  have := round _ s1 hI
  simp only [kont] at this
  refine wp_mono (this Z z pl1 a w r1 b1) fun e a' w' hh => ?_
  obtain ⟨s2, pl2, hq, r2, b2⟩ := hh
  cases e with
  | normal =>
    obtain ⟨m', s3, hlt, hwk, hI3⟩ := hq
    obtain ⟨pl3, r3, b3⟩ := hwk Z z base nt pl2 a' w' r2 b2
    have hJ' : J m' a' w' := ⟨s3, pl3, hI3, r3, b3⟩
    refine ⟨⟨m', hJ'⟩, ?_⟩
    rw [hμ]
    have : μ a' w' ≤ m' := by simp only [μ]; rw [dif_pos ⟨m', hJ'⟩]; exact (Classical.choose_spec (least_ex (p := fun m => J m a' w') ⟨m', hJ'⟩)).2 m' hJ'
    omega
  | exit id => exact ⟨s2, pl2, hq, r2, b2⟩
  | goto l => exact ⟨s2, pl2, hq, r2, b2⟩
  | ret => exact ⟨s2, pl2, hq, r2, b2⟩
  | panic ch => exact ⟨s2, pl2, hq, r2, b2⟩
  | outgrown => exact ⟨s2, pl2, hq, r2, b2⟩
end
end Go.Fg
namespace Go.Fg
theorem A_of_kont {P : Program} {base nt : Nat} {w0 : Start} {Q : Exit → St → Prop} {c : Code} {s : St} (h : kont P base nt w0 Q [.code c] .normal s) : A P base nt w0 c Q s := by
  simp only [kont] at h
  exact h.mono fun e s' he => by cases e <;> exact he
theorem MFn_of' {P : Program} {X : Cx} (hX : CxOk P X) {f : FuncId} {fn : Func} {c : Code} (n : Nat) (hf : P.funcs[f]? = some fn) (hb : fn.body = some c) {F : List Ob} {args : List D} {R : D → List Ob → Prop} {nt : Nat} (hnt : fn.ntmps = nt) (hn : args.length ≤ nt)
    (h : ∀ (base : Nat) (w : World) (pl : List Pl), base ≤ w.heap.size → pl.length = F.length → (exec X nt n [.code c] ⟨initFr args 0, F⟩).holds P base nt ⟨w, F, pl⟩ (Post X.L fn.results.toList R)) : MFn P f F args R :=
  MFn_of hX.L hf hb (by rw [hnt]; exact hn) fun base w pl hbase hlen => A_of_kont (by rw [hnt]; exact exec_ok hX hbase n _ _ (h base w pl hbase hlen))
end Go.Fg
namespace Go.Fg
set_option linter.unusedSimpArgs false
set_option linter.unusedVariables false
open Go.RowKit (Below)
variable {Z : Nat → Prop}

/-- Number j waits, by edges among what is not yet listed, for number i. -/
inductive Dep (ops : Array Oper) (listed : Array Bool) (i : Nat) : Nat → Prop
  | edge (j : Nat) (oj : Oper) (e : Edge) (hj : ops[j]? = some oj) (he : e ∈ oj.after) (hb : Region.binds .any e = true) (h : e.on = i) : Dep ops listed i j
  | step (j : Nat) (oj : Oper) (e : Edge) (hj : ops[j]? = some oj) (he : e ∈ oj.after) (hb : Region.binds .any e = true) (hu : listed.getD e.on true = false) (h : Dep ops listed i e.on) : Dep ops listed i j

theorem both {listed : Array Bool} {i : Nat} (h : listed.getD i true = false) : listed.getD i false = false := by
  rcases Nat.lt_or_ge i listed.size with h' | h'
  · simp [h'] at h ⊢; exact h
  · simp [Array.getElem?_eq_none h'] at h
theorem Dep.not_ready {ops : Array Oper} {listed : Array Bool} {i j : Nat} (h : Dep ops listed i j) (hi : listed.getD i true = false) : j ∉ Region.ready .any ops listed := by
  intro hr
  obtain ⟨_, oj', hoj, hall⟩ := mem_ready.1 hr
  cases h with
  | edge _ oj e hj he hb h =>
    rw [hj] at hoj; cases hoj
    have := hall e he hb
    rw [h, both hi] at this; cases this
  | step _ oj e hj he hb hu h =>
    rw [hj] at hoj; cases hoj
    have := hall e he hb
    rw [both hu] at this; cases this
theorem Dep.set {ops : Array Oper} {listed : Array Bool} {i j k : Nat} (h : Dep ops listed i j) (hi : listed.getD i true = false) (hk : k ∈ Region.ready .any ops listed) : Dep ops (listed.setIfInBounds k true) i j := by
  induction h with
  | edge j oj e hj he hb h => exact .edge j oj e hj he hb h
  | step j oj e hj he hb hu h ih =>
    refine .step j oj e hj he hb ?_ ih
    have : k ≠ e.on := fun hek => by subst hek; exact h.not_ready hi hk
    rw [getD_set_ne true this]; exact hu

def wpAnyE (P : Program) (ops : Array Oper) (N : Act → World → Prop) (cm : Nat → World → World → Prop) : Nat → Array Bool → Act → World → Prop
  | 0, listed, a, w => Region.ready .any ops listed = [] ∧ N a w
  | n + 1, listed, a, w => (Region.ready .any ops listed = [] → N a w) ∧
    ∀ i ∈ Region.ready .any ops listed, wpOp P ops (fun _ _ _ => False) i (fun a' w' => cm i w w' ∧ wpAnyE P ops N cm n (listed.setIfInBounds i true) a' w') a w

theorem wp_noexit {P : Program} {o : Oper} {a : Act} {w : World} {K : Act → World → Prop} {Q : Exit → Act → World → Prop} (h : o.wp P a w K (fun _ _ _ => False)) : o.wp P a w K Q := by
  unfold Oper.wp at *
  generalize (execOp a.eval o).run P w = r at *
  cases r with
  | ok n w' =>
    cases n <;> simp only [Oper.upon] at h ⊢ <;> first | exact h | skip
    · exact Calls.mono h fun e w'' he => by cases e <;> first | exact he | exact he.elim | exact (let ⟨_, _, h⟩ := he; h.elim)
  | halt x w' => cases x <;> simp only [Oper.upon] at h ⊢ <;> exact h.elim
theorem wpAny_of_E {P : Program} {ops : Array Oper} {N : Act → World → Prop} {cm : Nat → World → World → Prop} {Q : Exit → Act → World → Prop} (hQ : ∀ a w, N a w → Q .normal a w) : ∀ (n : Nat) (listed : Array Bool) (a : Act) (w : World), wpAnyE P ops N cm n listed a w → wpAny P .any ops Q n listed a w
  | 0, _, _, _, h => ⟨h.1, hQ _ _ h.2⟩
  | n + 1, listed, a, w, h => ⟨fun e => hQ _ _ (h.1 e), fun i hi => by
    have := h.2 i hi
    unfold wpOp at this ⊢
    split
    · rename_i ho; simp only [ho] at this; exact wpAny_of_E hQ n _ _ _ this.2
    · rename_i o ho
      simp only [ho] at this
      split
      · rename_i hw
        simp only [hw, if_true] at this
        rcases this with h1 | ⟨_, _, _, h2⟩
        · exact .inl (wp_noexit (Oper.wp_mono (fun a' w' h' => wpAny_of_E hQ n _ _ _ h'.2) h1))
        · exact h2.elim
      · rename_i hw
        simp only [hw] at this
        exact wpAny_of_E hQ n _ _ _ this.2⟩

/-- What looks at no world. -/
def still (L : Lay) (o : Oper) : Bool := match o.op with
  | .extract .. => true
  | .move _ => true
  | .nilCheck _ => true
  | .fieldAddr t _ f => match pfield L t f with
    | some (_, y) => !Nat.beq y.size 0
    | none => false
  | _ => false
theorem still_run {P : Program} {L : Lay} (hL : LayOk P L) {o : Oper} (hs : still L o = true) {ρ : Operand → Value} {w : World} {v : Value} (h : (execOp ρ o).run P w = .ok (.value v) w) (w' : World) : (execOp ρ o).run P w' = .ok (.value v) w' := by
  unfold still at hs
  split at hs
  · rename_i x i ho
    simp only [execOp, ho, Instr.extract] at h ⊢
    split at h <;> first | skip | (simp at h)
    all_goals (first | (split at h <;> first | (simp at h) | skip) | skip)
    all_goals (first | (simp at h ⊢; exact h) | simp_all)
  · rename_i x ho
    simp only [execOp, ho] at h ⊢
    simp at h ⊢
    exact h
  · rename_i x ho
    exact ((Quiet.nilCheck ho ρ) w _ w h).2 w'
  · rename_i t x f ho
    split at hs
    · rename_i off y hf
      obtain ⟨g, fd, hg, hfd, _, hy⟩ := pfield_ok hL hf
      have hy0 : y.size ≠ 0 := fun e => by rw [e] at hs; cases hs
      cases hx : ρ x with
      | pointer a =>
        cases a with
        | some a =>
          have e : ∀ w : World, (execOp ρ o).run P w = .ok (.value (.pointer (some (a.add fd.offset)))) w := fun w => by
            simp [execOp, ho, hx, Instr.fieldAt, run_underlying hg, hfd, Instr.sureAddr, fieldPlace, hy.sizeOf, hy0]
          rw [e w] at h
          rw [e w']
          simp at h ⊢
          exact h
        | none => simp [execOp, ho, hx, Instr.fieldAt, run_underlying hg, hfd, Instr.sureAddr, stuck] at h
      | _ => simp [execOp, ho, hx, Instr.fieldAt, run_underlying hg, hfd, Instr.sureAddr, stuck] at h
    · cases hs
  · cases hs

theorem wpAnyE_first {P : Program} {ops : Array Oper} {N : Act → World → Prop} {cm : Nat → World → World → Prop} {i : Nat} {oi : Oper} {v : Value} {S : World → Prop} (hci : ∀ w, cm i w w) (hi : ops[i]? = some oi) (hsel : ∀ (j : Nat) (o : Oper) cs b, ops[j]? = some o → o.op ≠ .select cs b) :
    ∀ (fuel : Nat) (listed : Array Bool) (a : Act) (w1 : World), S w1 →
      (∀ j oj, ops[j]? = some oj → j ≠ i → listed.getD j true = false → Dep ops listed i j ∨ ((∀ w w', cm j w w' → S w → S w') ∧ oi.apart ops oj = true)) →
      i ∈ Region.ready .any ops listed → YieldsIf P ops S oi v a →
      wpAnyE P ops N cm fuel (listed.setIfInBounds i true) (a.put oi.dst v) w1 → wpAnyE P ops N cm (fuel + 1) listed a w1 := by
  intro fuel
  induction fuel with
  | zero =>
    intro listed a w1 hext _ hr hy H
    refine ⟨fun h => (by rw [h] at hr; cases hr), fun j hj => ?_⟩
    by_cases hji : j = i
    · subst hji; exact hy.wpOp hi hext ⟨hci _, H⟩
    · have := ready_mono hj hji
      rw [H.1] at this
      cases this
  | succ fuel ih =>
    intro listed a w1 hext hfree hr hy H
    have hun := (mem_ready.1 hr).1
    refine ⟨fun h => (by rw [h] at hr; cases hr), fun j hj => ?_⟩
    by_cases hji : j = i
    · subst hji; exact hy.wpOp hi hext ⟨hci _, H⟩
    · have h1 := H.2 j (ready_mono hj hji)
      obtain ⟨hjun, oj, hoj, hall⟩ := mem_ready.1 hj
      obtain ⟨hcm, hap⟩ := (hfree j oj hoj hji hjun).resolve_left fun hd => hd.not_ready hun hj
      have h2 := wpOp_putIf hoj hap (fun cs b => hsel i oi cs b hi) (fun cs b => hsel j oj cs b hoj) (fun _ _ _ h => h) hy h1
      refine wpOp_mono (fun a' w' h3 => ?_) h2
      refine ⟨h3.2.1, ih (listed.setIfInBounds j true) a' w' (hcm _ _ h3.2.1 hext) (fun k ok hk hki hun' => ?_) (ready_mono hr (Ne.symm hji)) h3.1 ?_⟩
      · have hku : listed.getD k true = false := by
          by_cases hjk : j = k
          · subst hjk; exact hjun
          · rw [getD_set_ne true hjk] at hun'; exact hun'
        exact (hfree k ok hk hki hku).imp (fun hd => hd.set hun hj) id
      · rw [Array.setIfInBounds_comm _ _ hji]
        exact h3.2.2

/-! The check of an order. -/
def memB (i : Nat) : List Nat → Bool
  | [] => false
  | j :: r => Nat.beq i j || memB i r
theorem memB_iff {i : Nat} : ∀ {l : List Nat}, memB i l = true ↔ i ∈ l
  | [] => by simp [memB]
  | j :: r => by simp [memB, memB_iff (l := r)]
def calmAt (nc : List Nat) (ops : Array Oper) (i : Nat) : Bool := match ops[i]? with
  | some o => calm o && !memB i nc
  | none => true
def waitsB (i : Nat) : List Edge → Bool
  | [] => false
  | e :: r => (Region.binds .any e && Nat.beq e.on i) || waitsB i r
def heldB (done : List Nat) : List Edge → Bool
  | [] => false
  | e :: r => (Region.binds .any e && !memB e.on done) || heldB done r
def depB (ops : Array Oper) (done : List Nat) (i : Nat) : Nat → List Edge → Bool
  | 0, _ => false
  | _ + 1, [] => false
  | n + 1, e :: r => (Region.binds .any e && (Nat.beq e.on i || (!memB e.on done && match ops[e.on]? with
      | some o => depB ops done i n o.after.toList
      | none => false))) || depB ops done i n r
def loadB (o : Oper) : Bool := match o.op with
  | .load .. => true
  | _ => false
def insB (o : Oper) : Bool := match o.op with
  | .insert .. => true
  | _ => false
def pureB (nc : List Nat) (L : Lay) (ops : Array Oper) (done : List Nat) (i : Nat) (oi : Oper) : List (Nat × Bool × Option Oper) → Bool
  | [] => true
  | (j, _, some oj) :: r => (waitsB i oj.after.toList || (((calm oj && !memB j nc) || still L oi || (loadB oi && insB oj)) && oi.apart ops oj) || depB ops done i (4 * ops.size) oj.after.toList) && pureB nc L ops done i oi r
  | (_, _, none) :: _ => false
def coverB (l : List Nat) : Nat → Bool
  | 0 => true
  | n + 1 => memB n l && coverB l n
theorem coverB_ok {l : List Nat} : ∀ {n : Nat}, coverB l n = true → ∀ j, j < n → j ∈ l
  | 0, _, j, h => by omega
  | n + 1, h, j, hj => by
    simp only [coverB, Bool.and_eq_true, memB_iff] at h
    by_cases e : j = n
    · subst e; exact h.1
    · exact coverB_ok h.2 j (by omega)
theorem waitsB_ok {i : Nat} : ∀ {l : List Edge}, waitsB i l = true → ∃ e ∈ l, Region.binds .any e = true ∧ e.on = i
  | [], h => by cases h
  | e :: r, h => by
    simp only [waitsB, Bool.or_eq_true, Bool.and_eq_true, Nat.beq_eq] at h
    rcases h with h | h
    · exact ⟨e, by simp, h.1, h.2⟩
    · obtain ⟨e', h1, h2⟩ := waitsB_ok h; exact ⟨e', by simp [h1], h2⟩
theorem heldB_ok {done : List Nat} : ∀ {l : List Edge}, heldB done l = true → ∃ e ∈ l, Region.binds .any e = true ∧ e.on ∉ done
  | [], h => by cases h
  | e :: r, h => by
    simp only [heldB, Bool.or_eq_true, Bool.and_eq_true, Bool.not_eq_true'] at h
    rcases h with h | h
    · exact ⟨e, by simp, h.1, fun hm => by rw [memB_iff.2 hm] at h; cases h.2⟩
    · obtain ⟨e', h1, h2⟩ := heldB_ok h; exact ⟨e', by simp [h1], h2⟩
theorem heldB_not {done : List Nat} : ∀ {l : List Edge}, heldB done l = false → ∀ e ∈ l, Region.binds .any e = true → e.on ∈ done
  | [], _, e, h, _ => by cases h
  | e :: r, h, e', h', hb => by
    simp only [heldB, Bool.or_eq_false_iff, Bool.and_eq_false_iff] at h
    rcases List.mem_cons.1 h' with h1 | h1
    · subst h1
      rcases h.1 with h2 | h2
      · rw [hb] at h2; cases h2
      · exact memB_iff.1 (by simpa using h2)
    · exact heldB_not h.2 e' h1 hb

structure Marks (ops : Array Oper) (listed : Array Bool) (done : List Nat) : Prop where
  size : listed.size = ops.size
  get : ∀ j, j < ops.size → (listed.getD j true = false ↔ j ∉ done)
  get' : ∀ j, listed.getD j false = true ↔ j ∈ done ∧ j < ops.size
  lt : ∀ j, j ∈ done → j < ops.size
theorem depB_ok {ops : Array Oper} {listed : Array Bool} {done : List Nat} (M : Marks ops listed done) {i : Nat} : ∀ {n : Nat} {j : Nat} {oj : Oper} {l : List Edge}, ops[j]? = some oj → (∀ e ∈ l, e ∈ oj.after) → depB ops done i n l = true → Dep ops listed i j
  | 0, _, _, _, _, _, h => by cases h
  | n + 1, _, _, [], _, _, h => by cases h
  | n + 1, j, oj, e :: r, hj, hl, h => by
    simp only [depB, Bool.or_eq_true, Bool.and_eq_true, Nat.beq_eq, Bool.not_eq_true'] at h
    rcases h with ⟨hb, h1 | ⟨h1, h2⟩⟩ | h
    · exact .edge j oj e hj (hl e (by simp)) hb h1
    · split at h2
      · rename_i o ho
        have hlt := (Array.getElem?_eq_some_iff.1 ho).1
        refine .step j oj e hj (hl e (by simp)) hb ((M.get e.on hlt).2 fun hm => by rw [memB_iff.2 hm] at h1; cases h1) (depB_ok M ho (fun e he => by simpa using he) h2)
      · cases h2
    · exact depB_ok M hj (fun e he => hl e (by simp [he])) h
theorem Marks.set {ops : Array Oper} {listed : Array Bool} {done : List Nat} (M : Marks ops listed done) {i : Nat} (hi : i < ops.size) : Marks ops (listed.setIfInBounds i true) (i :: done) where
  size := by simp [M.size]
  get := fun j hj => by
    by_cases e : i = j
    · subst e; simp [M.size, hi]
    · rw [getD_set_ne true e, M.get j hj]; simp [Ne.symm e]
  get' := fun j => by
    by_cases e : i = j
    · subst e; simp [M.size, hi]
    · rw [getD_set_ne false e, M.get' j]; simp [Ne.symm e]
  lt := fun j hj => by
    rcases List.mem_cons.1 hj with e | e
    · subst e; exact hi
    · exact M.lt j e
/-! What makes a new object may come up early: the object is taken up late. -/
def lateT (o : Oper) : Bool := match o.op with
  | .alloc _ => true
  | .makeMap _ none => true
  | _ => false
/-- The operation makes object 'ob', told by 'mk' of its number, whatever the world. -/
def LateOk (P : Program) (o : Oper) (ob : Ob) (mk : Nat → D) : Prop := ∃ (obj : Obj) (val : Nat → Value),
  (∀ (ρ : Operand → Value) (w : World), (execOp ρ o).run P w = .ok (.value (val w.heap.size)) (w.alloc obj)) ∧
  (∀ (Z : Nat → Prop) (h : List Ob) (pl : List Pl) (w : World) (b : Nat), w.heap[b]? = some obj → ObAt Z h pl w ob b 0) ∧
  (∀ (Z : Nat → Prop) (h : List Ob) (pl : List Pl) (w : World) (l b : Nat), h[l]? = some ob → pl[l]? = some (some (b, 0)) → RelV Z h pl w (mk l) (val b))
theorem late_alloc {P : Program} {L : Lay} (hL : LayOk P L) {o : Oper} {t : TypeId} (ho : o.op = .alloc t) {y : Ty} (hy : ty L t = some y) :
    LateOk P o ⟨.one, 0, (y.zero.map ofCell).length, 1, fun _ => y.zero.map ofCell⟩ (fun l => .ptr l 0 0 0) := by
  obtain ⟨z, hz, hrun⟩ := (hL _ _ hy).zeroValue
  refine ⟨.cells z.cells t, fun b => .pointer (some ⟨b, 0, none⟩), fun ρ w => ?_, fun Z h pl w b hb => ?_, fun Z h pl w l b h1 h2 => ?_⟩
  · simp [execOp, ho, Instr.alloc, newVar, newRow, hrun]
  · refine .ofCells rfl ⟨z.cells, t, hb, by simp [← hz], fun _ _ => rfl, fun i j hi hj => ?_⟩
    have hi0 : i = 0 := by simp at hi; omega
    subst hi0
    have hj' : j < z.cells.size := by rw [← hz] at hj; simpa using hj
    refine ⟨nthV z.cells.toList j, ?_, .cl _ _ ?_⟩
    · simp only [Nat.zero_mul, Nat.zero_add, nthV, List.getD_eq_getElem?_getD]
      rw [Array.getElem?_toList, Array.getElem?_eq_getElem hj']; rfl
    · rw [← hz]
      simp only [nth, nthV, List.getD_eq_getElem?_getD, List.getElem?_map, Array.getElem?_toList, Array.getElem?_eq_getElem hj', Option.map_some, Option.getD_some]
      exact cl_ofCell _ _ _
  · exact .ptr _ _ _ _ _ (some (b, 0)) _ h1 h2 rfl (Nat.le_refl _) (fun _ => ⟨_, _, rfl, by simp⟩)

theorem late_make {P : Program} {o : Oper} {t : TypeId} (ho : o.op = .makeMap t none) (q : IntKind) : LateOk P o (mapOb q 0 []) (fun l => .mref l 0) := by
  refine ⟨.map #[] 0, fun b => .map (some b), fun ρ w => ?_, fun Z h pl w b hb => ?_, fun Z h pl w l b h1 h2 => ?_⟩
  · simp [execOp, ho, Instr.makeMap]
  · exact mapAt_of (kd := .map) hb ⟨rfl, fun i e a h => by simp at h, fun i j a a' _ h => by simp at h⟩ rfl
  · exact .mref _ _ (mapOb q 0 []) (some (b, 0)) b h1 h2 ⟨by simp [mapOb, mapObK, Kd.ty], rfl⟩ (Nat.le_refl _) (fun _ => rfl)

/-! The walk over abstract states. -/
section
variable (P : Program) (base nt : Nat) (w0 : Start)
/-- An operation that is not told to change memory that stands. -/
def calmS (o : Oper) : Bool := calm o && !(o.pos == "!")
def stripN (b : Bool) (o : Oper) : Oper := ⟨o.dst, o.op, o.type, bif b then "!" else "", #[], none⟩
theorem wp_stripN {P : Program} {b : Bool} {o : Oper} {a : Act} {w : World} {K : Act → World → Prop} {Q : Exit → Act → World → Prop} : (stripN b o).wp P a w K Q = o.wp P a w K Q := rfl
theorem calmS_strip (b : Bool) (o : Oper) : calmS (stripN b o) = (calm o && !b) := by cases b <;> simp [calmS, stripN, calm]
def CmO (o : Oper) (w w' : World) : Prop := match o.op with
  | .insert .. => ExtC w w'
  | _ => calmS o = true → Ext w w'
theorem CmO.ext {o : Oper} {w w' : World} (h : Ext w w') : CmO o w w' := by
  unfold CmO
  split
  · exact .ext h
  · exact fun _ => h
theorem CmO.calm {o : Oper} {w w' : World} (h : CmO o w w') (hc : calmS o = true) : Ext w w' := by
  unfold CmO at h
  split at h
  · rename_i ho; simp [calmS, Go.Fg.calm, ho] at hc
  · exact h hc
theorem CmO.ins {o : Oper} {w w' : World} (h : CmO o w w') (hc : insB o = true) : ExtC w w' := by
  unfold insB at hc
  split at hc
  · rename_i ho; unfold CmO at h; rw [ho] at h; exact h
  · cases hc
theorem CmO.mk {o : Oper} {w w' : World} (h : calmS o = true → Ext w w') (hi : insB o = false) : CmO o w w' := by
  unfold CmO
  split
  · rename_i ho; simp [insB, ho] at hi
  · exact h
def cmP (nc : List Nat) (ops : Array Oper) (i : Nat) (w w' : World) : Prop := match ops[i]? with
  | some o => CmO (stripN (memB i nc) o) w w'
  | none => True
theorem cmP_at {nc : List Nat} {ops : Array Oper} {i : Nat} {o : Oper} {w w' : World} (ho : ops[i]? = some o) : cmP nc ops i w w' = CmO (stripN (memB i nc) o) w w' := by simp only [cmP, ho]
def AE (o : Oper) (F : St → Prop) (s : St) : Prop := ∀ (Z : Nat → Prop), ZOk w0 Z → ∀ pl a w, Rel Z base nt s pl a w → Since Z base w0 s.h pl w →
  o.wp P a w (fun a' w' => CmO o w w' ∧ ∃ d h' pl' v, F ⟨putO s.fr o.dst d, h'⟩ ∧ Rel Z base nt ⟨putO s.fr o.dst d, h'⟩ pl' a' w' ∧ Since Z base w0 h' pl' w' ∧ Tr s.h pl w h' pl' w' ∧ a' = a.put o.dst v) (fun _ _ _ => False)
def AXo (pu : Bool) (o : Oper) (F : St → Prop) (s : St) : Prop := match pu with
  | true => ∃ d, PureOk P base nt o s d ∧ (loadB o = true → PureOkC P base nt o s d) ∧ okO nt o.dst = true ∧ F ⟨putO s.fr o.dst d, s.h⟩
  | false => match lateT o with
    | true => ∃ ob mk, LateOk P o ob mk ∧ okO nt o.dst = true ∧ F ⟨putO s.fr o.dst (mk s.h.length), s.h ++ [ob]⟩
    | false => AE P base nt w0 o F s
def AX (K : St → Prop) : List (Bool × Oper × G) → St → Prop
  | [], s => K s
  | (pu, o, g) :: r, s => match g with
    | none => AXo P base nt w0 pu o (AX K r) s
    | some (none, _) => okO nt o.dst = true ∧ AX K r ⟨putO s.fr o.dst (.raw Go.undef), s.h⟩
    | some (some t, b) => match get s.fr t with
      | .raw (.bool x) => (x = b → AXo P base nt w0 pu o (AX K r) ⟨put s.fr t (.raw (.bool b)), s.h⟩) ∧
          (x = (!b) → okO nt o.dst = true ∧ AX K r ⟨putO (put s.fr t (.raw (.bool (!b)))) o.dst (.raw Go.undef), s.h⟩)
      | .raw (.tuple _) => okO nt o.dst = true ∧ AX K r ⟨putO s.fr o.dst (.raw Go.undef), s.h⟩
      | _ => False
end
def pickO (nc : List Nat) (ops : Array Oper) (l : List (Nat × Bool)) : List (Bool × Oper × G) := l.map fun ip => match ops[ip.1]? with
  | some o => (ip.2, stripN (memB ip.1 nc) o, guardOf ops o)
  | none => (ip.2, ⟨none, .move (.tmp 0), 0, "", #[], none⟩, none)

section
variable {nc : List Nat} {P : Program} {base nt : Nat} {w0 : Start}
theorem late_AE {o : Oper} {ob : Ob} {mk : Nat → D} {F : St → Prop} {s : St} (h : LateOk P o ob mk) (ht : okO nt o.dst = true) (hbase : base ≤ w0.w.heap.size) (hF : F ⟨putO s.fr o.dst (mk s.h.length), s.h ++ [ob]⟩) : AE P base nt w0 o F s := by
  intro Z z pl a w r b
  obtain ⟨obj, val, h1, h2, h3⟩ := h
  have e : ∀ k, k < w.heap.size → (w.alloc obj).heap[k]? = w.heap[k]? := fun k hk => heap_push_old w obj k hk
  have hnew : (w.alloc obj).heap[w.heap.size]? = some obj := heap_alloc_new w obj
  have hsize : base ≤ w.heap.size := Nat.le_trans hbase b.1.size
  have T : Tr s.h pl w (s.h ++ [ob]) (pl ++ [some (w.heap.size, 0)]) (w.alloc obj) := Tr.push r.o e _ _ (by intro k q hh; simp at hh; omega)
  have R' := RelO.push' r.o e ob (Nat.le_refl _) hsize (h2 Z (s.h ++ [ob]) (pl ++ [some (w.heap.size, 0)]) _ _ hnew)
  have hv : RelV Z (s.h ++ [ob]) (pl ++ [some (w.heap.size, 0)]) (w.alloc obj) (mk s.h.length) (val w.heap.size) := h3 Z _ _ _ _ _ (by simp) (by rw [← r.o.len]; simp)
  unfold Oper.wp
  rw [h1 a.eval w]
  simp only [Oper.upon_value]
  refine ⟨CmO.ext fun k hk => e k hk, _, _, _, _, hF, ?_, b.step T (below_alloc hsize obj), T, rfl⟩
  cases hd : o.dst with
  | none => exact r.to' T R' _
  | some t => rw [hd] at ht; exact r.to T R' (okO_lt ht) hv
theorem AXo.ae (hbase : base ≤ w0.w.heap.size) {o : Oper} {F : St → Prop} {s : St} (h : AXo P base nt w0 false o F s) : AE P base nt w0 o F s := by
  simp only [AXo] at h
  split at h
  · obtain ⟨ob, mk, h1, h2, h3⟩ := h; exact late_AE h1 h2 hbase h3
  · exact h

theorem RelV.trZ {Z Z' : Nat → Prop} {h h' : List Ob} {pl pl' : List Pl} {w w' : World} (hf : ∀ b, free Z pl b → b < w.heap.size → free Z' pl' b ∧ w'.heap[b]? = w.heap[b]?)
    (hobj : ∀ (l : Nat) (o : Ob) (p : Pl), h[l]? = some o → pl[l]? = some p → h'[l]? = some o ∧ pl'[l]? = some p) (hb : ∀ (l b q : Nat), pl[l]? = some (some (b, q)) → w'.heap[b]? = w.heap[b]?) {d : D} {v : Value} (r : RelV Z h pl w d v) : RelV Z' h' pl' w' d v := by
  induction r with
  | cl d v hc => exact .cl d v (hc.mono hf)
  | ref l g off len o p a cap ho hp hk hg hs =>
    refine .ref l g off len o p a cap (hobj l o p ho hp).1 (hobj l o p ho hp).2 hk hg fun hgg => ?_
    rcases hs hgg with h1 | ⟨b, q, c, el, hpp, ha, hb', hc, hl⟩
    · exact .inl h1
    · exact .inr ⟨b, q, c, el, hpp, ha, by rw [hb l b q (by rw [hp, hpp])]; exact hb', hc, hl⟩
  | ptr l g i j o p a ho hp hk hg hs => exact .ptr l g i j o p a (hobj l o p ho hp).1 (hobj l o p ho hp).2 hk hg hs
  | mref l g o p b ho hp hk hg hs => exact .mref l g o p b (hobj l o p ho hp).1 (hobj l o p ho hp).2 hk hg hs
  | clo f nf cs vs hl hr ih => exact .clo f nf cs vs hl ih
  | agg cs vs hl hr ih => exact .agg cs vs hl ih
  | tup cs vs hl hr ih => exact .tup cs vs hl ih
theorem RelO.trZ {Z Z' : Nat → Prop} {h : List Ob} {pl : List Pl} {w w' : World} (R : RelO Z base h pl w) (hf : ∀ b, free Z pl b → b < w.heap.size → free Z' pl b ∧ w'.heap[b]? = w.heap[b]?) (e : ∀ b, b < w.heap.size → w'.heap[b]? = w.heap[b]?) : RelO Z' base h pl w' where
  len := R.len
  inj := R.inj
  noRow := R.noRow
  at_ := fun l o b q ho hp => by
    obtain ⟨h1, x⟩ := R.at_ l o b q ho hp
    exact ⟨h1, x.to rfl rfl rfl (e b (R.lt hp).1) (fun _ _ => rfl) fun i j v _ _ hr => hr.trZ hf (fun _ _ _ a b => ⟨a, b⟩) (fun l b q hp => e b (R.lt hp).1)⟩
theorem RelO.adopt {Z Z' : Nat → Prop} {h : List Ob} {pl : List Pl} {w : World} (R : RelO Z base h pl w) {b : Nat} (hf : ∀ c, free Z pl c → free Z' (pl ++ [some (b, 0)]) c) (ha : away pl b) (hbase : base ≤ b) {ob : Ob}
    (hx : ObAt Z' (h ++ [ob]) (pl ++ [some (b, 0)]) w ob b 0) : RelO Z' base (h ++ [ob]) (pl ++ [some (b, 0)]) w := by
  refine ⟨by simp [R.len], ?_, ?_, ?_⟩
  · intro l l' b' q q' e1 e2
    rcases append_inv e1 with h1 | ⟨h1, h1'⟩ <;> rcases append_inv e2 with h2 | ⟨h2, h2'⟩
    · exact R.inj l l' b' q q' h1 h2
    · simp at h2'; obtain ⟨rfl, rfl⟩ := h2'; exact absurd h1 (ha l q)
    · simp at h1'; obtain ⟨rfl, rfl⟩ := h1'; exact absurd h2 (ha l' q')
    · omega
  · intro l o ho e1
    rcases append_inv e1 with h1 | ⟨h1, h1'⟩
    · rcases append_inv ho with h2 | ⟨h2, h2'⟩
      · exact R.noRow l o h2 h1
      · have := ltp_of_some h1; have := R.len; omega
    · simp at h1'
  · intro l o b' q ho hpl
    rcases append_inv hpl with h1 | ⟨h1, h1'⟩
    · rcases append_inv ho with h2 | ⟨h2, h2'⟩
      · obtain ⟨g1, x⟩ := R.at_ l o b' q h2 h1
        exact ⟨g1, x.to rfl rfl rfl rfl (fun _ _ => rfl) fun i j v _ _ hr => hr.trZ (fun c hc _ => ⟨hf c hc, rfl⟩) (fun _ _ _ a b => ⟨append_left_some a, append_left_some b⟩) (fun _ _ _ _ => rfl)⟩
      · have := ltp_of_some h1; have := R.len; omega
    · rcases append_inv ho with h2 | ⟨h2, h2'⟩
      · have := lt_of_some h2; have := R.len; omega
      · subst h2'
        simp at h1'
        obtain ⟨rfl, rfl⟩ := h1'
        exact ⟨fun _ => hbase, hx⟩

/-- The check of an order, with what may come up early. -/
def lateAt (ops : Array Oper) (i : Nat) : Bool := match ops[i]? with
  | some o => lateT o && o.guard.isNone && o.after.toList.isEmpty
  | none => false
def heldN (ops : Array Oper) (done : List Nat) (i : Nat) : List Edge → Bool
  | [] => false
  | e :: r => (Region.binds .any e && !memB e.on done && (!lateAt ops e.on || Nat.beq e.on i)) || heldN ops done i r
def aloneN (ops : Array Oper) (done : List Nat) (i : Nat) : List (Nat × Bool × Option Oper) → Bool
  | [] => true
  | (j, _, some oj) :: r => (lateAt ops j || heldN ops done i oj.after.toList) && aloneN ops done i r
  | (_, _, none) :: _ => false
/-- What is left, to be taken in whatever order. -/
def tailN (ops : Array Oper) (R : List Nat) : List (Nat × Bool × Option Oper) := R.map fun i => (i, false, ops[i]?)
def schedN (nc : List Nat) (L : Lay) (ops : Array Oper) (R : List Nat) : List (Nat × Bool × Option Oper) → List Nat → Bool
  | [], _ => true
  | (i, p, some o) :: r, done => !memB i done && !heldB done o.after.toList && (match p with
    | true => !lateAt ops i && pureB nc L ops done i o (r ++ tailN ops R)
    | false => aloneN ops done i (r ++ tailN ops R)) && schedN nc L ops R r (i :: done)
  | (_, _, none) :: _, _ => false
theorem heldN_ok {ops : Array Oper} {done : List Nat} {i : Nat} : ∀ {l : List Edge}, heldN ops done i l = true → ∃ e ∈ l, Region.binds .any e = true ∧ e.on ∉ done ∧ (lateAt ops e.on = false ∨ e.on = i)
  | [], h => by cases h
  | e :: r, h => by
    simp only [heldN, Bool.or_eq_true, Bool.and_eq_true, Bool.not_eq_true', Nat.beq_eq] at h
    rcases h with h | h
    · exact ⟨e, by simp, h.1.1, (fun hm => by rw [memB_iff.2 hm] at h; exact absurd h.1.2 (by simp)), h.2⟩
    · obtain ⟨e', h1, h2⟩ := heldN_ok h; exact ⟨e', by simp [h1], h2⟩
theorem aloneN_ok {ops : Array Oper} {done : List Nat} {i : Nat} : ∀ {r : List (Nat × Bool × Option Oper)}, (∀ x ∈ r, x.2.2 = ops[x.1]?) → aloneN ops done i r = true → ∀ x ∈ r, ∀ oj, ops[x.1]? = some oj → lateAt ops x.1 = true ∨ heldN ops done i oj.after.toList = true
  | [], _, _, x, hx, _, _ => by cases hx
  | (j, p, none) :: r, _, h, _, _, _, _ => by cases h
  | (j, p, some o) :: r, hr, h, x, hx, oj, hoj => by
    simp only [aloneN, Bool.and_eq_true, Bool.or_eq_true] at h
    rcases List.mem_cons.1 hx with h1 | h1
    · subst h1
      have e : some o = ops[j]? := hr (j, p, some o) (by simp)
      have hoj : ops[j]? = some oj := hoj
      rw [hoj] at e; cases e
      exact h.1
    · exact aloneN_ok (fun y hy => hr y (by simp [hy])) h.2 x h1 oj hoj

abbrev En := Nat × Bool × Option Nat
def idsN (l : List En) : List Nat := l.map (·.1)
def pbN (l : List En) : List (Nat × Bool) := l.map fun x => (x.1, x.2.1)
def early : List En → List Nat
  | [] => []
  | (i, _, some _) :: r => i :: early r
  | (_, _, none) :: r => early r
def blocks : List En → List Nat
  | [] => []
  | (_, _, some b) :: r => b :: blocks r
  | (_, _, none) :: r => blocks r
def cntN : List En → Nat
  | [] => 0
  | (_, _, some _) :: r => cntN r
  | (_, _, none) :: r => cntN r + 1
theorem mem_early {j : Nat} : ∀ {l : List En}, j ∈ early l ↔ ∃ p b, (j, p, some b) ∈ l
  | [] => by simp [early]
  | (i, p, some b) :: r => by
    simp only [early, List.mem_cons, mem_early (l := r), Prod.mk.injEq, Option.some.injEq]
    constructor
    · rintro (rfl | ⟨p', b', h⟩)
      · exact ⟨p, b, .inl ⟨rfl, rfl, rfl⟩⟩
      · exact ⟨p', b', .inr h⟩
    · rintro ⟨p', b', ⟨rfl, _⟩ | h⟩
      · exact .inl rfl
      · exact .inr ⟨p', b', h⟩
  | (i, p, none) :: r => by
    simp only [early, List.mem_cons, mem_early (l := r), Prod.mk.injEq, reduceCtorEq, and_false, false_or]
theorem mem_blocks {c : Nat} : ∀ {l : List En}, c ∈ blocks l ↔ ∃ j p, (j, p, some c) ∈ l
  | [] => by simp [blocks]
  | (i, p, some b) :: r => by
    simp only [blocks, List.mem_cons, mem_blocks (l := r), Prod.mk.injEq, Option.some.injEq]
    constructor
    · rintro (rfl | ⟨p', b', h⟩)
      · exact ⟨i, p, .inl ⟨rfl, rfl, rfl⟩⟩
      · exact ⟨p', b', .inr h⟩
    · rintro ⟨p', b', ⟨_, _, rfl⟩ | h⟩
      · exact .inl rfl
      · exact .inr ⟨p', b', h⟩
  | (i, p, none) :: r => by
    simp only [blocks, List.mem_cons, mem_blocks (l := r), Prod.mk.injEq, reduceCtorEq, and_false, false_or]
theorem cntN_set {j : Nat} {p : Bool} {b : Nat} {l2 : List En} : ∀ l1 : List En, cntN (l1 ++ (j, p, none) :: l2) = cntN (l1 ++ (j, p, some b) :: l2) + 1
  | [] => rfl
  | (_, _, some _) :: r => cntN_set r
  | (_, _, none) :: r => by
    simp only [List.cons_append, cntN]
    rw [cntN_set (b := b) r]
theorem blocks_set {j : Nat} {p : Bool} {b : Nat} {l2 : List En} : ∀ l1 : List En, b ∉ blocks (l1 ++ (j, p, none) :: l2) → (blocks (l1 ++ (j, p, none) :: l2)).Nodup → (blocks (l1 ++ (j, p, some b) :: l2)).Nodup
  | [], h, k => by simp only [List.nil_append, blocks] at h k ⊢; exact List.nodup_cons.2 ⟨h, k⟩
  | (i, q, some c) :: r, h, k => by
    simp only [List.cons_append, blocks, List.mem_cons, not_or] at h k ⊢
    obtain ⟨k1, k2⟩ := List.nodup_cons.1 k
    refine List.nodup_cons.2 ⟨fun hm => ?_, blocks_set r h.2 k2⟩
    obtain ⟨j', p', hj⟩ := mem_blocks.1 hm
    rcases List.mem_append.1 hj with h1 | h1
    · exact k1 (mem_blocks.2 ⟨j', p', List.mem_append.2 (.inl h1)⟩)
    · rcases List.mem_cons.1 h1 with h2 | h2
      · cases h2; exact h.1 rfl
      · exact k1 (mem_blocks.2 ⟨j', p', List.mem_append.2 (.inr (List.mem_cons.2 (.inr h2)))⟩)
  | (i, q, none) :: r, h, k => by
    simp only [List.cons_append, blocks] at h k ⊢
    exact blocks_set r h k

/-- What came up early and is not taken up yet. -/
structure Pend (P : Program) (ops : Array Oper) (nt : Nat) (w0 : Start) (pl : List Pl) (a : Act) (w : World) (i b : Nat) : Prop where
  run : ∃ (o : Oper) (d : Nat) (w1 : World) (ρ : Operand → Value) (v : Value) (obj : Obj), ops[i]? = some o ∧ o.dst = some d ∧ (execOp ρ o).run P w1 = .ok (.value v) (w1.alloc obj) ∧ b = w1.heap.size ∧ w.heap[b]? = some obj ∧ (d < nt → a.tmps.getD d Go.undef = v)
  away : away pl b
  low : w0.w.heap.size ≤ b
theorem put_other {a : Act} {t : Option Nat} {d : Nat} {v : Value} (h : t ≠ some d) : (a.put t v).tmps.getD d Go.undef = a.tmps.getD d Go.undef := by
  cases t with
  | none => rfl
  | some t =>
    have : t ≠ d := fun e => h (by rw [e])
    simp [Act.put, Array.getD_eq_getD_getElem?, Array.getElem?_setIfInBounds_ne this]
theorem Pend.step {P : Program} {ops : Array Oper} {nt : Nat} {w0 : Start} {h h' : List Ob} {pl pl' : List Pl} {a : Act} {w w' : World} {i b : Nat} (p : Pend P ops nt w0 pl a w i b) (T : Tr h pl w h' pl' w') {t : Option Nat} (v : Value)
    (hd : ∀ o d, ops[i]? = some o → o.dst = some d → t ≠ some d) : Pend P ops nt w0 pl' (a.put t v) w' i b := by
  obtain ⟨o, d, w1, ρ, u, obj, h1, h2, h3, h4, h5, h6⟩ := p.run
  obtain ⟨k1, k2⟩ := T.old b p.away (lt_of_heap h5)
  exact ⟨⟨o, d, w1, ρ, u, obj, h1, h2, h3, h4, by rw [k2]; exact h5, fun hn => by rw [put_other (hd o d h1 h2)]; exact h6 hn⟩, k1, p.low⟩
theorem get_putO_other {fr : List (Nat × D)} {t : Option Nat} {u : Nat} {d : D} (h : t ≠ some u) : get (putO fr t d) u = get fr u := by
  cases t with
  | none => rfl
  | some t => rw [putO, get_put, if_neg (fun e => h (by rw [e]))]

structure InvN (nc : List Nat) (P : Program) (L : Lay) (ops : Array Oper) (R : List Nat) (base nt : Nat) (w0 : Start) (Z0 Z : Nat → Prop) (l : List En) (done : List Nat) (listed : Array Bool) (s : St) (pl : List Pl) (a : Act) (w : World) : Prop where
  sched : schedN nc L ops R ((pbN l).map fun ip => (ip.1, ip.2, ops[ip.1]?)) done = true
  cover : ∀ j, j < ops.size → j ∉ done → j ∈ idsN l ∨ j ∈ R
  rnd : ∀ j ∈ R, j ∉ done ∧ j ∉ idsN l ∧ lateAt ops j = false
  marks : Marks ops listed (early l ++ done)
  late : ∀ i p b, (i, p, some b) ∈ l → lateAt ops i = true
  lp : ∀ i p q, (i, p, q) ∈ l → lateAt ops i = true → p = false
  z : ∀ b, Z b ↔ Z0 b ∧ b ∉ blocks l
  z0 : ∀ i p b, (i, p, some b) ∈ l → Z0 b
  nod : (blocks l).Nodup
  und : ∀ i p q, (i, p, q) ∈ l → lateAt ops i = true → ∀ o d, ops[i]? = some o → o.dst = some d → get s.fr d = .undef
  rel : Rel Z base nt s pl a w
  since : Since Z base w0 s.h pl w
  pend : ∀ i p b, (i, p, some b) ∈ l → Pend P ops nt w0 pl a w i b

theorem schedN_not {L : Lay} {ops : Array Oper} {R : List Nat} : ∀ {l : List En} {done : List Nat}, schedN nc L ops R ((pbN l).map fun ip => (ip.1, ip.2, ops[ip.1]?)) done = true → ∀ j, j ∈ idsN l → j ∉ done
  | [], _, _, j, hj => by simp [idsN] at hj
  | (i, p, q) :: r, done, h, j, hj => by
    simp only [pbN, List.map_cons] at h
    cases ho : ops[i]? with
    | none => rw [ho] at h; cases h
    | some o =>
      rw [ho] at h
      simp only [schedN, Bool.and_eq_true, Bool.not_eq_true'] at h
      simp only [idsN, List.map_cons, List.mem_cons] at hj
      rcases hj with rfl | hj
      · exact fun hm => by rw [memB_iff.2 hm] at h; exact absurd h.1.1.1 (by simp)
      · exact fun hm => schedN_not (l := r) h.2 j hj (List.mem_cons.2 (.inr hm))
theorem Marks.same {ops : Array Oper} {listed : Array Bool} {d d' : List Nat} (M : Marks ops listed d) (h : ∀ j, j ∈ d ↔ j ∈ d') : Marks ops listed d' where
  size := M.size
  get := fun j hj => by rw [M.get j hj, h]
  get' := fun j => by rw [M.get', h]
  lt := fun j hj => M.lt j ((h j).2 hj)
theorem lateAt_spec {ops : Array Oper} {i : Nat} {o : Oper} (ho : ops[i]? = some o) (h : lateAt ops i = true) : lateT o = true ∧ o.guard = none ∧ ∀ e, e ∉ o.after := by
  simp only [lateAt, ho, Bool.and_eq_true, Option.isNone_iff_eq_none, List.isEmpty_iff] at h
  exact ⟨h.1.1, h.1.2, fun e he => by have : e ∈ o.after.toList := by simpa using he
                                      rw [h.2] at this; cases this⟩
theorem depB_okN {ops : Array Oper} {listed : Array Bool} {done ea : List Nat} (M : Marks ops listed (ea ++ done)) (hea : ∀ j ∈ ea, lateAt ops j = true) {i : Nat} : ∀ {n : Nat} {j : Nat} {oj : Oper} {l : List Edge}, ops[j]? = some oj → (∀ e ∈ l, e ∈ oj.after) → depB ops done i n l = true → Dep ops listed i j
  | 0, _, _, _, _, _, h => by cases h
  | n + 1, _, _, [], _, _, h => by cases h
  | n + 1, j, oj, e :: r, hj, hl, h => by
    simp only [depB, Bool.or_eq_true, Bool.and_eq_true, Nat.beq_eq, Bool.not_eq_true'] at h
    rcases h with ⟨hb, h1 | ⟨h1, h2⟩⟩ | h
    · exact .edge j oj e hj (hl e (by simp)) hb h1
    · split at h2
      · rename_i o ho
        have hlt := (Array.getElem?_eq_some_iff.1 ho).1
        refine .step j oj e hj (hl e (by simp)) hb ((M.get e.on hlt).2 fun hm => ?_) (depB_okN M hea ho (fun e he => by simpa using he) h2)
        rcases List.mem_append.1 hm with h3 | h3
        · have h4 := (lateAt_spec ho (hea _ h3)).2.2
          have : o.after.toList = [] := List.eq_nil_iff_forall_not_mem.2 fun e he => h4 e (by simpa using he)
          rw [this] at h2
          cases n <;> simp [depB] at h2
        · rw [memB_iff.2 h3] at h1; cases h1
      · cases h2
    · exact depB_okN M hea hj (fun e he => hl e (by simp [he])) h
theorem pureB_okN {L : Lay} {ops : Array Oper} {done ea : List Nat} {i : Nat} {oi : Oper} {listed : Array Bool} (M : Marks ops listed (ea ++ done)) (hea : ∀ j ∈ ea, lateAt ops j = true) : ∀ {r : List (Nat × Bool × Option Oper)}, (∀ x ∈ r, x.2.2 = ops[x.1]?) → pureB nc L ops done i oi r = true → ∀ x ∈ r, ∀ oj, ops[x.1]? = some oj → Dep ops listed i x.1 ∨ ((((calm oj = true ∧ memB x.1 nc = false) ∨ still L oi = true) ∨ (loadB oi = true ∧ insB oj = true)) ∧ oi.apart ops oj = true)
  | [], _, _, x, hx, _, _ => by cases hx
  | (j, p, none) :: r, _, h, _, _, _, _ => by cases h
  | (j, p, some o) :: r, hr, h, x, hx, oj, hoj => by
    simp only [pureB, Bool.and_eq_true, Bool.or_eq_true] at h
    rcases List.mem_cons.1 hx with h1 | h1
    · subst h1
      have e : some o = ops[j]? := hr (j, p, some o) (by simp)
      have hoj : ops[j]? = some oj := hoj
      rw [hoj] at e
      cases e
      rcases h.1 with (h2 | h2) | h2
      · obtain ⟨e, he, hb, hon⟩ := waitsB_ok h2
        exact .inl (.edge j _ e hoj (by simpa using he) hb hon)
      · simp only [Bool.not_eq_true'] at h2; exact .inr h2
      · exact .inl (depB_okN M hea hoj (fun e he => by simpa using he) h2)
    · exact pureB_okN M hea (fun y hy => hr y (by simp [hy])) h.2 x h1 oj hoj

/-- No other operation writes the slot of what may come up early. -/
def Dst1 (ops : Array Oper) : Prop := ∀ (i j : Nat) (oi oj : Oper) (d : Nat), i ≠ j → lateAt ops i = true → ops[i]? = some oi → ops[j]? = some oj → oi.dst = some d → oj.dst ≠ some d

theorem InvN.head {L : Lay} {ops : Array Oper} {R : List Nat} {Z0 Z : Nat → Prop} {i : Nat} {p : Bool} {q : Option Nat} {r : List En} {done : List Nat} {listed : Array Bool} {s : St} {pl : List Pl} {a : Act} {w : World} (I : InvN nc P L ops R base nt w0 Z0 Z ((i, p, q) :: r) done listed s pl a w) :
    ∃ o, ops[i]? = some o ∧ i ∉ done ∧ (∀ e ∈ o.after, Region.binds .any e = true → e.on ∈ done) ∧
      (p = true → lateAt ops i = false ∧ pureB nc L ops done i o ((pbN r).map (fun ip => (ip.1, ip.2, ops[ip.1]?)) ++ tailN ops R) = true) ∧ (p = false → aloneN ops done i ((pbN r).map (fun ip => (ip.1, ip.2, ops[ip.1]?)) ++ tailN ops R) = true) ∧
      schedN nc L ops R ((pbN r).map fun ip => (ip.1, ip.2, ops[ip.1]?)) (i :: done) = true := by
  have h := I.sched
  simp only [pbN, List.map_cons] at h
  cases ho : ops[i]? with
  | none => rw [ho] at h; cases h
  | some o =>
    rw [ho] at h
    simp only [schedN, Bool.and_eq_true, Bool.not_eq_true'] at h
    refine ⟨o, rfl, fun hm => by rw [memB_iff.2 hm] at h; exact absurd h.1.1.1 (by simp), fun e he hb => heldB_not h.1.1.2 e (by simpa using he) hb, fun hp => ?_, fun hp => ?_, h.2⟩
    · subst hp; have := h.1.2; simp only [Bool.and_eq_true, Bool.not_eq_true'] at this; exact this
    · subst hp; exact h.1.2
theorem mem_ids {i : Nat} {p : Bool} {q : Option Nat} {l : List En} (h : (i, p, q) ∈ l) : i ∈ idsN l := List.mem_map.2 ⟨_, h, rfl⟩

theorem InvN.next {L : Lay} {ops : Array Oper} {R : List Nat} (hD : Dst1 ops) {Z0 Z : Nat → Prop} {i : Nat} {p : Bool} {r : List En} {done : List Nat} {listed : Array Bool} {s s' : St} {pl pl' : List Pl} {a : Act} {w w' : World} (I : InvN nc P L ops R base nt w0 Z0 Z ((i, p, none) :: r) done listed s pl a w)
    {o : Oper} (ho : ops[i]? = some o) (v : Value) (T : Tr s.h pl w s'.h pl' w') (hr : Rel Z base nt s' pl' (a.put o.dst v) w') (hs : Since Z base w0 s'.h pl' w') (hu : ∀ d, o.dst ≠ some d → get s.fr d = .undef → get s'.fr d = .undef) :
    InvN nc P L ops R base nt w0 Z0 Z r (i :: done) (listed.setIfInBounds i true) s' pl' (a.put o.dst v) w' := by
  obtain ⟨o', ho', h1, h2, h3, h4, h5⟩ := I.head
  rw [ho] at ho'; cases ho'
  have hlt := (Array.getElem?_eq_some_iff.1 ho).1
  have hne : ∀ j p q, (j, p, q) ∈ r → j ≠ i := fun j p q hj e => schedN_not h5 j (mem_ids hj) (by rw [e]; simp)
  have hdst : ∀ j p q, (j, p, q) ∈ r → lateAt ops j = true → ∀ oj d, ops[j]? = some oj → oj.dst = some d → o.dst ≠ some d := fun j p q hj hl oj d hoj hd => hD j i oj o d (hne j p q hj) hl hoj ho hd
  refine ⟨h5, fun j hj hd => ?_, fun j hj => ?_, (I.marks.set hlt).same fun j => ?_, fun j p b hj => I.late j p b (List.mem_cons_of_mem _ hj), fun j p q hj => I.lp j p q (List.mem_cons_of_mem _ hj), I.z, fun j p b hj => I.z0 j p b (List.mem_cons_of_mem _ hj), I.nod, fun j p q hj hl oj d hoj hd => ?_, hr, hs, fun j p b hj => ?_⟩
  · simp only [List.mem_cons, not_or] at hd
    have := I.cover j hj hd.2
    simp only [idsN, List.map_cons, List.mem_cons] at this
    rcases this with (h | h) | h
    · exact absurd h hd.1
    · exact .inl h
    · exact .inr h
  · obtain ⟨k1, k2, k3⟩ := I.rnd j hj
    simp only [idsN, List.map_cons, List.mem_cons, not_or] at k2
    exact ⟨fun h => by
      rcases List.mem_cons.1 h with h | h
      · exact k2.1 h
      · exact k1 h, k2.2, k3⟩
  · simp only [early, List.mem_cons, List.mem_append]
    constructor
    · rintro (h | h | h)
      · exact .inr (.inl h)
      · exact .inl h
      · exact .inr (.inr h)
    · rintro (h | h | h)
      · exact .inr (.inl h)
      · exact .inl h
      · exact .inr (.inr h)
  · exact hu d (hdst j p q hj hl oj d hoj hd) (I.und j p q (List.mem_cons_of_mem _ hj) hl oj d hoj hd)
  · exact (I.pend j p b (List.mem_cons_of_mem _ hj)).step T v fun oj d hoj hd => hdst j p _ hj (I.late j p b (List.mem_cons_of_mem _ hj)) oj d hoj hd

theorem Tr.snoc {h h' : List Ob} {pl pl' : List Pl} {w w' : World} (T : Tr h pl w h' pl' w') {b q : Nat} (hb : w.heap.size ≤ b) (ob : Ob) : Tr h pl w (h' ++ [ob]) (pl' ++ [some (b, q)]) w' where
  old := fun c hc hlt => ⟨away_append (T.old c hc hlt).1 fun q e => by simp at e; omega, (T.old c hc hlt).2⟩
  obj := fun l o p ho hp => by
    obtain ⟨o', p', h1, h2, h3⟩ := T.obj l o p ho hp
    exact ⟨o', p', append_left_some h1, append_left_some h2, h3⟩
  shape := fun l o o' b q ho ho' hg hp c el hc => by
    obtain ⟨o1, p1, h1, h2, h3⟩ := T.obj l o _ ho hp
    rw [append_left_some h1] at ho'; cases ho'
    exact T.shape l o _ b q ho h1 hg hp c el hc
theorem InvN.adopt {L : Lay} {ops : Array Oper} {R : List Nat} (hD : Dst1 ops) (hbase : base ≤ w0.w.heap.size) {Z0 Z : Nat → Prop} {i b : Nat} {p : Bool} {r : List En} {done : List Nat} {listed : Array Bool} {s : St} {pl : List Pl} {a : Act} {w : World} (I : InvN nc P L ops R base nt w0 Z0 Z ((i, p, some b) :: r) done listed s pl a w)
    {o : Oper} (ho : ops[i]? = some o) {ob : Ob} {mk : Nat → D} (hL : LateOk P o ob mk) (ht : okO nt o.dst = true) :
    ∃ Z', InvN nc P L ops R base nt w0 Z0 Z' r (i :: done) listed ⟨putO s.fr o.dst (mk s.h.length), s.h ++ [ob]⟩ (pl ++ [some (b, 0)]) a w := by
  obtain ⟨o', ho', h1, h2, h3, h4, h5⟩ := I.head
  rw [ho] at ho'; cases ho'
  have hne : ∀ j p q, (j, p, q) ∈ r → j ≠ i := fun j p q hj e => schedN_not h5 j (mem_ids hj) (by rw [e]; simp)
  have hli := I.late i p b (List.mem_cons_self ..)
  have hdst : ∀ j p q, (j, p, q) ∈ r → lateAt ops j = true → ∀ oj d, ops[j]? = some oj → oj.dst = some d → o.dst ≠ some d := fun j p q hj hl oj d hoj hd => hD j i oj o d (hne j p q hj) hl hoj ho hd
  obtain ⟨o1, d, w1, ρ, v, obj, g1, g2, g3, g4, g5, g6⟩ := (I.pend i p b (List.mem_cons_self ..)).run
  rw [ho] at g1; cases g1
  have haw := (I.pend i p b (List.mem_cons_self ..)).away
  have hlow := (I.pend i p b (List.mem_cons_self ..)).low
  obtain ⟨obj', val, k1, k2, k3⟩ := hL
  have ke := k1 ρ w1
  rw [g3] at ke
  simp only [Result.ok.injEq, Next.value.injEq] at ke
  obtain ⟨rfl, ke2⟩ := ke
  have hobj : obj = obj' := by
    have e1 := heap_alloc_new w1 obj
    have e2 := heap_alloc_new w1 obj'
    rw [ke2, e2] at e1
    exact (Option.some.inj e1).symm
  subst hobj
  have hdn : d < nt := by rw [g2] at ht; exact okO_lt ht
  have hz : ∀ c, Z c ↔ Z0 c ∧ c ≠ b ∧ c ∉ blocks r := fun c => by rw [I.z c]; simp only [blocks, List.mem_cons, not_or]
  have hnb : b ∉ blocks r := by have := I.nod; simp only [blocks] at this; exact (List.nodup_cons.1 this).1
  have hZ0b : Z0 b := I.z0 i p b (List.mem_cons_self ..)
  have hfr : ∀ c, free Z pl c → free (fun c => Z0 c ∧ c ∉ blocks r) (pl ++ [some (b, 0)]) c := fun c hc => ⟨⟨((hz c).1 hc.1).1, ((hz c).1 hc.1).2.2⟩, away_append hc.2 fun q e => by simp at e; exact ((hz c).1 hc.1).2.1 e.1.symm⟩
  have hlen : pl.length = s.h.length := I.rel.o.len
  have hx := k2 (fun c => Z0 c ∧ c ∉ blocks r) (s.h ++ [ob]) (pl ++ [some (b, 0)]) w b g5
  have hO := I.rel.o.adopt hfr haw (Nat.le_trans hbase hlow) hx
  have hv := k3 (fun c => Z0 c ∧ c ∉ blocks r) (s.h ++ [ob]) (pl ++ [some (b, 0)]) w s.h.length b (by simp) (by rw [← hlen]; simp)
  have htr : ∀ {d v}, RelV Z s.h pl w d v → RelV (fun c => Z0 c ∧ c ∉ blocks r) (s.h ++ [ob]) (pl ++ [some (b, 0)]) w d v := fun hr => hr.trZ (fun c hc _ => ⟨hfr c hc, rfl⟩) (fun _ _ _ a b => ⟨append_left_some a, append_left_some b⟩) (fun _ _ _ _ => rfl)
  refine ⟨fun c => Z0 c ∧ c ∉ blocks r, h5, fun j hj hd => ?_, fun j hj => ?_, I.marks.same fun j => ?_, fun j p b hj => I.late j p b (List.mem_cons_of_mem _ hj), fun j p q hj => I.lp j p q (List.mem_cons_of_mem _ hj), fun c => Iff.rfl, fun j p b hj => I.z0 j p b (List.mem_cons_of_mem _ hj), ?_, fun j p q hj hl oj d hoj hd => ?_, ⟨I.rel.nt, I.rel.defers, fun t => ?_, hO⟩, ⟨I.since.1, ?_, ⟨fun c hc => ?_, fun l c q e h0 => ?_⟩⟩, fun j p b' hj => ?_⟩
  · simp only [List.mem_cons, not_or] at hd
    have := I.cover j hj hd.2
    simp only [idsN, List.map_cons, List.mem_cons] at this
    rcases this with (h | h) | h
    · exact absurd h hd.1
    · exact .inl h
    · exact .inr h
  · obtain ⟨k1, k2, k3⟩ := I.rnd j hj
    simp only [idsN, List.map_cons, List.mem_cons, not_or] at k2
    exact ⟨fun h => by
      rcases List.mem_cons.1 h with h | h
      · exact k2.1 h
      · exact k1 h, k2.2, k3⟩
  · simp only [early, List.mem_cons, List.mem_append]
    constructor
    · rintro ((h | h) | h)
      · exact .inr (.inl h)
      · exact .inl h
      · exact .inr (.inr h)
    · rintro (h | h | h)
      · exact .inl (.inr h)
      · exact .inl (.inl h)
      · exact .inr h
  · have := I.nod; simp only [blocks] at this; exact (List.nodup_cons.1 this).2
  · rw [get_putO_other (hdst j p q hj hl oj d hoj hd)]
    exact I.und j p q (List.mem_cons_of_mem _ hj) hl oj d hoj hd
  · rw [g2, putO, get_put]
    by_cases e : t = d
    · rw [if_pos e, e, g6 hdn, ← g4]; exact hv
    · rw [if_neg e]; exact htr (I.rel.fr t)
  · exact I.since.2.1.snoc hlow ob
  · exact (I.z c).1 (I.since.2.2.new c hc) |> fun h => ⟨h.1, fun hm => h.2 (by simp only [blocks, List.mem_cons]; exact .inr hm)⟩
  · rcases append_inv e with h1 | ⟨h1, h1'⟩
    · exact (I.z c).1 (I.since.2.2.own l c q h1 h0) |> fun h => ⟨h.1, fun hm => h.2 (by simp only [blocks, List.mem_cons]; exact .inr hm)⟩
    · simp at h1'; obtain ⟨rfl, rfl⟩ := h1'; exact ⟨hZ0b, hnb⟩
  · have P' := I.pend j p b' (List.mem_cons_of_mem _ hj)
    exact ⟨P'.run, away_append P'.away fun q e => by
      simp at e
      exact hnb (by rw [e.1]; exact mem_blocks.2 ⟨j, p, hj⟩), P'.low⟩

theorem mem_setN {j b : Nat} {p : Bool} {l1 l2 : List En} {x : En} (h : x ∈ l1 ++ (j, p, some b) :: l2) : x ∈ l1 ++ (j, p, none) :: l2 ∨ x = (j, p, some b) := by
  rcases List.mem_append.1 h with h | h
  · exact .inl (List.mem_append.2 (.inl h))
  · rcases List.mem_cons.1 h with h | h
    · exact .inr h
    · exact .inl (List.mem_append.2 (.inr (List.mem_cons_of_mem _ h)))
theorem mem_setN' {j b : Nat} {p : Bool} {l1 l2 : List En} {i c : Nat} {q : Bool} (h : (i, q, some c) ∈ l1 ++ (j, p, none) :: l2) : (i, q, some c) ∈ l1 ++ (j, p, some b) :: l2 := by
  rcases List.mem_append.1 h with h | h
  · exact List.mem_append.2 (.inl h)
  · rcases List.mem_cons.1 h with h | h
    · cases h
    · exact List.mem_append.2 (.inr (List.mem_cons_of_mem _ h))
theorem InvN.exec {L : Lay} {ops : Array Oper} {R : List Nat} (hD : Dst1 ops) (hbase : base ≤ w0.w.heap.size) {Z0 Z : Nat → Prop} {j : Nat} {p : Bool} {l1 l2 : List En} {done : List Nat} {listed : Array Bool} {s : St} {pl : List Pl} {a : Act} {w : World} (I : InvN nc P L ops R base nt w0 Z0 Z (l1 ++ (j, p, none) :: l2) done listed s pl a w)
    {o : Oper} (ho : ops[j]? = some o) (hl : lateAt ops j = true) {d : Nat} (hd : o.dst = some d) {v : Value} {obj : Obj} (hrun : (execOp a.eval o).run P w = .ok (.value v) (w.alloc obj)) (huq : ∀ i p' q, (i, p', q) ∈ l1 ++ (j, p, none) :: l2 → q ≠ none → i ≠ j) :
    ∃ Z', InvN nc P L ops R base nt w0 Z0 Z' (l1 ++ (j, p, some w.heap.size) :: l2) done (listed.setIfInBounds j true) s pl (a.put o.dst v) (w.alloc obj) := by
  have hlt := (Array.getElem?_eq_some_iff.1 ho).1
  have hm : (j, p, none) ∈ l1 ++ (j, p, none) :: l2 := List.mem_append.2 (.inr (List.mem_cons_self ..))
  have e : ∀ k, k < w.heap.size → (w.alloc obj).heap[k]? = w.heap[k]? := fun k hk => heap_push_old w obj k hk
  have hnew : (w.alloc obj).heap[w.heap.size]? = some obj := heap_alloc_new w obj
  have hsz : w.heap.size < (w.alloc obj).heap.size := lt_of_heap hnew
  have hsize : base ≤ w.heap.size := Nat.le_trans hbase I.since.1.size
  have hbl : ∀ c, c ∈ blocks (l1 ++ (j, p, none) :: l2) → c < w.heap.size := fun c hc => by
    obtain ⟨i, q, hq⟩ := mem_blocks.1 hc
    obtain ⟨_, _, _, _, _, _, _, _, _, _, h5, _⟩ := (I.pend i q c hq).run
    exact lt_of_heap h5
  have hnb : w.heap.size ∉ blocks (l1 ++ (j, p, none) :: l2) := fun h => by have := hbl _ h; omega
  have hz0 : Z0 w.heap.size := ((I.z _).1 (I.since.2.2.new _ (Nat.le_refl _))).1
  have hbs : ∀ c, c ∈ blocks (l1 ++ (j, p, some w.heap.size) :: l2) ↔ c ∈ blocks (l1 ++ (j, p, none) :: l2) ∨ c = w.heap.size := fun c => by
    rw [mem_blocks, mem_blocks]
    constructor
    · rintro ⟨i, q, h⟩
      rcases mem_setN h with h | h
      · exact .inl ⟨i, q, h⟩
      · cases h; exact .inr rfl
    · rintro (⟨i, q, h⟩ | rfl)
      · exact ⟨i, q, mem_setN' h⟩
      · exact ⟨j, p, List.mem_append.2 (.inr (List.mem_cons_self ..))⟩
  have hZ : ∀ c, (Z0 c ∧ c ∉ blocks (l1 ++ (j, p, some w.heap.size) :: l2)) ↔ Z c ∧ c ≠ w.heap.size := fun c => by
    rw [I.z c, hbs c, not_or, and_assoc]
  have hfr : ∀ c, free Z pl c → c < w.heap.size → free (fun c => Z0 c ∧ c ∉ blocks (l1 ++ (j, p, some w.heap.size) :: l2)) pl c ∧ (w.alloc obj).heap[c]? = w.heap[c]? := fun c hc hlt => ⟨⟨(hZ c).2 ⟨hc.1, by omega⟩, hc.2⟩, e c hlt⟩
  have htr : ∀ {d v}, RelV Z s.h pl w d v → RelV (fun c => Z0 c ∧ c ∉ blocks (l1 ++ (j, p, some w.heap.size) :: l2)) s.h pl (w.alloc obj) d v := fun hr => hr.trZ hfr (fun _ _ _ a b => ⟨a, b⟩) (fun l b q hp => e b (I.rel.o.lt hp).1)
  have T : Tr s.h pl w s.h pl (w.alloc obj) := Tr.ext I.rel.o e
  refine ⟨fun c => Z0 c ∧ c ∉ blocks (l1 ++ (j, p, some w.heap.size) :: l2), ?_, ?_, ?_, (I.marks.set hlt).same fun i => ?_, fun i q b h => ?_, fun i q u h hl => ?_, fun c => Iff.rfl, fun i q b h => ?_, blocks_set _ hnb I.nod, fun i q u h hli oi di hoi hdi => ?_, ⟨by rw [hd]; simp [Act.put, I.rel.nt], by rw [hd]; exact I.rel.defers, fun t => ?_, I.rel.o.trZ hfr e⟩, ⟨I.since.1.trans (below_alloc hsize obj), I.since.2.1.trans T, ⟨fun c hc => (hZ c).2 ⟨I.since.2.2.new c (by omega), by omega⟩, fun l c q e1 h0 => (hZ c).2 ⟨I.since.2.2.own l c q e1 h0, by have := (I.rel.o.lt e1).1; omega⟩⟩⟩, fun i q b h => ?_⟩
  · have := I.sched; simpa [pbN] using this
  · have := I.cover; simpa [idsN] using this
  · have := I.rnd; simpa [idsN] using this
  · simp only [List.mem_cons, List.mem_append, mem_early]
    constructor
    · rintro (rfl | ⟨q, b, h⟩ | h)
      · exact .inl ⟨p, _, .inr (.inl rfl)⟩
      · exact .inl ⟨q, b, by have := mem_setN' (b := w.heap.size) (List.mem_append.2 (h.imp id List.mem_cons.2)); simpa using this⟩
      · exact .inr h
    · rintro (⟨q, b, h⟩ | h)
      · rcases mem_setN (List.mem_append.2 (h.imp id List.mem_cons.2)) with h | h
        · exact .inr (.inl ⟨q, b, by simpa using h⟩)
        · cases h; exact .inl rfl
      · exact .inr (.inr h)
  · rcases mem_setN h with h | h
    · exact I.late i q b h
    · cases h; exact hl
  · rcases mem_setN h with h | h
    · exact I.lp i q u h hl
    · cases h; exact I.lp j p none hm hl
  · rcases mem_setN h with h | h
    · exact I.z0 i q b h
    · cases h; exact hz0
  · rcases mem_setN h with h | h
    · exact I.und i q u h hli oi di hoi hdi
    · cases h; exact I.und j p none hm hli oi di hoi hdi
  · by_cases ht : t = d
    · have := I.und j p none hm hl o d ho hd
      rw [ht, this]; exact .cl _ _ (.undef _)
    · rw [put_other (by rw [hd]; exact fun h => ht (Option.some.inj h).symm)]
      exact htr (I.rel.fr t)
  · rcases mem_setN h with h | h
    · refine (I.pend i q b h).step T v fun oi di hoi hdi => ?_
      exact hD i j oi o di (huq i q (some b) h (by simp)) (I.late i q b h) hoi ho hdi
    · cases h
      refine ⟨⟨o, d, w, a.eval, v, obj, ho, hd, hrun, rfl, hnew, fun hn => ?_⟩, fun l q e1 => ?_, I.since.1.size⟩
      · have : d < a.tmps.size := by rw [I.rel.nt]; exact hn
        simp [Act.put, hd, Array.getD_eq_getD_getElem?, this]
      · have := (I.rel.o.lt e1).1; omega

/-- Operations that are left are taken in whatever order the edges let. -/
def AXF (nc : List Nat) (P : Program) (base nt : Nat) (w0 : Start) (ops : Array Oper) (K : St → Prop) : Nat → List Nat → List Nat → St → Prop
  | 0, _, _, s => K s
  | n + 1, R, done, s => ∀ i ∈ R, ∀ o, ops[i]? = some o → heldB done o.after.toList = false → AX P base nt w0 (AXF nc P base nt w0 ops K n (R.erase i) (i :: done)) [(false, stripN (memB i nc) o, guardOf ops o)] s
/-- An order in which the edges let them be taken. -/
def topoB (ops : Array Oper) : List Nat → List Nat → Bool
  | [], _ => true
  | i :: r, done => (match ops[i]? with
    | some o => !heldB done o.after.toList
    | none => false) && topoB ops r (i :: done)
theorem heldB_mono {done done' : List Nat} (h : ∀ j ∈ done, j ∈ done') : ∀ {l : List Edge}, heldB done l = false → heldB done' l = false
  | [], _ => rfl
  | e :: r, hh => by
    simp only [heldB, Bool.or_eq_false_iff, Bool.and_eq_false_iff, Bool.not_eq_false'] at hh ⊢
    exact ⟨hh.1.imp id fun k => memB_iff.2 (h _ (memB_iff.1 k)), heldB_mono h hh.2⟩
theorem topoB_mono {ops : Array Oper} : ∀ {R done done' : List Nat}, (∀ j ∈ done, j ∈ done') → topoB ops R done = true → topoB ops R done' = true
  | [], _, _, _, _ => rfl
  | i :: r, done, done', h, hh => by
    simp only [topoB, Bool.and_eq_true] at hh ⊢
    refine ⟨?_, topoB_mono (fun j hj => by
      rcases List.mem_cons.1 hj with rfl | hj
      · exact List.mem_cons_self ..
      · exact List.mem_cons_of_mem _ (h j hj)) hh.2⟩
    have h1 := hh.1
    cases ho : ops[i]? with
    | none => rw [ho] at h1; cases h1
    | some o =>
      rw [ho] at h1
      simp only [Bool.not_eq_true'] at h1 ⊢
      exact heldB_mono h h1
theorem topoB_erase {ops : Array Oper} {j : Nat} : ∀ {R done : List Nat}, topoB ops R done = true → topoB ops (R.erase j) (j :: done) = true
  | [], _, _ => rfl
  | i :: r, done, h => by
    simp only [topoB, Bool.and_eq_true] at h
    by_cases hij : i = j
    · subst hij; rw [List.erase_cons_head]; exact h.2
    · rw [List.erase_cons_tail (by simpa using hij)]
      simp only [topoB, Bool.and_eq_true]
      refine ⟨?_, topoB_mono (fun k hk => ?_) (topoB_erase (j := j) h.2)⟩
      · have h1 := h.1
        cases ho : ops[i]? with
        | none => rw [ho] at h1; cases h1
        | some o =>
          rw [ho] at h1
          simp only [Bool.not_eq_true'] at h1 ⊢
          exact heldB_mono (fun k hk => List.mem_cons_of_mem _ hk) h1
      · simp only [List.mem_cons] at hk ⊢
        rcases hk with h1 | h1 | h1
        · exact .inr (.inl h1)
        · exact .inl h1
        · exact .inr (.inr h1)
theorem AX1_sound {ops : Array Oper} (hbase : base ≤ w0.w.heap.size) {F : St → Prop} {Z : Nat → Prop} {i : Nat} {o : Oper} (ho : ops[i]? = some o) {s : St} {pl : List Pl} {a : Act} {w : World} (r : Rel Z base nt s pl a w) (b : Since Z base w0 s.h pl w)
    (h : AX P base nt w0 F [(false, stripN (memB i nc) o, guardOf ops o)] s) : wpOp P ops (fun _ _ _ => False) i (fun a' w' => cmP nc ops i w w' ∧ ∃ s' pl', F s' ∧ Rel Z base nt s' pl' a' w' ∧ Since Z base w0 s'.h pl' w') a w := by
  have skip : ∀ (s1 : St), s1.h = s.h → Rel Z base nt s1 pl a w → wantedG (guardOf ops o) a.tmps = false → okO nt (stripN (memB i nc) o).dst = true → F ⟨putO s1.fr (stripN (memB i nc) o).dst (.raw Go.undef), s1.h⟩ → _ := fun s1 hh r1 hw ht hk => by
    have hy : YieldsIf P ops (fun _ : World => True) o Go.undef a := .inr ⟨by rw [wanted_iff]; exact hw, rfl⟩
    have hr2 : Rel Z base nt ⟨putO s1.fr o.dst (.raw Go.undef), s1.h⟩ pl (a.put o.dst Go.undef) w := r1.skip ht
    exact hy.wpOp (P := P) (Q := fun _ _ _ => False) (K := fun a' w' => cmP nc ops i w w' ∧ ∃ s' pl', F s' ∧ Rel Z base nt s' pl' a' w' ∧ Since Z base w0 s'.h pl' w') ho trivial ⟨by rw [cmP_at ho]; exact .ext (Ext.refl _), _, pl, hk, hr2, by rw [show (⟨putO s1.fr o.dst (.raw Go.undef), s1.h⟩ : St).h = s.h from hh]; exact b⟩
  have go : ∀ (s1 : St), s1.h = s.h → Rel Z base nt s1 pl a w → wantedG (guardOf ops o) a.tmps = true → AXo P base nt w0 false (stripN (memB i nc) o) F s1 → wpOp P ops (fun _ _ _ => False) i (fun a' w' => cmP nc ops i w w' ∧ ∃ s' pl', F s' ∧ Rel Z base nt s' pl' a' w' ∧ Since Z base w0 s'.h pl' w') a w := fun s1 hh r1 hw hk => by
    unfold wpOp
    simp only [ho, wanted_iff, hw, if_true]
    refine .inl ?_
    have := hk.ae hbase Z trivial pl a w r1 (by rw [hh]; exact b)
    rw [wp_stripN] at this
    refine Oper.wp_mono (fun a' w' hq => ?_) this
    obtain ⟨he, d, h', pl', v, hF, r', b', T, rfl⟩ := hq
    exact ⟨by rw [cmP_at ho]; exact he, _, pl', hF, r', b'⟩
  simp only [AX] at h
  split at h
  · rename_i hg; exact go s rfl r (by rw [hg]; rfl) h
  · rename_i x hg; exact skip s rfl r (by rw [hg]; rfl) h.1 h.2
  · rename_i t x hg
    split at h
    · rename_i y hy
      have hr := r.fr t
      rw [hy] at hr
      have hv := inv_raw hr
      have hb := boolAt_of hv
      by_cases hxy : y = x
      · refine go ⟨put s.fr t (.raw (.bool x)), s.h⟩ rfl (r.tell (t := t) (d := .raw (.bool x)) (by rw [hv, hxy]; exact .cl _ _ (.raw _))) ?_ (h.1 hxy)
        rw [hg]; simp [wantedG, hb, hxy]
      · have hxn : y = (!x) := by cases x <;> cases y <;> simp_all
        have := h.2 hxn
        refine skip ⟨put s.fr t (.raw (.bool !x)), s.h⟩ rfl (r.tell (t := t) (d := .raw (.bool (!x))) (by rw [hv, hxn]; exact .cl _ _ (.raw _))) ?_ this.1 this.2
        rw [hg]; simp [wantedG, hb, hxy]
    · rename_i vs hy
      have hr := r.fr t
      rw [hy] at hr
      refine skip s rfl r ?_ h.1 h.2
      rw [hg]
      simp [wantedG, boolAt_tuple (inv_raw hr)]
    · exact h.elim
theorem AXF_sound {ops : Array Oper} {K : St → Prop} (hbase : base ≤ w0.w.heap.size) {Z : Nat → Prop} : ∀ (n : Nat) (R done : List Nat) (listed : Array Bool) (s : St) (pl : List Pl) (a : Act) (w : World), R.length = n → Marks ops listed done → (∀ j, j < ops.size → j ∉ done → j ∈ R) → (∀ j ∈ R, j ∉ done) → R.Nodup → topoB ops R done = true →
    Rel Z base nt s pl a w → Since Z base w0 s.h pl w → AXF nc P base nt w0 ops K n R done s → wpAnyE P ops (fun a w => ∃ s pl, K s ∧ Rel Z base nt s pl a w ∧ Since Z base w0 s.h pl w) (cmP nc ops) n listed a w
  | 0, R, done, listed, s, pl, a, w, hl, M, hc, hn, hd, ht, r, b, h => by
    have : R = [] := List.length_eq_zero_iff.1 hl
    subst this
    refine ⟨List.eq_nil_iff_forall_not_mem.2 fun j hj => ?_, s, pl, h, r, b⟩
    obtain ⟨h1, o, ho, _⟩ := mem_ready.1 hj
    have hlt := (Array.getElem?_eq_some_iff.1 ho).1
    have := hc j hlt ((M.get j hlt).1 h1)
    cases this
  | n + 1, R, done, listed, s, pl, a, w, hl, M, hc, hn, hd, ht, r, b, h => by
    have ready : ∀ j o, ops[j]? = some o → j ∉ done → heldB done o.after.toList = false → j ∈ Region.ready .any ops listed := fun j o ho hj hh => by
      have hlt := (Array.getElem?_eq_some_iff.1 ho).1
      exact mem_ready.2 ⟨(M.get j hlt).2 hj, o, ho, fun e he hb => (M.get' e.on).2 ⟨heldB_not hh e (by simpa using he) hb, M.lt _ (heldB_not hh e (by simpa using he) hb)⟩⟩
    refine ⟨fun e => ?_, fun j hj => ?_⟩
    · cases R with
      | nil => cases hl
      | cons i rr =>
        simp only [topoB, Bool.and_eq_true] at ht
        have h1 := ht.1
        split at h1
        · rename_i o ho
          have := ready i o ho (hn i (List.mem_cons_self ..)) (by simpa using h1)
          rw [e] at this; cases this
        · cases h1
    · obtain ⟨h1, o, ho, hall⟩ := mem_ready.1 hj
      have hlt := (Array.getElem?_eq_some_iff.1 ho).1
      have hjd := (M.get j hlt).1 h1
      have hjR := hc j hlt hjd
      have hh : heldB done o.after.toList = false := by
        cases hb : heldB done o.after.toList
        · rfl
        · obtain ⟨e, he, hbi, hon⟩ := heldB_ok hb
          exact absurd ((M.get' e.on).1 (hall e (by simpa using he) hbi)).1 hon
      refine wpOp_mono (fun a' w' h3 => ?_) (AX1_sound hbase ho r b (h j hjR o ho hh))
      obtain ⟨h4, s', pl', hF, r', b'⟩ := h3
      refine ⟨h4, AXF_sound hbase n (R.erase j) (j :: done) (listed.setIfInBounds j true) s' pl' a' w' (by rw [List.length_erase_of_mem hjR, hl]; rfl) (M.set hlt) (fun k hk hkd => ?_) (fun k hk hkd => ?_) (hd.erase _) (topoB_erase ht) r' b' hF⟩
      · simp only [List.mem_cons, not_or] at hkd
        exact (List.mem_erase_of_ne hkd.1).2 (hc k hk hkd.2)
      · have hkR := List.mem_of_mem_erase hk
        rcases List.mem_cons.1 hkd with rfl | h5
        · exact (hd.not_mem_erase) hk
        · exact hn k hkR h5
theorem AX_soundN {L : Lay} (hLay : LayOk P L) {ops : Array Oper} {R D0 : List Nat} {K : St → Prop} (hsel : Region.noSelect ops = true) (hbase : base ≤ w0.w.heap.size) (hD : Dst1 ops) (hL : ∀ j o, ops[j]? = some o → lateAt ops j = true → (∃ ob mk, LateOk P o ob mk) ∧ ∃ d, o.dst = some d) {Z0 : Nat → Prop} (hRn : R.Nodup) (hRt : topoB ops R D0 = true) :
    ∀ (m : Nat) (l : List En) (done : List Nat) (listed : Array Bool) (s : St) (pl : List Pl) (a : Act) (w : World) (Z : Nat → Prop), l.length + cntN l ≤ m → InvN nc P L ops R base nt w0 Z0 Z l done listed s pl a w → (∀ j, j ∈ D0 ↔ j ∈ idsN l ∨ j ∈ done) → AX P base nt w0 (AXF nc P base nt w0 ops K R.length R D0) (pickO nc ops (pbN l)) s →
      wpAnyE P ops (fun a w => ∃ s pl, K s ∧ Rel Z0 base nt s pl a w ∧ Since Z0 base w0 s.h pl w) (cmP nc ops) (R.length + cntN l) listed a w := by
  intro m
  induction m with
  | zero =>
    intro l done listed s pl a w Z hm I hD0 h
    cases l with
    | cons x r => simp at hm
    | nil =>
      have hZ : Z = Z0 := funext fun b => propext (by rw [I.z b]; simp [blocks])
      subst hZ
      have hD1 : ∀ j, j ∈ D0 ↔ j ∈ done := fun j => by rw [hD0 j]; simp [idsN]
      refine AXF_sound hbase R.length R D0 listed s pl a w rfl (I.marks.same fun j => by rw [hD1 j]; simp [early]) (fun j hj hd => ?_) (fun j hj => by rw [hD1 j]; exact (I.rnd j hj).1) hRn hRt I.rel I.since h
      have := I.cover j hj (fun h => hd ((hD1 j).2 h))
      simpa [idsN] using this
  | succ m ih =>
    intro l done listed s pl a w Z hm I hD0 h
    cases l with
    | nil =>
      have hZ : Z = Z0 := funext fun b => propext (by rw [I.z b]; simp [blocks])
      subst hZ
      have hD1 : ∀ j, j ∈ D0 ↔ j ∈ done := fun j => by rw [hD0 j]; simp [idsN]
      refine AXF_sound hbase R.length R D0 listed s pl a w rfl (I.marks.same fun j => by rw [hD1 j]; simp [early]) (fun j hj hd => ?_) (fun j hj => by rw [hD1 j]; exact (I.rnd j hj).1) hRn hRt I.rel I.since h
      have := I.cover j hj (fun h => hd ((hD1 j).2 h))
      simpa [idsN] using this
    | cons x r =>
      obtain ⟨i, p, q⟩ := x
      obtain ⟨o, ho, hnd, hedge, hpure, halone, hrest⟩ := I.head
      have hlt := (Array.getElem?_eq_some_iff.1 ho).1
      have hgo : pickO nc ops (pbN ((i, p, q) :: r)) = (p, stripN (memB i nc) o, guardOf ops o) :: pickO nc ops (pbN r) := by simp [pickO, pbN, ho]
      rw [hgo] at h
      have hea : ∀ j ∈ early ((i, p, q) :: r), lateAt ops j = true := fun j hj => by obtain ⟨p', b, hb⟩ := mem_early.1 hj; exact I.late j p' b hb
      have hne : ∀ j p q, (j, p, q) ∈ r → j ≠ i := fun j p q hj e => schedN_not hrest j (mem_ids hj) (by rw [e]; simp)
      have hD2 : ∀ j, j ∈ D0 ↔ j ∈ idsN r ∨ j ∈ i :: done := fun j => by
        rw [hD0 j]
        simp only [idsN, List.map_cons, List.mem_cons]
        constructor
        · rintro ((h | h) | h)
          · exact .inr (.inl h)
          · exact .inl h
          · exact .inr (.inr h)
        · rintro (h | h | h)
          · exact .inl (.inr h)
          · exact .inl (.inl h)
          · exact .inr h
      cases q with
      | some b =>
        have hli := I.late i p b (List.mem_cons_self ..)
        obtain ⟨g1, g2, _⟩ := lateAt_spec ho hli
        have hp := I.lp i p _ (List.mem_cons_self ..) hli
        subst hp
        have hg : guardOf ops o = none := by simp [guardOf, g2]
        rw [hg] at h
        simp only [AX, AXo] at h
        rw [show lateT (stripN (memB i nc) o) = true from g1] at h
        obtain ⟨ob, mk, h1, h2, h3⟩ := h
        obtain ⟨Z', I'⟩ := I.adopt hD hbase ho (show LateOk P o ob mk from h1) h2
        have := ih r (i :: done) listed _ _ a w Z' (by simp only [List.length_cons, cntN] at hm; omega) I' hD2 h3
        exact this
      | none =>
        have hni : i ∉ early ((i, p, none) :: r) ++ done := fun hm => by
          rcases List.mem_append.1 hm with h1 | h1
          · obtain ⟨p', b, hb⟩ := mem_early.1 h1
            rcases List.mem_cons.1 hb with h2 | h2
            · cases h2
            · exact hne _ _ _ h2 rfl
          · exact hnd h1
        have hready : i ∈ Region.ready .any ops listed := mem_ready.2 ⟨(I.marks.get i hlt).2 hni, o, ho, fun e he hb => (I.marks.get' e.on).2 ⟨List.mem_append.2 (.inr (hedge e he hb)), I.marks.lt _ (List.mem_append.2 (.inr (hedge e he hb)))⟩⟩
        have hm' : r.length + cntN r ≤ m := by simp only [List.length_cons, cntN] at hm; omega
        -- passed over, or a value that looks at no more than what stands
        have first : p = true → ∀ (s1 : St) (v : Value), s1.h = s.h → YieldsIf P ops (fun w' => (still L o = true ∨ Ext w w') ∨ (loadB o = true ∧ ExtC w w')) o v a →
            Rel Z base nt s1 pl (a.put o.dst v) w → (∀ d, o.dst ≠ some d → get s.fr d = .undef → get s1.fr d = .undef) → AX P base nt w0 (AXF nc P base nt w0 ops K R.length R D0) (pickO nc ops (pbN r)) s1 → wpAnyE P ops (fun a w => ∃ s pl, K s ∧ Rel Z0 base nt s pl a w ∧ Since Z0 base w0 s.h pl w) (cmP nc ops) (R.length + cntN r + 1) listed a w := by
          intro hp s1 v hh hy hr hu hk
          have I' := I.next hD ho v (s' := s1) (by rw [hh]; exact Tr.refl _ _ _) hr (by rw [hh]; exact I.since) hu
          have hrec := ih r (i :: done) (listed.setIfInBounds i true) s1 pl (a.put o.dst v) w Z hm' I' hD2 hk
          refine wpAnyE_first (fun w => by rw [cmP_at ho]; exact .ext (Ext.refl _)) ho (Region.noSelect_spec hsel) _ listed a w (.inl (.inr (Ext.refl _))) (fun j oj hj hji hu' => ?_) hready hy hrec
          have hjlt := (Array.getElem?_eq_some_iff.1 hj).1
          have hjn := (I.marks.get j hjlt).1 hu'
          have hjr := I.cover j hjlt fun hd => hjn (List.mem_append.2 (.inr hd))
          simp only [idsN, List.map_cons, List.mem_cons] at hjr
          have hin : ∃ y ∈ (pbN r).map (fun ip => (ip.1, ip.2, ops[ip.1]?)) ++ tailN ops R, y.1 = j ∧ y.2.2 = ops[j]? := by
            rcases hjr with (h | h) | h
            · exact absurd h hji
            · obtain ⟨y, hy1, hy2⟩ := List.mem_map.1 h
              exact ⟨(y.1, y.2.1, ops[y.1]?), List.mem_append.2 (.inl (List.mem_map.2 ⟨(y.1, y.2.1), List.mem_map.2 ⟨y, hy1, rfl⟩, rfl⟩)), hy2, by rw [hy2]⟩
            · exact ⟨(j, false, ops[j]?), List.mem_append.2 (.inr (List.mem_map.2 ⟨j, h, rfl⟩)), rfl, rfl⟩
          obtain ⟨y, hy1, hy2, hy3⟩ := hin
          have := pureB_okN I.marks hea (r := (pbN r).map (fun ip => (ip.1, ip.2, ops[ip.1]?)) ++ tailN ops R) (fun x hx => by
            rcases List.mem_append.1 hx with hx | hx
            · obtain ⟨z, _, rfl⟩ := List.mem_map.1 hx; rfl
            · obtain ⟨z, _, rfl⟩ := List.mem_map.1 hx; rfl) (hpure hp).2 y hy1 oj (by rw [hy2]; exact hj)
          rw [hy2] at this
          refine this.imp id fun h => ⟨fun w1 w2 hc hs => ?_, h.2⟩
          rw [cmP_at hj] at hc
          rcases h.1 with (h1 | h1) | h1
          · have he := hc.calm (by rw [calmS_strip]; simp [h1.1, h1.2])
            rcases hs with (hs | hs) | hs
            · exact .inl (.inl hs)
            · exact .inl (.inr (hs.trans he))
            · exact .inr ⟨hs.1, hs.2.trans (.ext he)⟩
          · exact .inl (.inl h1)
          · have he := hc.ins (by simpa [insB, stripN] using h1.2)
            rcases hs with (hs | hs) | hs
            · exact .inl (.inl hs)
            · exact .inr ⟨h1.1, (ExtC.ext hs).trans he⟩
            · exact .inr ⟨hs.1, hs.2.trans he⟩
        -- taken when nothing else may come up but what makes new objects
        have alone : p = false → wpOp P ops (fun _ _ _ => False) i (fun a' w' => cmP nc ops i w w' ∧ wpAnyE P ops (fun a w => ∃ s pl, K s ∧ Rel Z0 base nt s pl a w ∧ Since Z0 base w0 s.h pl w) (cmP nc ops) (R.length + cntN r) (listed.setIfInBounds i true) a' w') a w →
            wpAnyE P ops (fun a w => ∃ s pl, K s ∧ Rel Z0 base nt s pl a w ∧ Since Z0 base w0 s.h pl w) (cmP nc ops) (R.length + cntN r + 1) listed a w := by
          intro hp hi
          refine ⟨fun e => (by rw [e] at hready; cases hready), fun j hj => ?_⟩
          by_cases hji : j = i
          · subst hji; exact hi
          · obtain ⟨hjun, oj, hoj, hall⟩ := mem_ready.1 hj
            have hjlt := (Array.getElem?_eq_some_iff.1 hoj).1
            have hjn := (I.marks.get j hjlt).1 hjun
            have hjr := I.cover j hjlt fun hd => hjn (List.mem_append.2 (.inr hd))
            simp only [idsN, List.map_cons, List.mem_cons] at hjr
            have hall2 := fun x hx => aloneN_ok (r := (pbN r).map (fun ip => (ip.1, ip.2, ops[ip.1]?)) ++ tailN ops R) (fun x hx => by
              rcases List.mem_append.1 hx with hx | hx
              · obtain ⟨z, _, rfl⟩ := List.mem_map.1 hx; rfl
              · obtain ⟨z, _, rfl⟩ := List.mem_map.1 hx; rfl) (halone hp) x hx
            have held : heldN ops done i oj.after.toList = true → False := fun h1 => by
              obtain ⟨e, he, hb, hon, hln⟩ := heldN_ok h1
              have h2 := ((I.marks.get' e.on).1 (hall e (by simpa using he) hb)).1
              rcases List.mem_append.1 h2 with h3 | h3
              · rcases hln with h4 | h4
                · rw [hea _ h3] at h4; cases h4
                · exact hni (List.mem_append.2 (.inl (by rw [← h4]; exact h3)))
              · exact hon h3
            have hjR : j ∉ R := fun h => by
              rcases hall2 (j, false, ops[j]?) (List.mem_append.2 (.inr (List.mem_map.2 ⟨j, h, rfl⟩))) oj hoj with h1 | h1
              · have h9 : lateAt ops j = true := h1
                rw [(I.rnd j h).2.2] at h9; cases h9
              · exact held h1
            obtain ⟨y, hy1, hy2⟩ := List.mem_map.1 ((hjr.resolve_right hjR).resolve_left hji)
            obtain ⟨j', pj, qj⟩ := y
            obtain rfl : j' = j := hy2
            have hqj : qj = none := by
              cases qj with
              | none => rfl
              | some b => exact absurd (List.mem_append.2 (.inl (mem_early.2 ⟨pj, b, List.mem_cons_of_mem _ hy1⟩))) hjn
            subst hqj
            have hlate : lateAt ops j' = true := by
              rcases hall2 (j', pj, ops[j']?) (List.mem_append.2 (.inl (List.mem_map.2 ⟨(j', pj), List.mem_map.2 ⟨_, hy1, rfl⟩, rfl⟩))) oj hoj with h1 | h1
              · exact h1
              · exact (held h1).elim
            obtain ⟨g1, g2, _⟩ := lateAt_spec hoj hlate
            obtain ⟨⟨ob, mk, obj, val, k1, _⟩, d, hd⟩ := hL j' oj hoj hlate
            obtain ⟨r1, r2, hr⟩ := List.append_of_mem hy1
            have hl : (i, p, none) :: r = ((i, p, none) :: r1) ++ (j', pj, none) :: r2 := by rw [hr]; rfl
            have I0 := I
            rw [hl] at I0
            obtain ⟨Z', I'⟩ := I0.exec hD hbase hoj hlate hd (k1 a.eval w) (fun i' p' q' hm hq e => by
              subst e
              rw [← hl] at hm
              cases q' with
              | none => exact hq rfl
              | some b => exact hjn (List.mem_append.2 (.inl (mem_early.2 ⟨p', b, hm⟩))))
            have hc : cntN r = cntN (((i, p, none) :: r1) ++ (j', pj, some w.heap.size) :: r2) := by
              have := cntN_set (j := j') (p := pj) (b := w.heap.size) (l2 := r2) ((i, p, none) :: r1)
              rw [← hl] at this
              simp only [cntN] at this
              omega
            have hpb : pbN (((i, p, none) :: r1) ++ (j', pj, some w.heap.size) :: r2) = pbN ((i, p, none) :: r) := by rw [hl]; simp [pbN]
            have hrec := ih _ done (listed.setIfInBounds j' true) s pl (a.put oj.dst (val w.heap.size)) (w.alloc obj) Z' (by
              have h1 : (((i, p, none) :: r1) ++ (j', pj, some w.heap.size) :: r2).length = r.length + 1 := by rw [hr]; simp
              have h2 : r.length + 1 + (cntN r + 1) ≤ m + 1 := hm
              rw [h1, ← hc]; omega) I' (fun k => by rw [hD0 k]; rw [hl]; simp [idsN]) (by rw [hpb, hgo]; exact h)
            rw [← hc] at hrec
            unfold wpOp
            simp only [hoj]
            have hw : Region.wanted oj (yielded ops a.tmps) = true := by simp [Region.wanted, g2]
            rw [if_pos hw]
            refine .inl ?_
            unfold Oper.wp
            rw [k1 a.eval w]
            simp only [Oper.upon_value]
            exact ⟨by rw [cmP_at hoj]; exact .ext fun k hk => heap_push_old w obj k hk, hrec⟩
        have skip : ∀ (s1 : St), s1.h = s.h → Rel Z base nt s1 pl a w → (∀ d, get s.fr d = .undef → get s1.fr d = .undef) → wantedG (guardOf ops o) a.tmps = false → okO nt (stripN (memB i nc) o).dst = true → AX P base nt w0 (AXF nc P base nt w0 ops K R.length R D0) (pickO nc ops (pbN r)) ⟨putO s1.fr (stripN (memB i nc) o).dst (.raw Go.undef), s1.h⟩ →
            wpAnyE P ops (fun a w => ∃ s pl, K s ∧ Rel Z0 base nt s pl a w ∧ Since Z0 base w0 s.h pl w) (cmP nc ops) (R.length + cntN r + 1) listed a w := by
          intro s1 hh r1 hu hw ht hk
          have hy : YieldsIf P ops (fun w' => (still L o = true ∨ Ext w w') ∨ (loadB o = true ∧ ExtC w w')) o Go.undef a := .inr ⟨by rw [wanted_iff]; exact hw, rfl⟩
          have hr2 : Rel Z base nt ⟨putO s1.fr o.dst (.raw Go.undef), s1.h⟩ pl (a.put o.dst Go.undef) w := r1.skip ht
          have hu2 : ∀ d, o.dst ≠ some d → get s.fr d = .undef → get (putO s1.fr o.dst (.raw Go.undef)) d = .undef := fun d hd h => by rw [get_putO_other hd]; exact hu d h
          cases p with
          | true => exact first rfl ⟨putO s1.fr o.dst (.raw Go.undef), s1.h⟩ Go.undef hh hy hr2 hu2 hk
          | false =>
            refine alone rfl (hy.wpOp ho (.inl (.inr (Ext.refl _))) ⟨by rw [cmP_at ho]; exact .ext (Ext.refl _), ?_⟩)
            have I' := I.next hD ho Go.undef (s' := ⟨putO s1.fr o.dst (.raw Go.undef), s1.h⟩) (by rw [show (⟨putO s1.fr o.dst (.raw Go.undef), s1.h⟩ : St).h = s.h from hh]; exact Tr.refl _ _ _) hr2 (by rw [show (⟨putO s1.fr o.dst (.raw Go.undef), s1.h⟩ : St).h = s.h from hh]; exact I.since) hu2
            exact ih r (i :: done) _ _ pl _ w Z hm' I' hD2 hk
        have go : ∀ (s1 : St), s1.h = s.h → Rel Z base nt s1 pl a w → (∀ d, get s.fr d = .undef → get s1.fr d = .undef) → wantedG (guardOf ops o) a.tmps = true → AXo P base nt w0 p (stripN (memB i nc) o) (AX P base nt w0 (AXF nc P base nt w0 ops K R.length R D0) (pickO nc ops (pbN r))) s1 →
            wpAnyE P ops (fun a w => ∃ s pl, K s ∧ Rel Z0 base nt s pl a w ∧ Since Z0 base w0 s.h pl w) (cmP nc ops) (R.length + cntN r + 1) listed a w := by
          intro s1 hh r1 hu hw hk
          cases p with
          | true =>
            obtain ⟨d, hpo, hpc, ht, hk⟩ := hk
            have hall : ∃ v, RelV Z s1.h pl w d v ∧ (∀ w' : World, (∀ b, b < w.heap.size → w'.heap[b]? = w.heap[b]?) → (execOp a.eval o).run P w' = .ok (.value v) w') ∧ (loadB o = true → ∀ w' : World, ExtC w w' → (execOp a.eval o).run P w' = .ok (.value v) w') := by
              cases hlb : loadB o
              · obtain ⟨v, hv, hrun⟩ := hpo Z pl a w r1
                exact ⟨v, hv, hrun, fun h => by cases h⟩
              · obtain ⟨v, hv, hrun⟩ := hpc (by simpa [loadB, stripN] using hlb) Z pl a w r1
                exact ⟨v, hv, fun w' he => hrun w' (.ext he), fun _ => hrun⟩
            obtain ⟨v, hv, hrun, hrunC⟩ := hall
            have hy : YieldsIf P ops (fun w' => (still L o = true ∨ Ext w w') ∨ (loadB o = true ∧ ExtC w w')) o v a := .inl ⟨by rw [wanted_iff]; exact hw, fun w' he => he.elim (fun he => he.elim (fun hs => still_run hLay hs (hrun w fun _ _ => rfl) w') (fun he => hrun w' he)) (fun he => hrunC he.1 w' he.2)⟩
            have r2 : Rel Z base nt ⟨putO s1.fr o.dst d, s1.h⟩ pl (a.put o.dst v) w := by
              cases hd : o.dst with
              | none => exact r1
              | some t => have ht : okO nt o.dst = true := ht; rw [hd] at ht; exact r1.to (Tr.ext r1.o fun _ _ => rfl) r1.o (okO_lt ht) hv
            exact first rfl ⟨putO s1.fr o.dst d, s1.h⟩ v hh hy r2 (fun d' hd h => by rw [get_putO_other hd]; exact hu d' h) hk
          | false =>
            refine alone rfl ?_
            unfold wpOp
            simp only [ho, wanted_iff, hw, if_true]
            refine .inl ?_
            have := hk.ae hbase Z trivial pl a w r1 (by rw [hh]; exact I.since)
            rw [wp_stripN] at this
            refine Oper.wp_mono (fun a' w' hq => ?_) this
            obtain ⟨he, d, h', pl', v, hF, r', b', T, rfl⟩ := hq
            refine ⟨by rw [cmP_at ho]; exact he, ?_⟩
            have I' := I.next hD ho v (s' := ⟨putO s1.fr o.dst d, h'⟩) (by rw [hh] at T; exact T) r' b' (fun d' hd h => by rw [get_putO_other hd]; exact hu d' h)
            exact ih r (i :: done) _ _ pl' _ w' Z hm' I' hD2 hF
        show wpAnyE P ops _ (cmP nc ops) (R.length + cntN r + 1) listed a w
        simp only [AX] at h
        split at h
        · rename_i hg; exact go s rfl I.rel (fun _ h => h) (by rw [hg]; rfl) h
        · rename_i x hg; exact skip s rfl I.rel (fun _ h => h) (by rw [hg]; rfl) h.1 h.2
        · rename_i t x hg
          split at h
          · rename_i y hy
            have hr := I.rel.fr t
            rw [hy] at hr
            have hv := inv_raw hr
            have hb := boolAt_of hv
            have hun : ∀ (e : D) d, get s.fr d = .undef → get (put s.fr t e) d = .undef := fun e d h => by
              rw [get_put, if_neg (fun e => by rw [e, hy] at h; cases h)]; exact h
            by_cases hxy : y = x
            · refine go ⟨put s.fr t (.raw (.bool x)), s.h⟩ rfl (I.rel.tell (t := t) (d := .raw (.bool x)) (by rw [hv, hxy]; exact .cl _ _ (.raw _))) (hun _) ?_ (h.1 hxy)
              rw [hg]; simp [wantedG, hb, hxy]
            · have hxn : y = (!x) := by cases x <;> cases y <;> simp_all
              have := h.2 hxn
              refine skip ⟨put s.fr t (.raw (.bool !x)), s.h⟩ rfl (I.rel.tell (t := t) (d := .raw (.bool (!x))) (by rw [hv, hxn]; exact .cl _ _ (.raw _))) (hun _) ?_ this.1 this.2
              rw [hg]; simp [wantedG, hb, hxy]
          · rename_i vs hy
            have hr := I.rel.fr t
            rw [hy] at hr
            refine skip s rfl I.rel (fun _ h => h) ?_ h.1 h.2
            rw [hg]
            simp [wantedG, boolAt_tuple (inv_raw hr)]
          · exact h.elim

def dneB : Option Nat → Option Nat → Bool
  | some a, some b => !Nat.beq a b
  | _, _ => true
def dstB (ops : Array Oper) : Bool := (List.range ops.size).all fun i => !lateAt ops i || (List.range ops.size).all fun j => Nat.beq i j || dneB ((ops[i]?).bind (·.dst)) ((ops[j]?).bind (·.dst))
def isUndef : D → Bool
  | .undef => true
  | _ => false
def undB (ops : Array Oper) (fr : List (Nat × D)) : Bool := (List.range ops.size).all fun i => !lateAt ops i || (match (ops[i]?).bind (·.dst) with | some d => isUndef (get fr d) | none => true)
def lateTyB (L : Lay) (ops : Array Oper) : Bool := ops.toList.all fun o => match o.op with
  | .alloc t => (ty L t).isSome && o.dst.isSome
  | .makeMap _ none => o.dst.isSome
  | _ => true
def leftB (ops : Array Oper) (l : List (Nat × Bool)) : List Nat → Bool
  | [] => true
  | i :: r => !memB i r && !memB i (l.map (·.1)) && !lateAt ops i && leftB ops l r
theorem leftB_ok {ops : Array Oper} {l : List (Nat × Bool)} : ∀ {R : List Nat}, leftB ops l R = true → R.Nodup ∧ ∀ i ∈ R, i ∉ l.map (·.1) ∧ lateAt ops i = false
  | [], _ => ⟨List.nodup_nil, by simp⟩
  | i :: r, h => by
    simp only [leftB, Bool.and_eq_true, Bool.not_eq_true'] at h
    obtain ⟨⟨⟨h1, h2⟩, h3⟩, h4⟩ := h
    obtain ⟨k1, k2⟩ := leftB_ok h4
    refine ⟨List.nodup_cons.2 ⟨fun hm => (by rw [memB_iff.2 hm] at h1; cases h1), k1⟩, fun j hj => ?_⟩
    rcases List.mem_cons.1 hj with rfl | hj
    · exact ⟨fun hm => (by rw [memB_iff.2 hm] at h2; cases h2), h3⟩
    · exact k2 j hj
def orderF (nc : List Nat) (L : Lay) (ops : Array Oper) (l : List (Nat × Bool)) (R : List Nat) : Bool := Region.noSelect ops && Nat.beq (R.length + l.length) ops.size && coverB (l.map (·.1) ++ R) ops.size && schedN nc L ops R (l.map fun ip => (ip.1, ip.2, ops[ip.1]?)) [] && dstB ops && lateTyB L ops && leftB ops l R && topoB ops R (l.map (·.1))
def orderN (L : Lay) (ops : Array Oper) (l : List (Nat × Bool)) : Bool := orderF [] L ops l []
theorem dstB_ok {ops : Array Oper} (h : dstB ops = true) : Dst1 ops := by
  intro i j oi oj d hij hl hi hj hd hd'
  have h1 := List.all_eq_true.1 h i (List.mem_range.2 (Array.getElem?_eq_some_iff.1 hi).1)
  rw [hl, Bool.not_true, Bool.false_or] at h1
  have h2 := List.all_eq_true.1 h1 j (List.mem_range.2 (Array.getElem?_eq_some_iff.1 hj).1)
  simp only [hi, hj, Option.bind_some, hd, hd', dneB, Nat.beq_refl, Bool.not_true, Bool.or_false, Nat.beq_eq] at h2
  exact hij h2
theorem undB_ok {ops : Array Oper} {fr : List (Nat × D)} (h : undB ops fr = true) : ∀ i o d, lateAt ops i = true → ops[i]? = some o → o.dst = some d → get fr d = .undef := by
  intro i o d hl hi hd
  have h1 := List.all_eq_true.1 h i (List.mem_range.2 (Array.getElem?_eq_some_iff.1 hi).1)
  rw [hl] at h1
  simp only [Bool.not_true, Bool.false_or, hi, Option.bind_some, hd] at h1
  unfold isUndef at h1
  split at h1
  · assumption
  · cases h1
theorem lateTyB_ok {P : Program} {L : Lay} (hL : LayOk P L) {ops : Array Oper} (h : lateTyB L ops = true) : ∀ j o, ops[j]? = some o → lateAt ops j = true → (∃ ob mk, LateOk P o ob mk) ∧ ∃ d, o.dst = some d := by
  intro j o hj hl
  have h1 := (lateAt_spec hj hl).1
  have hm : o ∈ ops.toList := by have := Array.mem_of_getElem? hj; simpa using this
  have h2 := List.all_eq_true.1 h o hm
  unfold lateT at h1
  cases ho : o.op <;> rw [ho] at h1 h2 <;> first | cases h1 | skip
  · rename_i t
    simp only [Bool.and_eq_true] at h2
    obtain ⟨y, hy⟩ := Option.isSome_iff_exists.1 h2.1
    exact ⟨⟨_, _, late_alloc hL ho hy⟩, Option.isSome_iff_exists.1 h2.2⟩
  · rename_i t rz
    cases rz with
    | some x => cases h1
    | none => exact ⟨⟨_, _, late_make ho .i64⟩, Option.isSome_iff_exists.1 h2⟩
theorem schedN_lp {L : Lay} {ops : Array Oper} {R : List Nat} : ∀ {l : List (Nat × Bool)} {done : List Nat}, schedN nc L ops R (l.map fun ip => (ip.1, ip.2, ops[ip.1]?)) done = true → ∀ i p, (i, p) ∈ l → lateAt ops i = true → p = false
  | [], _, _, _, _, h, _ => by cases h
  | (j, q) :: r, done, h, i, p, hm, hl => by
    simp only [List.map_cons] at h
    cases ho : ops[j]? with
    | none => rw [ho] at h; cases h
    | some o =>
      rw [ho] at h
      simp only [schedN, Bool.and_eq_true, Bool.not_eq_true'] at h
      rcases List.mem_cons.1 hm with h1 | h1
      · cases h1
        cases q with
        | false => rfl
        | true => have := h.1.2; simp only [Bool.and_eq_true, Bool.not_eq_true', hl] at this; cases this.1
      · exact schedN_lp h.2 i p h1 hl
def startN (l : List (Nat × Bool)) : List En := l.map fun x => (x.1, x.2, none)
theorem startN_pb : ∀ l : List (Nat × Bool), pbN (startN l) = l
  | [] => rfl
  | x :: r => congrArg (x :: ·) (startN_pb r)
theorem startN_early : ∀ l, early (startN l) = []
  | [] => rfl
  | (_, _) :: r => startN_early r
theorem startN_blocks : ∀ l, blocks (startN l) = []
  | [] => rfl
  | (_, _) :: r => startN_blocks r
theorem startN_cnt : ∀ l, cntN (startN l) = l.length
  | [] => rfl
  | (_, _) :: r => by show cntN (startN r) + 1 = _; rw [startN_cnt r]; rfl
theorem startN_mem {l : List (Nat × Bool)} {i : Nat} {p : Bool} {q : Option Nat} (h : (i, p, q) ∈ startN l) : (i, p) ∈ l ∧ q = none := by
  obtain ⟨x, hx, e⟩ := List.mem_map.1 h
  cases e; exact ⟨hx, rfl⟩
theorem A_anyF {L : Lay} (hL : LayOk P L) (hbase : base ≤ w0.w.heap.size) {id : Nat} {ops : Array Oper} {Q : Exit → St → Prop} {s : St} (hm : P.follows .mixedOrders = true) (l : List (Nat × Bool)) (R : List Nat) (hB : orderF nc L ops l R = true) (hU : undB ops s.fr = true) (h : AX P base nt w0 (AXF nc P base nt w0 ops (fun s => Q .normal s) R.length R (l.map (·.1))) (pickO nc ops l) s) : A P base nt w0 (.region id ops true) Q s := by
  intro Z z pl a w r b
  simp only [orderF, Bool.and_eq_true] at hB
  obtain ⟨⟨⟨⟨⟨⟨⟨b1, b2⟩, b3⟩, b4⟩, b5⟩, b6⟩, b7⟩, b8⟩ := hB
  obtain ⟨c1, c2⟩ := leftB_ok b7
  have hlen := Nat.eq_of_beq_eq_true b2
  have M : Marks ops (Array.replicate ops.size false) [] := ⟨by simp, fun j hj => by simp [hj], fun j => by
    rcases Nat.lt_or_ge j ops.size with h' | h'
    · simp [h']
    · simp [h'], fun j hj => by cases hj⟩
  have b' : Since Z base w0 s.h pl { w with drawn := w.drawn + 1 } := ⟨⟨b.1.os, b.1.tape, b.1.output, b.1.size, b.1.block⟩, ⟨b.2.1.old, b.2.1.obj, b.2.1.shape⟩, ⟨b.2.2.new, b.2.2.own⟩⟩
  have I : InvN nc P L ops R base nt w0 Z Z (startN l) [] (Array.replicate ops.size false) s pl a { w with drawn := w.drawn + 1 } := by
    refine ⟨by rw [startN_pb]; exact b4, fun j hj _ => ?_, fun j hj => ⟨by simp, by have := (c2 j hj).1; simpa [idsN, startN] using this, (c2 j hj).2⟩, by rw [startN_early]; exact M, fun i p b h => ?_, fun i p q h hl => schedN_lp b4 i p (startN_mem h).1 hl, fun b => by rw [startN_blocks]; simp, fun i p b h => ?_, by rw [startN_blocks]; exact List.nodup_nil, fun i p q h hl o d ho hd => undB_ok hU i o d hl ho hd, r.ext fun _ _ => rfl, b', fun i p b h => ?_⟩
    · have := coverB_ok b3 j hj
      simpa [idsN, startN] using this
    · cases (startN_mem h).2
    · cases (startN_mem h).2
    · cases (startN_mem h).2
  have := AX_soundN hL b1 hbase (dstB_ok b5) (lateTyB_ok hL b6) c1 b8 _ (startN l) [] _ s pl a _ Z (Nat.le_refl _) I (fun j => by simp [idsN, startN]) (by rw [startN_pb]; exact h)
  rw [startN_cnt, hlen] at this
  exact wp_region_any hm (wpAny_of_E (fun a w hn => hn) _ _ _ _ this)
theorem A_any {L : Lay} (hL : LayOk P L) (hbase : base ≤ w0.w.heap.size) {id : Nat} {ops : Array Oper} {Q : Exit → St → Prop} {s : St} (hm : P.follows .mixedOrders = true) (l : List (Nat × Bool)) (hB : orderN L ops l = true) (hU : undB ops s.fr = true) (h : AX P base nt w0 (fun s => Q .normal s) (pickO [] ops l) s) : A P base nt w0 (.region id ops true) Q s :=
  A_anyF hL hbase hm l [] hB hU h
theorem kont_any {L : Lay} (hL : LayOk P L) (hbase : base ≤ w0.w.heap.size) {id : Nat} {ops : Array Oper} {Q : Exit → St → Prop} {k : List Item} {s : St} (hm : P.follows .mixedOrders = true) (l : List (Nat × Bool)) (hB : orderN L ops l = true) (hU : undB ops s.fr = true) (h : AX P base nt w0 (fun s => kont P base nt w0 Q k .normal s) (pickO [] ops l) s) : kont P base nt w0 Q (.code (.region id ops true) :: k) .normal s := by
  simp only [kont]
  exact A_any hL hbase hm l hB hU h
theorem kont_anyF {L : Lay} (hL : LayOk P L) (hbase : base ≤ w0.w.heap.size) {id : Nat} {ops : Array Oper} {Q : Exit → St → Prop} {k : List Item} {s : St} (hm : P.follows .mixedOrders = true) (l : List (Nat × Bool)) (R : List Nat) (hB : orderF nc L ops l R = true) (hU : undB ops s.fr = true) (h : AX P base nt w0 (AXF nc P base nt w0 ops (fun s => kont P base nt w0 Q k .normal s) R.length R (l.map (·.1))) (pickO nc ops l) s) : kont P base nt w0 Q (.code (.region id ops true) :: k) .normal s := by
  simp only [kont]
  exact A_anyF hL hbase hm l R hB hU h
end

/-! The walk, run by the evaluator. -/
section
variable (P : Program) (base : Nat) (w0 : Start) (X : Cx) (nt : Nat)
def haxO (pu : Bool) (o : Oper) (F : St → Prop) (stop : Prop) (s : St) : Prop := match pstep X s o.op with
  | some (p, d) => p ∧ okO nt o.dst = true ∧ F ⟨putO s.fr o.dst d, s.h⟩
  | none => match pu with
    | true => False
    | false => match estep X s o.op with
      | some (p, h, d) => p ∧ okO nt o.dst = true ∧ F ⟨putO s.fr o.dst d, h⟩
      | none => stop
def haxK (K : St → Prop) : List (Bool × Oper × G) → St → Prop
  | [], s => K s
  | (pu, o, g) :: r, s => match g with
    | none => haxO X nt pu o (haxK K r) (AX P base nt w0 K ((pu, o, none) :: r) s) s
    | some (none, _) => okO nt o.dst = true ∧ haxK K r ⟨putO s.fr o.dst (.raw Go.undef), s.h⟩
    | some (some t, b) => match get s.fr t with
      | .raw (.bool x) => (beqB b x = true → haxO X nt pu o (haxK K r) (AX P base nt w0 K ((pu, o, none) :: r) ⟨put s.fr t (.raw (.bool b)), s.h⟩) ⟨put s.fr t (.raw (.bool b)), s.h⟩) ∧
          (beqB b x = false → okO nt o.dst = true ∧ haxK K r ⟨putO (put s.fr t (.raw (.bool (!b)))) o.dst (.raw Go.undef), s.h⟩)
      | .raw (.tuple _) => okO nt o.dst = true ∧ haxK K r ⟨putO s.fr o.dst (.raw Go.undef), s.h⟩
      | _ => False
end
section
variable {nc : List Nat} {P : Program} {base nt : Nat} {w0 : Start}
theorem haxO_ok {X : Cx} (hX : CxOk P X) (hbase : base ≤ w0.w.heap.size) {pu : Bool} {o : Oper} {F F' : St → Prop} {stop : Prop} {s : St} (hF : ∀ s, F s → F' s) (hstop : stop → AXo P base nt w0 pu o F' s) (h : haxO X nt pu o F stop s) : AXo P base nt w0 pu o F' s := by
  unfold haxO at h
  split at h
  · rename_i p d hp
    have ok := pstep_ok (P := P) (base := base) (nt := nt) hX hp h.1
    have hk := hF _ h.2.2
    cases pu with
    | true =>
      refine ⟨d, ok, fun hlb => ?_, h.2.1, hk⟩
      unfold loadB at hlb
      split at hlb
      · rename_i t x ho
        simp only [pstep, ho] at hp
        exact load_okC hX.L ho hp h.1
      · cases hlb
    | false =>
      have hl : lateT o = false := by
        cases hl : lateT o with
        | false => rfl
        | true =>
          unfold lateT at hl
          cases ho : o.op <;> rw [ho] at hl <;> first | cases hl | skip
          all_goals
            rw [ho] at hp
            simp [pstep] at hp
      simp only [AXo, hl]
      intro Z z pl a w r b
      obtain ⟨v, hv, hrun⟩ := ok Z pl a w r
      unfold Oper.wp
      rw [hrun w fun _ _ => rfl]
      simp only [Oper.upon_value]
      refine ⟨.ext (Ext.refl _), _, _, pl, v, hk, ?_, b, Tr.refl _ _ _, rfl⟩
      cases hd : o.dst with
      | none => exact r
      | some t => have ht := h.2.1; rw [hd] at ht; exact r.to (Tr.ext r.o fun _ _ => rfl) r.o (okO_lt ht) hv
  · split at h
    · exact h.elim
    · split at h
      · rename_i p h' d hp
        have ok := estep_ok (P := P) (base := base) (nt := nt) hX hp h.1
        have hk := hF _ h.2.2
        have ht := h.2.1
        cases hl : lateT o with
        | true =>
          unfold lateT at hl
          cases ho : o.op <;> rw [ho] at hl <;> first | cases hl | skip
          · rename_i t
            simp only [ho, estep] at hp
            split at hp
            · rename_i y hy
              simp only [Option.some.injEq, Prod.mk.injEq] at hp
              obtain ⟨_, rfl, rfl⟩ := hp
              have hl : lateT o = true := by simp [lateT, ho]
              simp only [AXo, hl]
              exact ⟨_, _, late_alloc hX.L ho hy, ht, hk⟩
            · cases hp
          · rename_i t rz
            cases rz with
            | some x => cases hl
            | none =>
              simp only [ho, estep] at hp
              have hq : ∃ q, h' = s.h ++ [mapOb q 0 []] ∧ d = .mref s.h.length 0 := by
                unfold pmake at hp
                split at hp
                · split at hp
                  all_goals
                    simp only [Option.some.injEq, Prod.mk.injEq] at hp
                    obtain ⟨_, rfl, rfl⟩ := hp
                    exact ⟨_, rfl, rfl⟩
                · cases hp
              obtain ⟨q, rfl, rfl⟩ := hq
              have hl : lateT o = true := by simp [lateT, ho]
              simp only [AXo, hl]
              exact ⟨_, _, late_make ho q, ht, hk⟩
        | false =>
        simp only [AXo, hl]
        intro Z z pl a w r b
        have hins : insB o = false := by
          cases hi : insB o with
          | false => rfl
          | true =>
            unfold insB at hi
            split at hi
            · rename_i ho; simp [estep, ho] at hp
            · cases hi
        obtain ⟨v, w', pl', hrun, hT, hO, hv, hb, hext⟩ := ok Z pl a w r (Nat.le_trans hbase b.1.size)
        have fin : ∀ u, u = v → Rel Z base nt ⟨putO s.fr o.dst d, h'⟩ pl' (a.put o.dst u) w' := by
          rintro u rfl
          cases hd : o.dst with
          | none => exact r.to' hT hO u
          | some t => rw [hd] at ht; exact r.to hT hO (okO_lt ht) hv
        unfold Oper.wp
        rcases hrun with hrun | ⟨hrun, hu⟩
        · rw [hrun]
          simp only [Oper.upon_value]
          exact ⟨.mk (fun hc => hext (by simp only [calmS, Bool.and_eq_true] at hc; exact hc.1)) hins, _, _, pl', _, hk, fin v rfl, b.step hT hb, hT, rfl⟩
        · rw [hrun]
          simp only [Oper.upon_skip]
          exact ⟨.mk (fun hc => hext (by simp only [calmS, Bool.and_eq_true] at hc; exact hc.1)) hins, _, _, pl', _, hk, fin _ hu.symm, b.step hT hb, hT, rfl⟩
      · exact hstop h
theorem haxK_ok {X : Cx} (hX : CxOk P X) (hbase : base ≤ w0.w.heap.size) {K : St → Prop} : ∀ (l : List (Bool × Oper × G)) (s : St), haxK P base w0 X nt K l s → AX P base nt w0 K l s
  | [], s, h => h
  | (pu, o, g) :: r, s, h => by
    have st : ∀ s, haxO X nt pu o (haxK P base w0 X nt K r) (AX P base nt w0 K ((pu, o, none) :: r) s) s → AXo P base nt w0 pu o (AX P base nt w0 K r) s := fun s hh =>
      haxO_ok hX hbase (fun s => haxK_ok hX hbase r s) (fun h => h) hh
    simp only [haxK] at h
    simp only [AX]
    split at h
    · exact st s h
    · exact ⟨h.1, haxK_ok hX hbase r _ h.2⟩
    · rename_i t b
      split at h
      · rename_i x hx
        simp only [beqB_iff, beq_iff_eq, beq_eq_false_iff_ne, ne_eq] at h
        refine ⟨fun e => st _ (h.1 e), fun e => ?_⟩
        have := h.2 (by rw [e]; cases b <;> simp)
        exact ⟨this.1, haxK_ok hX hbase r _ this.2⟩
      · exact ⟨h.1, haxK_ok hX hbase r _ h.2⟩
      · exact h.elim

/-- The same argument, told otherwise. -/
def argEq (d' : D) : D → Prop
  | .imm z n r => match d' with
    | .imm z' n' r' => z' = z ∧ n' = n ∧ ∀ i, i < n → r' i = r i
    | _ => False
  | .raw v => d' = .raw v
  | .nil => d' = .nil
  | .undef => d' = .undef
  | .ip c => d' = .ip c
  | .ref l g o n => d' = .ref l g o n
  | .ptr l g i j => d' = .ptr l g i j
  | .mref l g => d' = .mref l g
  | .clo f n c => d' = .clo f n c
  | .agg c => d' = .agg c
  | .tup c => d' = .tup c
def argsEq : List D → List D → Prop
  | [], [] => True
  | d' :: r', d :: r => argEq d' d ∧ argsEq r' r
  | _, _ => False
theorem argEq_ok {N : Nat → Prop} {w : World} {d' d : D} {v : Value} (h : argEq d' d) (c : Cl N w d' v) : Cl N w d v := by
  cases d <;> simp only [argEq] at h
  case imm z n r =>
    split at h
    · obtain ⟨rfl, rfl, h⟩ := h
      cases c with
      | imm _ _ _ a cap b o vs ha hl hs hc hr =>
        exact .imm _ _ _ a cap b o vs ha hl (fun i hi => by rw [← h i hi]; exact hs i hi) hc (fun i j hi hj => by rw [← h i hi]; exact hr i j hi hj)
    · exact h.elim
  all_goals subst h; exact c
theorem argsEq_ok : ∀ {cs' cs : List D}, argsEq cs' cs → cs'.length = cs.length ∧ ∀ i, i < cs.length → argEq (nth cs' i) (nth cs i)
  | [], [], _ => ⟨rfl, fun i hi => by simp at hi⟩
  | [], _ :: _, h => h.elim
  | _ :: _, [], h => h.elim
  | d' :: r', d :: r, h => by
    obtain ⟨h1, h2⟩ := argsEq_ok h.2
    refine ⟨by simp [h1], fun i hi => ?_⟩
    cases i with
    | zero => exact h.1
    | succ i => have := h2 i (by simpa using hi); simpa [nth] using this
theorem argEq_rel {Z : Nat → Prop} {h : List Ob} {pl : List Pl} {w : World} {d' d : D} {v : Value} (e : argEq d' d) (r : RelV Z h pl w d' v) : RelV Z h pl w d v := by
  cases d <;> simp only [argEq] at e
  case imm z n r0 =>
    split at e
    · cases r with
      | cl _ _ hc => exact .cl _ _ (argEq_ok (d := .imm z n r0) (by simpa only [argEq] using e) hc)
    · exact e.elim
  all_goals subst e; exact r
theorem MFn.args {P : Program} {f : FuncId} {F : List Ob} {cs' cs : List D} {R : D → List Ob → Prop} (h : MFn P f F cs R) (e : argsEq cs' cs) : MFn P f F cs' R := fun Z base w pl vs h1 h2 h3 hl hc => by
  obtain ⟨e1, e2⟩ := argsEq_ok e
  exact h Z base w pl vs h1 h2 h3 (by omega) fun i hi => argEq_rel (e2 i hi) (hc i (by omega))
theorem AFn.args {P : Program} {f : FuncId} {cs' cs : List D} {R : D → List Ob → Prop} (h : AFn P f cs R) (e : argsEq cs' cs) : AFn P f cs' R := MFn.args h e

/-- A call within such a region. -/
theorem AX_call (hbase : base ≤ w0.w.heap.size) {K : St → Prop} {dst : Option Nat} {ty : TypeId} {pos : String} {after : Array Edge} {gd : Option (Nat × Bool)} {r : List (Bool × Oper × G)} {s : St} {x : Operand} {args : Array Operand} {tys : Array TypeId} {f : FuncId} {nf : Nat} {caps : List D} (hf : FnOk P f)
    (hx : calleeD (evalO s.fr x) = some (f, nf, caps)) {cs : List D} (hcs : match closeW (closeD s.h 4) (argsD nf caps (args.toList.map (evalO s.fr))) with | some (p, cs') => p ∧ argsEq cs' cs | none => False) {R : D → List Ob → Prop} (hF : AFn P f cs R)
    (hflat : ∀ d h, R d h → d.flat = true ∧ ∀ o ∈ h, o.flat) (ht : okO nt dst = true) (hk : ∀ d h, R d h → AX P base nt w0 K r ⟨putO s.fr dst (d.shift s.h.length), s.h ++ h.map (Ob.shift s.h.length)⟩) :
    AX P base nt w0 K ((false, ⟨dst, .call ⟨.value x, args, tys⟩, ty, pos, after, gd⟩, none) :: r) s := by
  simp only [AX, AXo, lateT]
  intro Z z pl a w rr b
  split at hcs
  · rename_i p cs' hc
    obtain ⟨hp, he⟩ := hcs
    have hF := hF.args he
    refine Oper.wp_mono (fun a' w' ⟨he, d, h, pl', hR, r', b', T, v, e⟩ => ⟨fun _ => he, _, _, pl', v, hk d h hR, r', b', T, e⟩) (call_wp hbase hf rfl hx hc hp hF hflat ht pl a w rr b _)
  · exact hcs.elim
theorem kont_call (hbase : base ≤ w0.w.heap.size) {Q : Exit → St → Prop} {k : List Item} {dst : Option Nat} {ty : TypeId} {pos : String} {after : Array Edge} {gd : Option (Nat × Bool)} {r : List (Oper × G)} {s : St} {x : Operand} {args : Array Operand} {tys : Array TypeId} {f : FuncId} {nf : Nat} {caps : List D} (hf : FnOk P f)
    (hx : calleeD (evalO s.fr x) = some (f, nf, caps)) {cs : List D} (hcs : match closeW (closeD s.h 4) (argsD nf caps (args.toList.map (evalO s.fr))) with | some (p, cs') => p ∧ argsEq cs' cs | none => False) {R : D → List Ob → Prop} (hF : AFn P f cs R)
    (hflat : ∀ d h, R d h → d.flat = true ∧ ∀ o ∈ h, o.flat) (ht : okO nt dst = true) (hk : ∀ d h, R d h → kont P base nt w0 Q (.ops r :: k) .normal ⟨putO s.fr dst (d.shift s.h.length), s.h ++ h.map (Ob.shift s.h.length)⟩) :
    kont P base nt w0 Q (.ops ((⟨dst, .call ⟨.value x, args, tys⟩, ty, pos, after, gd⟩, none) :: r) :: k) .normal s := by
  simp only [kont] at hk ⊢
  split at hcs
  · rename_i p cs' hc
    obtain ⟨hp, he⟩ := hcs
    have hF := hF.args he
    exact AG_call hbase hf rfl hx hc hp hF hflat ht hk
  · exact hcs.elim
end

section
variable {nc : List Nat} {P : Program} {base nt : Nat} {w0 : Start}
theorem AXo.mono {pu : Bool} {o : Oper} {F F' : St → Prop} (hF : ∀ s, F s → F' s) {s : St} (h : AXo P base nt w0 pu o F s) : AXo P base nt w0 pu o F' s := by
  cases pu with
  | true => obtain ⟨d, h1, h2, h3, h4⟩ := h; exact ⟨d, h1, h2, h3, hF _ h4⟩
  | false =>
    simp only [AXo] at h ⊢
    split at h
    · obtain ⟨ob, mk, h1, h2, h3⟩ := h; exact ⟨ob, mk, h1, h2, hF _ h3⟩
    intro Z z pl a w r b
    exact Oper.wp_mono (fun a' w' ⟨he, d, h', pl', v, h1, h2⟩ => ⟨he, d, h', pl', v, hF _ h1, h2⟩) (h Z z pl a w r b)
theorem AX.mono {K K' : St → Prop} (hK : ∀ s, K s → K' s) : ∀ (l : List (Bool × Oper × G)) (s : St), AX P base nt w0 K l s → AX P base nt w0 K' l s
  | [], s, h => hK s h
  | (pu, o, g) :: r, s, h => by
    simp only [AX] at h ⊢
    split at h
    · exact AXo.mono (AX.mono hK r) h
    · exact ⟨h.1, AX.mono hK r _ h.2⟩
    · split at h
      · exact ⟨fun e => AXo.mono (AX.mono hK r) (h.1 e), fun e => ⟨(h.2 e).1, AX.mono hK r _ (h.2 e).2⟩⟩
      · exact ⟨h.1, AX.mono hK r _ h.2⟩
      · exact h.elim
end
end Go.Fg
namespace Go.Fg
set_option linter.unusedSimpArgs false
set_option linter.unusedVariables false
/-- An equation that is not to be taken for a mere unfolding. -/
theorem eqOf {α : Sort _} {a b : α} (h : a = b) : a = b := h
@[go_sem] theorem nat_beq (a b : Nat) : Nat.beq a b = (a == b) := by
  rw [Bool.eq_iff_iff]; simp [Nat.beq_eq]
@[go_sem] theorem nat_blt (a b : Nat) : Nat.blt a b = decide (a < b) := by
  rw [Bool.eq_iff_iff]; simp [Nat.blt_eq]
@[go_sem] theorem nat_ble (a b : Nat) : Nat.ble a b = decide (a ≤ b) := by
  rw [Bool.eq_iff_iff]; simp [Nat.ble_eq]

/-- The evaluator's conditions, ens one proposition. -/
def hx (P : Program) (base : Nat) (w0 : Start) (Q : Exit → St → Prop) (X : Cx) (nt n : Nat) (k : List Item) (s : St) : Prop := (exec X nt n k s).holds P base nt w0 Q
/-- The same, put off: no rule opens it. -/
def hz (P : Program) (base : Nat) (w0 : Start) (Q : Exit → St → Prop) (X : Cx) (nt n : Nat) (k : List Item) (s : St) : Prop := hx P base w0 Q X nt n k s
/-- Both cases of a test; each is put off till the test is decided. -/
def hite (b : Bool) (A B : Prop) : Prop := (b = true → A) ∧ (b = false → B)
def hok (b : Bool) (A : Prop) : Prop := b = true ∧ A

section
variable {P : Program} {base : Nat} {w0 : Start} {Q : Exit → St → Prop} {X : Cx} {nt n : Nat} {k : List Item} {s : St}
@[go_sem ↓] theorem hite_t {B : Prop} : hite true (hz P base w0 Q X nt n k s) B = hx P base w0 Q X nt n k s := by simp [hite, hz]
@[go_sem ↓] theorem hite_f {A : Prop} : hite false A (hz P base w0 Q X nt n k s) = hx P base w0 Q X nt n k s := by simp [hite, hz]
theorem hite_intro {b : Bool} {k' : List Item} {s' : St} (h1 : b = true → hx P base w0 Q X nt n k s) (h2 : b = false → hx P base w0 Q X nt n k' s') : hite b (hz P base w0 Q X nt n k s) (hz P base w0 Q X nt n k' s') := ⟨h1, h2⟩
@[go_sem] theorem hx_nil : hx P base w0 Q X nt (n + 1) [] s = Q .normal s := eqOf rfl
@[go_sem] theorem hx_inBlock {id : Nat} : hx P base w0 Q X nt (n + 1) (.inBlock id :: k) s = hx P base w0 Q X nt n k s := eqOf rfl
@[go_sem] theorem hx_skip : hx P base w0 Q X nt (n + 1) (.code .skip :: k) s = hx P base w0 Q X nt n k s := eqOf rfl
@[go_sem] theorem hx_label {l : Nat} : hx P base w0 Q X nt (n + 1) (.code (.label l) :: k) s = hx P base w0 Q X nt n k s := eqOf rfl
@[go_sem] theorem hx_seq {a b : Code} : hx P base w0 Q X nt (n + 1) (.code (.seq a b) :: k) s = hx P base w0 Q X nt n (.code a :: .code b :: k) s := eqOf rfl
@[go_sem] theorem hx_block {id : Nat} {c : Code} : hx P base w0 Q X nt (n + 1) (.code (.block id c) :: k) s = hx P base w0 Q X nt n (.code c :: .inBlock id :: k) s := eqOf rfl
@[go_sem] theorem hx_inScope : hx P base w0 Q X nt (n + 1) (.inScope :: k) s = hx P base w0 Q X nt n k s := eqOf rfl
@[go_sem] theorem hx_scope {c : Code} : hx P base w0 Q X nt (n + 1) (.code (.scope c) :: k) s = hx P base w0 Q X nt n (.code c :: .inScope :: k) s := eqOf rfl
@[go_sem] theorem hx_cond {c : Operand} {a b : Code} : hx P base w0 Q X nt (n + 1) (.code (.cond c a b) :: k) s = (match evalO s.fr c with
    | .raw (.bool x) => hite x (hz P base w0 Q X nt n (.code a :: k) s) (hz P base w0 Q X nt n (.code b :: k) s)
    | _ => False) := by
  simp only [hx, exec]
  generalize evalO s.fr c = d
  cases d with
  | raw v => cases v <;> rfl
  | _ => rfl
@[go_sem] theorem hx_exit {id : Nat} : hx P base w0 Q X nt (n + 1) (.code (.exit id) :: k) s = (match exitK id k with
    | some k' => hx P base w0 Q X nt n k' s
    | none => Q (.exit id) s) := by
  simp only [hx, exec]
  generalize exitK id k = r
  cases r <;> rfl
@[go_sem] theorem hx_ret : hx P base w0 Q X nt (n + 1) (.code .ret :: k) s = Q .ret s := eqOf rfl
@[go_sem] theorem hx_region {id : Nat} {ops : Array Oper} : hx P base w0 Q X nt (n + 1) (.code (.region id ops false) :: k) s = hx P base w0 Q X nt n (.ops (gops ops) :: k) s := eqOf rfl
@[go_sem] theorem hx_draw {id : Nat} {ops : Array Oper} : hx P base w0 Q X nt (n + 1) (.code (.region id ops true) :: k) s = kont P base nt w0 Q (.code (.region id ops true) :: k) .normal s := eqOf rfl
@[go_sem] theorem hx_loop {c : Code} : hx P base w0 Q X nt (n + 1) (.code (.loop c) :: k) s = kont P base nt w0 Q (.code (.loop c) :: k) .normal s := eqOf rfl
@[go_sem] theorem hx_ops_nil : hx P base w0 Q X nt (n + 1) (.ops [] :: k) s = hx P base w0 Q X nt n k s := eqOf rfl
@[go_sem ↓] theorem hok_t {A : Prop} : hok true A = A := by simp [hok]
@[go_sem] theorem hx_ops {o : Oper} {r : List (Oper × G)} : hx P base w0 Q X nt (n + 1) (.ops ((o, none) :: r) :: k) s = (match pstep X s o.op with
    | some (p, d) => p ∧ (match okO nt o.dst with | true => hx P base w0 Q X nt n (.ops r :: k) ⟨putO s.fr o.dst d, s.h⟩ | false => False)
    | none => match estep X s o.op with
      | some (p, h, d) => p ∧ (match okO nt o.dst with | true => hx P base w0 Q X nt n (.ops r :: k) ⟨putO s.fr o.dst d, h⟩ | false => False)
      | none => kont P base nt w0 Q (.ops ((o, none) :: r) :: k) .normal s) := by
  simp only [hx, exec]
  generalize pstep X s o.op = r1
  generalize estep X s o.op = r2
  cases r1 with
  | some pd => cases okO nt o.dst <;> simp [Tree.holds]
  | none => cases r2 with
    | some phd => cases okO nt o.dst <;> simp [Tree.holds]
    | none => rfl
theorem hx_ops_g {o : Oper} {t : Nat} {b : Bool} {r : List (Oper × G)} (ht : okO nt o.dst = true) : hx P base w0 Q X nt (n + 1) (.ops ((o, some (some t, b)) :: r) :: k) s = (match get s.fr t with
    | .raw (.bool x) => hite (beqB b x) (hz P base w0 Q X nt n (.ops ((o, none) :: r) :: k) ⟨put s.fr t (.raw (.bool b)), s.h⟩) (hz P base w0 Q X nt n (.ops r :: k) ⟨putO (put s.fr t (.raw (.bool (!b)))) o.dst (.raw Go.undef), s.h⟩)
    | .raw (.tuple _) => hx P base w0 Q X nt n (.ops r :: k) ⟨putO s.fr o.dst (.raw Go.undef), s.h⟩
    | _ => False) := by
  simp only [hx, exec]
  generalize get s.fr t = d
  cases d with
  | raw v =>
    cases v with
    | bool x => simp [hite, hz, hx, ht, Tree.holds]
    | tuple vs => simp [ht]
    | _ => rfl
  | _ => rfl
@[go_sem] theorem hx_ops_gt {o : Oper} {t : Nat} {r : List (Oper × G)} (ht : okO nt o.dst = true) : hx P base w0 Q X nt (n + 1) (.ops ((o, some (some t, true)) :: r) :: k) s = (match get s.fr t with
    | .raw (.bool x) => hite x (hz P base w0 Q X nt n (.ops ((o, none) :: r) :: k) ⟨put s.fr t (.raw (.bool true)), s.h⟩) (hz P base w0 Q X nt n (.ops r :: k) ⟨putO (put s.fr t (.raw (.bool false))) o.dst (.raw Go.undef), s.h⟩)
    | .raw (.tuple _) => hx P base w0 Q X nt n (.ops r :: k) ⟨putO s.fr o.dst (.raw Go.undef), s.h⟩
    | _ => False) := hx_ops_g ht
@[go_sem] theorem hx_ops_gf {o : Oper} {t : Nat} {r : List (Oper × G)} (ht : okO nt o.dst = true) : hx P base w0 Q X nt (n + 1) (.ops ((o, some (some t, false)) :: r) :: k) s = (match get s.fr t with
    | .raw (.bool x) => hite x (hz P base w0 Q X nt n (.ops r :: k) ⟨putO (put s.fr t (.raw (.bool true))) o.dst (.raw Go.undef), s.h⟩) (hz P base w0 Q X nt n (.ops ((o, none) :: r) :: k) ⟨put s.fr t (.raw (.bool false)), s.h⟩)
    | .raw (.tuple _) => hx P base w0 Q X nt n (.ops r :: k) ⟨putO s.fr o.dst (.raw Go.undef), s.h⟩
    | _ => False) := by
  rw [hx_ops_g ht]
  generalize get s.fr t = d
  cases d with
  | raw v =>
    cases v with
    | bool x => cases x <;> simp [hite, beqB]
    | _ => rfl
  | _ => rfl
end
section
variable {P : Program} {base nt : Nat} {w0 : Start} {Q : Exit → St → Prop} {k : List Item} {s : St} {I : Nat → St → Prop} {m : Nat}
@[go_sem] theorem kont_nil {e : Exit} : kont P base nt w0 Q [] e s = Q e s := eqOf rfl
@[go_sem] theorem kont_ret' {x : Item} : kont P base nt w0 Q (x :: k) .ret s = kont P base nt w0 Q k .ret s := by cases x <;> rfl
@[go_sem] theorem kont_code_exit {c : Code} {j : Nat} : kont P base nt w0 Q (.code c :: k) (.exit j) s = kont P base nt w0 Q k (.exit j) s := eqOf rfl
@[go_sem] theorem kont_ops_exit {l : List (Oper × G)} {j : Nat} : kont P base nt w0 Q (.ops l :: k) (.exit j) s = kont P base nt w0 Q k (.exit j) s := eqOf rfl
@[go_sem] theorem kont_block_exit {id : Nat} : kont P base nt w0 Q (.inBlock id :: k) (.exit id) s = kont P base nt w0 Q k .normal s := by simp [kont]
@[go_sem] theorem kont_block_exit' {id j : Nat} (h : (j == id) = false) : kont P base nt w0 Q (.inBlock id :: k) (.exit j) s = kont P base nt w0 Q k (.exit j) s := by
  have : ¬ j = id := by simpa using h
  simp [kont, this]
@[go_sem] theorem kont_block_normal {id : Nat} : kont P base nt w0 Q (.inBlock id :: k) .normal s = kont P base nt w0 Q k .normal s := eqOf rfl
@[go_sem] theorem kont_scope_exit {j : Nat} : kont P base nt w0 Q (.inScope :: k) (.exit j) s = kont P base nt w0 Q k (.exit j) s := eqOf rfl
@[go_sem] theorem kont_scope_normal : kont P base nt w0 Q (.inScope :: k) .normal s = kont P base nt w0 Q k .normal s := eqOf rfl
@[go_sem] theorem LoopQ_normal : LoopQ P base nt w0 Q k I m .normal s = ∃ m' s', m' < m ∧ Weak w0 s s' ∧ I m' s' := eqOf rfl
@[go_sem] theorem LoopQ_exit {j : Nat} : LoopQ P base nt w0 Q k I m (.exit j) s = kont P base nt w0 Q k (.exit j) s := eqOf rfl
@[go_sem] theorem LoopQ_ret : LoopQ P base nt w0 Q k I m .ret s = kont P base nt w0 Q k .ret s := eqOf rfl
end
attribute [go_sem] gops guardOf strip evalO get put putO okO ofC ofCell pstep estep exitK beqB
  pbin pbinI pshift pbinB pbinS pbinP isPtrTy isBoolTy isShift IntKind.same pload mk TK.agg pfield pfieldAddr pfieldV pelem pindexAddr pindex pconv plen
  oneV splice setRow pstore psrc papp pbuild pplaces pfill pbsRow pbuildSlice pbnd pslice pbinA rawsD beqL cat ceqL ceq nth D.there appRow appFits
  argsD closeW closeD calleeD resD one Post D.shift shiftL Ob.shift initFr D.cl1 D.flat flatL D.upto uptoL frLe frUpto obsUpto obsLe obLe Kd.isOne Kd.ty Kd.ro Kd.like Kd.toRo
attribute [go_sem] List.map_cons List.map_nil List.getElem?_toArray List.getElem?_cons_zero List.getElem?_cons_succ List.getElem?_nil Option.bind_some Option.bind_none Option.map_some Option.map_none List.length_cons List.length_nil List.cons_append List.nil_append List.append_nil
  List.all_cons List.all_nil List.take_zero List.take_succ_cons List.take_nil List.drop_zero List.drop_succ_cons List.drop_nil List.set_cons_zero List.set_cons_succ List.getD_cons_zero List.getD_cons_succ List.replicate_zero List.replicate_succ List.flatten_cons List.flatten_nil
  cond_true cond_false Bool.not_true Bool.not_false Bool.and_true Bool.true_and Bool.and_false Bool.false_and Bool.or_true Bool.true_or Bool.or_false Bool.false_or beq_self_eq_true decide_true decide_false true_and and_true false_and and_false
  implies_true forall_const reduceCtorEq List.toList_toArray Int.toNat_natCast Int.natCast_nonneg Int.ofNat_lt Int.ofNat_le Int.ofNat_inj Nat.zero_add Nat.add_zero Nat.le_refl Nat.zero_le Option.some.injEq Prod.mk.injEq
theorem kont_of_hx {P : Program} {base nt : Nat} {w0 : Start} {Q : Exit → St → Prop} {X : Cx} (hX : CxOk P X) (hb : base ≤ w0.w.heap.size) (n : Nat) {k : List Item} {s : St} (h : hx P base w0 Q X nt n k s) : kont P base nt w0 Q k .normal s := exec_ok hX hb n k s h
theorem AFn_hx {P : Program} {X : Cx} (hX : CxOk P X) {f : FuncId} {fn : Func} {c : Code} (n : Nat) (hf : P.funcs[f]? = some fn) (hb : fn.body = some c) {args : List D} {R : D → List Ob → Prop} {nt : Nat} {rs : Array ResultVar} (hnt : fn.ntmps = nt) (hrs : fn.results = rs) (hn : Nat.ble args.length nt = true)
    (h : ∀ (base : Nat) (w : World), base ≤ w.heap.size → hx P base ⟨w, [], []⟩ (Post X.L rs.toList R) X nt n [.code c] ⟨initFr args 0, []⟩) : AFn P f args R :=
  MFn_of' hX n hf hb hnt (Nat.le_of_ble_eq_true hn) (by
    subst hrs
    intro base w pl hb hl
    cases pl with
    | nil => exact h base w hb
    | cons _ _ => simp at hl)
theorem MFn_hx {P : Program} {X : Cx} (hX : CxOk P X) {f : FuncId} {fn : Func} {c : Code} (n : Nat) (hf : P.funcs[f]? = some fn) (hb : fn.body = some c) {F : List Ob} {args : List D} {R : D → List Ob → Prop} {nt : Nat} {rs : Array ResultVar} (hnt : fn.ntmps = nt) (hrs : fn.results = rs) (hn : Nat.ble args.length nt = true)
    (h : ∀ (base : Nat) (w : World) (pl : List Pl), base ≤ w.heap.size → hx P base ⟨w, F, pl⟩ (Post X.L rs.toList R) X nt n [.code c] ⟨initFr args 0, F⟩) : MFn P f F args R :=
  MFn_of' hX n hf hb hnt (Nat.le_of_ble_eq_true hn) (by subst hrs; exact fun base w pl hb _ => h base w pl hb)

/-- Objects behind the first k are let go. -/
theorem RelO.take {Z : Nat → Prop} {base : Nat} {h : List Ob} {pl : List Pl} {w : World} (R : RelO Z base h pl w) (k : Nat) (h2 : obsUpto k (h.take k)) : RelO Z base (h.take k) (pl.take k) w := by
  have hpl : ∀ (l : Nat) (p : Pl), (pl.take k)[l]? = some p → pl[l]? = some p := fun l p e => by
    rw [List.getElem?_take] at e; split at e
    · exact e
    · cases e
  have hh : ∀ (l : Nat) (o : Ob), (h.take k)[l]? = some o → h[l]? = some o := fun l o e => by
    rw [List.getElem?_take] at e; split at e
    · exact e
    · cases e
  refine ⟨by simp [R.len], fun l l' b q q' e1 e2 => R.inj l l' b q q' (hpl _ _ e1) (hpl _ _ e2), fun l o ho hp => R.noRow l o (hh _ _ ho) (hpl _ _ hp), fun l o b q ho hp => ?_⟩
  obtain ⟨g1, x⟩ := R.at_ l o b q (hh _ _ ho) (hpl _ _ hp)
  exact ⟨g1, x.to rfl rfl rfl rfl (fun _ _ => rfl) fun i j v hi hj hr => hr.take (uptoL_nth (obsUpto_get h2 l o ho i hi) j hj)⟩
def Kept (k : Nat) (R : D → List Ob → Prop) (d : D) (h : List Ob) : Prop := d.upto k = true ∧ obsUpto k (h.take k) ∧ R d (h.take k)
theorem take_away {pl : List Pl} {k b : Nat} (h : away pl b) : away (pl.take k) b := fun l q e => by
  rw [List.getElem?_take] at e; split at e
  · exact h l q e
  · cases e
theorem MFn.take {P : Program} {f : FuncId} {F : List Ob} {args : List D} {R : D → List Ob → Prop} (k : Nat) (hk : F.length ≤ k) (h : MFn P f F args (Kept k R)) : MFn P f F args R := fun Z base w pl vs h1 h2 h3 hl hc =>
  (h Z base w pl vs h1 h2 h3 hl hc).mono fun _ _ ⟨v, d, hh, pl', k1, ⟨a1, a2, a3⟩, k3, k4, k5, k6⟩ => ⟨v, d, hh.take k, pl'.take k, k1, a3, k3.take k a2, k4.take a1,
    k5.keep hk ⟨fun _ hb => take_away hb, fun l o p hl ho hp => ⟨o, by rw [List.getElem?_take, if_pos hl]; exact ho, by rw [List.getElem?_take, if_pos hl]; exact hp, rfl, rfl, rfl⟩⟩, k6⟩
theorem AFn_hxk (k : Nat) {P : Program} {X : Cx} (hX : CxOk P X) {f : FuncId} {fn : Func} {c : Code} (n : Nat) (hf : P.funcs[f]? = some fn) (hb : fn.body = some c) {args : List D} {R : D → List Ob → Prop} {nt : Nat} {rs : Array ResultVar} (hnt : fn.ntmps = nt) (hrs : fn.results = rs) (hn : Nat.ble args.length nt = true)
    (h : ∀ (base : Nat) (w : World), base ≤ w.heap.size → hx P base ⟨w, [], []⟩ (Post X.L rs.toList (Kept k R)) X nt n [.code c] ⟨initFr args 0, []⟩) : AFn P f args R :=
  MFn.take k (Nat.zero_le _) (AFn_hx hX n hf hb hnt hrs hn h)
theorem MFn_hxk (k : Nat) {P : Program} {X : Cx} (hX : CxOk P X) {f : FuncId} {fn : Func} {c : Code} (n : Nat) (hf : P.funcs[f]? = some fn) (hb : fn.body = some c) {F : List Ob} (hk : Nat.ble F.length k = true) {args : List D} {R : D → List Ob → Prop} {nt : Nat} {rs : Array ResultVar} (hnt : fn.ntmps = nt) (hrs : fn.results = rs) (hn : Nat.ble args.length nt = true)
    (h : ∀ (base : Nat) (w : World) (pl : List Pl), base ≤ w.heap.size → hx P base ⟨w, F, pl⟩ (Post X.L rs.toList (Kept k R)) X nt n [.code c] ⟨initFr args 0, F⟩) : MFn P f F args R :=
  MFn.take k (Nat.le_of_ble_eq_true hk) (MFn_hx hX n hf hb hnt hrs hn h)
attribute [go_sem] Kept

/-- Slots told or forgotten, objects told otherwise, objects behind the first k let go. -/
theorem obsUpto_le {k : Nat} : ∀ {h h' : List Ob}, obsLe h h' → obsUpto k h' → obsUpto k h
  | [], [], _, _ => trivial
  | [], _ :: _, h, _ => h.elim
  | _ :: _, [], h, _ => h.elim
  | _ :: _, _ :: _, h, h2 => ⟨fun i hi => by rw [← h.1.2.2.2.2 i hi]; exact h2.1 i (by rw [h.1.2.2.1]; exact hi), obsUpto_le h.2 h2.2⟩
theorem Wk.to {m : Nat} (k : Nat) {fr fr' : List (Nat × D)} {h h' : List Ob} (hw : frLe fr fr' ∧ frUpto k fr' = true ∧ obsUpto k h' ∧ obsLe (h.take k) h') (hm : m ≤ k := by exact Nat.le_of_ble_eq_true rfl) : Wk m ⟨fr, h⟩ ⟨fr', h'⟩ :=
  Wk.trans (Wk.frame hw.1) (Wk.trans (Wk.drop k hm hw.2.1 (obsUpto_le hw.2.2.2 hw.2.2.1)) (Wk.obs hw.2.2.2))
theorem Weak.to {w0 : Start} (k : Nat) {fr fr' : List (Nat × D)} {h h' : List Ob} (hw : frLe fr fr' ∧ frUpto k fr' = true ∧ obsUpto k h' ∧ obsLe (h.take k) h') (hm : w0.F.length ≤ k := by exact Nat.le_of_ble_eq_true rfl) : Weak w0 ⟨fr, h⟩ ⟨fr', h'⟩ := (Wk.to k hw hm).up
theorem Weak.frame {w0 : Start} {fr fr' : List (Nat × D)} {h : List Ob} (hf : frLe fr fr') : Weak w0 ⟨fr, h⟩ ⟨fr', h⟩ := (Wk.frame hf).up
theorem Weak.phantom {w0 : Start} {fr : List (Nat × D)} {h : List Ob} (t sz : Nat) (row : Nat → List D) (ht : get fr t = .nil) : Weak w0 ⟨fr, h⟩ ⟨put fr t (.ref h.length 0 0 0), h ++ [⟨.arr, 0, sz, 0, row⟩]⟩ := (Wk.phantom t sz row ht).up
/-- A slice that the call made, ens a list. -/
def RetL {α : Type} [Inhabited α] (sz : Nat) (enc : α → List D) (l : List α) (d : D) (h : List Ob) : Prop := ∃ g, d = .ref 0 g 0 l.length ∧ h = [⟨.arr, g, sz, l.length, fun i => enc (l.getD i default)⟩]
theorem RetL.flat {α : Type} [Inhabited α] {sz : Nat} {enc : α → List D} {l : List α} (he : ∀ x, flatL (enc x) = true) : ∀ d h, RetL sz enc l d h → d.flat = true ∧ ∀ o ∈ h, o.flat := by
  rintro d h ⟨g, rfl, rfl⟩
  exact ⟨rfl, fun o ho => by simp at ho; subst ho; exact fun i _ => he _⟩

/-! Regions that draw. -/
def hKont (P : Program) (base : Nat) (w0 : Start) (Q : Exit → St → Prop) (X : Cx) (nt n : Nat) (k : List Item) (s : St) : Prop := hx P base w0 Q X nt n k s
def hax (P : Program) (base : Nat) (w0 : Start) (X : Cx) (nt : Nat) (K : St → Prop) (l : List (Bool × Oper × G)) (s : St) : Prop := haxK P base w0 X nt K l s
def haz (P : Program) (base : Nat) (w0 : Start) (X : Cx) (nt : Nat) (K : St → Prop) (l : List (Bool × Oper × G)) (s : St) : Prop := hax P base w0 X nt K l s
section
variable {nc : List Nat} {P : Program} {base : Nat} {w0 : Start} {Q : Exit → St → Prop} {X : Cx} {nt n : Nat} {k : List Item} {s : St} {l : List (Bool × Oper × G)} {K : St → Prop}
@[go_sem ↓] theorem hite_at {B : Prop} : hite true (haz P base w0 X nt K l s) B = hax P base w0 X nt K l s := by simp [hite, haz]
@[go_sem ↓] theorem hite_af {A : Prop} : hite false A (haz P base w0 X nt K l s) = hax P base w0 X nt K l s := by simp [hite, haz]
theorem hite_intro' {b : Bool} {l' : List (Bool × Oper × G)} {s' : St} (h1 : b = true → hax P base w0 X nt K l s) (h2 : b = false → hax P base w0 X nt K l' s') : hite b (haz P base w0 X nt K l s) (haz P base w0 X nt K l' s') := ⟨h1, h2⟩
@[go_sem] theorem hax_nil : hax P base w0 X nt K [] s = K s := eqOf rfl
@[go_sem] theorem hKont_hx : hKont P base w0 Q X nt n k s = hx P base w0 Q X nt n k s := eqOf rfl
@[go_sem] theorem hax_pure {o : Oper} {r : List (Bool × Oper × G)} : hax P base w0 X nt K ((true, o, none) :: r) s = (match pstep X s o.op with
    | some (p, d) => p ∧ (match okO nt o.dst with | true => hax P base w0 X nt K r ⟨putO s.fr o.dst d, s.h⟩ | false => False)
    | none => False) := by
  simp only [hax, haxK, haxO]
  generalize pstep X s o.op = r1
  cases r1 with
  | some pd => cases okO nt o.dst <;> simp
  | none => rfl
@[go_sem] theorem hax_eff {o : Oper} {r : List (Bool × Oper × G)} : hax P base w0 X nt K ((false, o, none) :: r) s = (match pstep X s o.op with
    | some (p, d) => p ∧ (match okO nt o.dst with | true => hax P base w0 X nt K r ⟨putO s.fr o.dst d, s.h⟩ | false => False)
    | none => match estep X s o.op with
      | some (p, h, d) => p ∧ (match okO nt o.dst with | true => hax P base w0 X nt K r ⟨putO s.fr o.dst d, h⟩ | false => False)
      | none => AX P base nt w0 K ((false, o, none) :: r) s) := by
  simp only [hax, haxK, haxO]
  generalize pstep X s o.op = r1
  generalize estep X s o.op = r2
  cases r1 with
  | some pd => cases okO nt o.dst <;> simp
  | none => cases r2 with
    | some phd => cases okO nt o.dst <;> simp
    | none => rfl
theorem hax_g {pu : Bool} {o : Oper} {t : Nat} {b : Bool} {r : List (Bool × Oper × G)} (ht : okO nt o.dst = true) : hax P base w0 X nt K ((pu, o, some (some t, b)) :: r) s = (match get s.fr t with
    | .raw (.bool x) => hite (beqB b x) (haz P base w0 X nt K ((pu, o, none) :: r) ⟨put s.fr t (.raw (.bool b)), s.h⟩) (haz P base w0 X nt K r ⟨putO (put s.fr t (.raw (.bool (!b)))) o.dst (.raw Go.undef), s.h⟩)
    | .raw (.tuple _) => hax P base w0 X nt K r ⟨putO s.fr o.dst (.raw Go.undef), s.h⟩
    | _ => False) := by
  simp only [hax, haz, haxK]
  generalize get s.fr t = d
  cases d with
  | raw v =>
    cases v with
    | bool x => simp [hite, ht]
    | tuple vs => simp [ht]
    | _ => rfl
  | _ => rfl
@[go_sem] theorem hax_gt {pu : Bool} {o : Oper} {t : Nat} {r : List (Bool × Oper × G)} (ht : okO nt o.dst = true) : hax P base w0 X nt K ((pu, o, some (some t, true)) :: r) s = (match get s.fr t with
    | .raw (.bool x) => hite x (haz P base w0 X nt K ((pu, o, none) :: r) ⟨put s.fr t (.raw (.bool true)), s.h⟩) (haz P base w0 X nt K r ⟨putO (put s.fr t (.raw (.bool false))) o.dst (.raw Go.undef), s.h⟩)
    | .raw (.tuple _) => hax P base w0 X nt K r ⟨putO s.fr o.dst (.raw Go.undef), s.h⟩
    | _ => False) := hax_g ht
@[go_sem] theorem hax_gf {pu : Bool} {o : Oper} {t : Nat} {r : List (Bool × Oper × G)} (ht : okO nt o.dst = true) : hax P base w0 X nt K ((pu, o, some (some t, false)) :: r) s = (match get s.fr t with
    | .raw (.bool x) => hite x (haz P base w0 X nt K r ⟨putO (put s.fr t (.raw (.bool true))) o.dst (.raw Go.undef), s.h⟩) (haz P base w0 X nt K ((pu, o, none) :: r) ⟨put s.fr t (.raw (.bool false)), s.h⟩)
    | .raw (.tuple _) => hax P base w0 X nt K r ⟨putO s.fr o.dst (.raw Go.undef), s.h⟩
    | _ => False) := by
  rw [hax_g ht]
  generalize get s.fr t = d
  cases d with
  | raw v =>
    cases v with
    | bool x => cases x <;> simp [hite, beqB]
    | _ => rfl
  | _ => rfl
theorem kont_hax {id : Nat} {ops : Array Oper} (hX : CxOk P X) (hb : base ≤ w0.w.heap.size) (n : Nat) (hm : P.follows .mixedOrders = true) (l : List (Nat × Bool)) (hB : orderN X.L ops l = true) (hU : undB ops s.fr = true) (h : hax P base w0 X nt (hKont P base w0 Q X nt n k) (pickO [] ops l) s) : kont P base nt w0 Q (.code (.region id ops true) :: k) .normal s :=
  kont_any hX.L hb hm l hB hU (AX.mono (fun s hs => kont_of_hx hX hb n hs) _ _ (haxK_ok hX hb _ _ h))
theorem AX_of_hax (hX : CxOk P X) (hb : base ≤ w0.w.heap.size) (h : hax P base w0 X nt K l s) : AX P base nt w0 K l s := haxK_ok hX hb _ _ h
/-- What is left, entry by entry: number, operation, guard, and what it waits for. -/
abbrev REn := Nat × Oper × G × List Nat
def waitsN : List Edge → List Nat
  | [] => []
  | e :: r => bif Region.binds .any e then e.on :: waitsN r else waitsN r
def pickR (nc : List Nat) (ops : Array Oper) : List Nat → List REn
  | [] => []
  | i :: r => match ops[i]? with
    | some o => (i, stripN (memB i nc) o, guardOf ops o, waitsN o.after.toList) :: pickR nc ops r
    | none => pickR nc ops r
def remE (i : Nat) : List REn → List REn
  | [] => []
  | e :: r => bif Nat.beq e.1 i then remE i r else e :: remE i r
def allIn (done : List Nat) : List Nat → Bool
  | [] => true
  | i :: r => memB i done && allIn done r
def hfAll (F : REn → Prop) : List REn → Prop
  | [] => True
  | e :: r => F e ∧ hfAll F r
def hxF (P : Program) (base : Nat) (w0 : Start) (X : Cx) (nt : Nat) (K : St → Prop) : Nat → List REn → List Nat → St → Prop
  | 0, _, _, s => K s
  | m + 1, es, done, s => hfAll (fun e => match allIn done e.2.2.2 with
    | true => hax P base w0 X nt (hxF P base w0 X nt K m (remE e.1 es) (e.1 :: done)) [(false, e.2.1, e.2.2.1)] s
    | false => True) es
theorem waitsN_ok {done : List Nat} : ∀ {l : List Edge}, heldB done l = false → allIn done (waitsN l) = true
  | [], _ => rfl
  | e :: r, h => by
    simp only [heldB, Bool.or_eq_false_iff, Bool.and_eq_false_iff, Bool.not_eq_false'] at h
    simp only [waitsN]
    cases hb : Region.binds .any e
    · exact waitsN_ok h.2
    · simp only [cond_true, allIn, Bool.and_eq_true]
      refine ⟨h.1.resolve_left (by rw [hb]; simp), waitsN_ok h.2⟩
theorem hfAll_mem {F : REn → Prop} : ∀ {l : List REn}, hfAll F l → ∀ e ∈ l, F e
  | [], _, e, he => by cases he
  | x :: r, h, e, he => by
    rcases List.mem_cons.1 he with rfl | he
    · exact h.1
    · exact hfAll_mem h.2 e he
theorem pickR_mem {ops : Array Oper} {i : Nat} {o : Oper} (ho : ops[i]? = some o) : ∀ {R : List Nat}, i ∈ R → (i, stripN (memB i nc) o, guardOf ops o, waitsN o.after.toList) ∈ pickR nc ops R
  | [], h => by cases h
  | j :: r, h => by
    simp only [pickR]
    rcases List.mem_cons.1 h with rfl | h
    · rw [ho]; exact List.mem_cons_self ..
    · split
      · exact List.mem_cons_of_mem _ (pickR_mem ho h)
      · exact pickR_mem ho h
theorem remE_none {ops : Array Oper} {i : Nat} : ∀ {R : List Nat}, i ∉ R → remE i (pickR nc ops R) = pickR nc ops R
  | [], _ => rfl
  | j :: r, h => by
    simp only [List.mem_cons, not_or] at h
    simp only [pickR]
    split
    · simp only [remE]
      have : Nat.beq j i = false := by rw [← Bool.not_eq_true, Nat.beq_eq]; exact fun e => h.1 e.symm
      rw [this, cond_false, remE_none h.2]
    · exact remE_none h.2
theorem remE_ok {ops : Array Oper} {i : Nat} : ∀ {R : List Nat}, R.Nodup → remE i (pickR nc ops R) = pickR nc ops (R.erase i)
  | [], _ => rfl
  | j :: r, h => by
    obtain ⟨h1, h2⟩ := List.nodup_cons.1 h
    by_cases hij : j = i
    · subst hij
      rw [List.erase_cons_head]
      simp only [pickR]
      split
      · simp only [remE, Nat.beq_refl, cond_true]; exact remE_none h1
      · exact remE_none h1
    · rw [List.erase_cons_tail (by simpa using hij)]
      have hb : Nat.beq j i = false := by rw [← Bool.not_eq_true, Nat.beq_eq]; exact hij
      simp only [pickR]
      cases ho : ops[j]? with
      | some o => simp only [remE, hb, cond_false, remE_ok h2]
      | none => simp only [remE_ok h2]
theorem hxF_ok (hX : CxOk P X) (hb : base ≤ w0.w.heap.size) {ops : Array Oper} {K' : St → Prop} (hK : ∀ s, K s → K' s) : ∀ (m : Nat) (R done : List Nat) (s : St), R.Nodup → hxF P base w0 X nt K m (pickR nc ops R) done s → AXF nc P base nt w0 ops K' m R done s
  | 0, _, _, s, _, h => hK s h
  | m + 1, R, done, s, hd, h => by
    intro i hi o ho hh
    have h1 := hfAll_mem h _ (pickR_mem ho hi)
    simp only [waitsN_ok hh] at h1
    refine AX.mono (fun s hs => hxF_ok hX hb hK m (R.erase i) (i :: done) s (hd.erase _) ?_) _ _ (haxK_ok hX hb _ _ h1)
    rw [← remE_ok hd]; exact hs
theorem kont_haxNC (nc : List Nat) {id : Nat} {ops : Array Oper} (hX : CxOk P X) (hb : base ≤ w0.w.heap.size) (n : Nat) (hm : P.follows .mixedOrders = true) (l : List (Nat × Bool)) (R : List Nat) (hB : orderF nc X.L ops l R = true) (hU : undB ops s.fr = true)
    (h : hax P base w0 X nt (hxF P base w0 X nt (hKont P base w0 Q X nt n k) R.length (pickR nc ops R) (l.map (·.1))) (pickO nc ops l) s) : kont P base nt w0 Q (.code (.region id ops true) :: k) .normal s := by
  have hR : R.Nodup := by
    simp only [orderF, Bool.and_eq_true] at hB
    exact (leftB_ok hB.1.2).1
  exact kont_anyF hX.L hb hm l R hB hU (AX.mono (fun s hs => hxF_ok hX hb (fun s hs => kont_of_hx hX hb n hs) _ _ _ s hR hs) _ _ (haxK_ok hX hb _ _ h))
theorem kont_haxF {id : Nat} {ops : Array Oper} (hX : CxOk P X) (hb : base ≤ w0.w.heap.size) (n : Nat) (hm : P.follows .mixedOrders = true) (l : List (Nat × Bool)) (R : List Nat) (hB : orderF [] X.L ops l R = true) (hU : undB ops s.fr = true)
    (h : hax P base w0 X nt (hxF P base w0 X nt (hKont P base w0 Q X nt n k) R.length (pickR [] ops R) (l.map (·.1))) (pickO [] ops l) s) : kont P base nt w0 Q (.code (.region id ops true) :: k) .normal s := kont_haxNC [] hX hb n hm l R hB hU h
@[go_sem] theorem binds_data {i : Nat} : Region.binds .any ⟨i, .data⟩ = true := rfl
@[go_sem] theorem binds_chain {i : Nat} : Region.binds .any ⟨i, .chain⟩ = true := rfl
@[go_sem] theorem binds_guard {i : Nat} : Region.binds .any ⟨i, .guard⟩ = true := rfl
@[go_sem] theorem binds_phase {i : Nat} : Region.binds .any ⟨i, .phase⟩ = true := rfl
@[go_sem] theorem binds_text {i : Nat} {d : Departure} : Region.binds .any ⟨i, .textOnly d⟩ = false := rfl
@[go_sem] theorem binds_gc {i : Nat} {d : Departure} : Region.binds .any ⟨i, .gcOnly d⟩ = false := rfl
@[go_sem] theorem hxF_zero {es : List REn} {d : List Nat} : hxF P base w0 X nt K 0 es d s = K s := eqOf rfl
@[go_sem] theorem hxF_succ {m : Nat} {es : List REn} {d : List Nat} : hxF P base w0 X nt K (m + 1) es d s = hfAll (fun e => match allIn d e.2.2.2 with
    | true => hax P base w0 X nt (hxF P base w0 X nt K m (remE e.1 es) (e.1 :: d)) [(false, e.2.1, e.2.2.1)] s
    | false => True) es := eqOf rfl
end

/-! Counted loops. -/
def ForQ (P : Program) (base nt : Nat) (w0 : Start) (Q : Exit → St → Prop) (k : List Item) (S : Nat → St → Prop) (N i : Nat) : Exit → St → Prop
  | .normal, s => i < N ∧ ∃ s', Weak w0 s s' ∧ S (i + 1) s'
  | e, s => kont P base nt w0 Q k e s
section
variable {P : Program} {base nt : Nat} {w0 : Start} {Q : Exit → St → Prop} {k : List Item} {s : St}
@[go_sem] theorem ForQ_normal {S : Nat → St → Prop} {N i : Nat} : ForQ P base nt w0 Q k S N i .normal s = (i < N ∧ ∃ s', Weak w0 s s' ∧ S (i + 1) s') := eqOf rfl
@[go_sem] theorem ForQ_exit {S : Nat → St → Prop} {N i j : Nat} : ForQ P base nt w0 Q k S N i (.exit j) s = kont P base nt w0 Q k (.exit j) s := eqOf rfl
@[go_sem] theorem ForQ_ret {S : Nat → St → Prop} {N i : Nat} : ForQ P base nt w0 Q k S N i .ret s = kont P base nt w0 Q k .ret s := eqOf rfl
theorem kont_for {c : Code} (S : Nat → St → Prop) (N : Nat) {s0 : St} (hw : Weak w0 s s0) (h0 : S 0 s0) (round : ∀ i s, i ≤ N → S i s → kont P base nt w0 (ForQ P base nt w0 Q k S N i) [.code c] .normal s) : kont P base nt w0 Q (.code (.loop c) :: k) .normal s := by
  refine kont_loop (fun m s => ∃ i, i + m = N ∧ S i s) N hw ⟨0, by omega, h0⟩ ?_
  rintro m s ⟨i, hi, hs⟩
  have := round i s (by omega) hs
  simp only [kont] at this ⊢
  refine this.mono fun e s' he => ?_
  cases e with
  | normal => obtain ⟨h1, s'', h2, h3⟩ := he; exact ⟨m - 1, s'', by omega, h2, i + 1, by omega, h3⟩
  | _ => exact he
end
theorem kont_weak_ops {P : Program} {base nt : Nat} {w0 : Start} {Q : Exit → St → Prop} {l : List (Oper × G)} {k : List Item} {s s' : St} (h : Weak w0 s s') (hk : kont P base nt w0 Q (.ops l :: k) .normal s') : kont P base nt w0 Q (.ops l :: k) .normal s := by
  simp only [kont] at hk ⊢; exact hk.weak h
attribute [go_sem] stripN pickR waitsN remE allIn memB hfAll pickO argsEq false_implies imp_self ne_eq not_false_eq_true not_true_eq_false Nat.one_ne_zero
@[go_sem] theorem oneCell_raw (v : Value) : D.oneCell (.raw v) = oneV v := rfl
@[go_sem] theorem oneCell_nil  : D.oneCell (.nil) = true := rfl
@[go_sem] theorem oneCell_undef  : D.oneCell (.undef) = false := rfl
@[go_sem] theorem oneCell_imm (z n : Nat) (r : Nat → List D) : D.oneCell (.imm z n r) = true := rfl
@[go_sem] theorem oneCell_ip (c : List D) : D.oneCell (.ip c) = true := rfl
@[go_sem] theorem oneCell_ref (l g o n : Nat) : D.oneCell (.ref l g o n) = true := rfl
@[go_sem] theorem oneCell_ptr (l g i j : Nat) : D.oneCell (.ptr l g i j) = true := rfl
@[go_sem] theorem oneCell_mref (l g : Nat) : D.oneCell (.mref l g) = true := rfl
@[go_sem] theorem oneCell_clo (f : FuncId) (n : Nat) (c : List D) : D.oneCell (.clo f n c) = true := rfl
@[go_sem] theorem oneCell_agg (c : List D) : D.oneCell (.agg c) = false := rfl
@[go_sem] theorem oneCell_tup (c : List D) : D.oneCell (.tup c) = false := rfl
@[go_sem] theorem cellsD_raw (v : Value) : cellsD (.raw v) = bif D.oneCell (.raw v) then some [.raw v] else none := rfl
@[go_sem] theorem cellsD_nil  : cellsD (.nil) = bif D.oneCell (.nil) then some [.nil] else none := rfl
@[go_sem] theorem cellsD_undef  : cellsD (.undef) = bif D.oneCell (.undef) then some [.undef] else none := rfl
@[go_sem] theorem cellsD_imm (z n : Nat) (r : Nat → List D) : cellsD (.imm z n r) = bif D.oneCell (.imm z n r) then some [.imm z n r] else none := rfl
@[go_sem] theorem cellsD_ip (c : List D) : cellsD (.ip c) = bif D.oneCell (.ip c) then some [.ip c] else none := rfl
@[go_sem] theorem cellsD_ref (l g o n : Nat) : cellsD (.ref l g o n) = bif D.oneCell (.ref l g o n) then some [.ref l g o n] else none := rfl
@[go_sem] theorem cellsD_ptr (l g i j : Nat) : cellsD (.ptr l g i j) = bif D.oneCell (.ptr l g i j) then some [.ptr l g i j] else none := rfl
@[go_sem] theorem cellsD_mref (l g : Nat) : cellsD (.mref l g) = bif D.oneCell (.mref l g) then some [.mref l g] else none := rfl
@[go_sem] theorem cellsD_clo (f : FuncId) (n : Nat) (c : List D) : cellsD (.clo f n c) = bif D.oneCell (.clo f n c) then some [.clo f n c] else none := rfl
@[go_sem] theorem cellsD_agg (c : List D) : cellsD (.agg c) = bif c.all D.oneCell then some c else none := rfl
@[go_sem] theorem cellsD_tup (c : List D) : cellsD (.tup c) = bif D.oneCell (.tup c) then some [.tup c] else none := rfl
@[go_sem] theorem argEq_raw (d' : D) (v : Value) : argEq d' (.raw v) = (d' = .raw v) := rfl
@[go_sem] theorem argEq_nil (d' : D)  : argEq d' (.nil) = (d' = .nil) := rfl
@[go_sem] theorem argEq_undef (d' : D)  : argEq d' (.undef) = (d' = .undef) := rfl
@[go_sem] theorem argEq_imm (z' n' z n : Nat) (r' r : Nat → List D) : argEq (.imm z' n' r') (.imm z n r) = (z' = z ∧ n' = n ∧ ∀ i, i < n → r' i = r i) := rfl
@[go_sem] theorem argEq_ip (d' : D) (c : List D) : argEq d' (.ip c) = (d' = .ip c) := rfl
@[go_sem] theorem argEq_ref (d' : D) (l g o n : Nat) : argEq d' (.ref l g o n) = (d' = .ref l g o n) := rfl
@[go_sem] theorem argEq_ptr (d' : D) (l g i j : Nat) : argEq d' (.ptr l g i j) = (d' = .ptr l g i j) := rfl
@[go_sem] theorem argEq_mref (d' : D) (l g : Nat) : argEq d' (.mref l g) = (d' = .mref l g) := rfl
@[go_sem] theorem argEq_clo (d' : D) (f : FuncId) (n : Nat) (c : List D) : argEq d' (.clo f n c) = (d' = .clo f n c) := rfl
@[go_sem] theorem argEq_agg (d' : D) (c : List D) : argEq d' (.agg c) = (d' = .agg c) := rfl
@[go_sem] theorem argEq_tup (d' : D) (c : List D) : argEq d' (.tup c) = (d' = .tup c) := rfl
end Go.Fg
namespace Go.Fg
set_option linter.unusedSimpArgs false
set_option linter.unusedVariables false
open Go.RowKit (Below)

def pos (l : Nat) : List Nat → Nat
  | [] => 0
  | k :: r => bif Nat.beq k l then 0 else pos l r + 1
mutual
def D.ren (sel : List Nat) : D → D
  | .ref l g off len => .ref (pos l sel) g off len
  | .ptr l g i j => .ptr (pos l sel) g i j
  | .mref l g => .mref (pos l sel) g
  | .clo f nf cs => .clo f nf (renL sel cs)
  | .agg cs => .agg (renL sel cs)
  | .tup cs => .tup (renL sel cs)
  | d => d
def renL (sel : List Nat) : List D → List D
  | [] => []
  | c :: cs => c.ren sel :: renL sel cs
end
mutual
def D.among (sel : List Nat) : D → Bool
  | .ref l _ _ _ => memB l sel
  | .ptr l _ _ _ => memB l sel
  | .mref l _ => memB l sel
  | .clo _ _ cs => amongL sel cs
  | .agg cs => amongL sel cs
  | .tup cs => amongL sel cs
  | _ => true
def amongL (sel : List Nat) : List D → Bool
  | [] => true
  | c :: cs => c.among sel && amongL sel cs
end
theorem pos_get {l : Nat} : ∀ {sel : List Nat}, memB l sel = true → sel[pos l sel]? = some l
  | [], h => by cases h
  | k :: r, h => by
    simp only [pos]
    by_cases e : k = l
    · subst e; simp
    · have h1 : Nat.beq k l = false := by rw [← Bool.not_eq_true, Nat.beq_eq]; exact e
      have h2 : Nat.beq l k = false := by rw [← Bool.not_eq_true, Nat.beq_eq]; exact fun x => e x.symm
      simp only [memB, h2, Bool.false_or] at h
      simp [h1, pos_get h]
theorem renL_length (sel : List Nat) : ∀ cs : List D, (renL sel cs).length = cs.length
  | [] => rfl
  | _ :: cs => by simp [renL, renL_length sel cs]
theorem nth_renL (sel : List Nat) : ∀ (cs : List D) (i : Nat), i < cs.length → nth (renL sel cs) i = (nth cs i).ren sel
  | [], i, h => by simp at h
  | c :: cs, 0, _ => by simp [renL, nth]
  | c :: cs, i + 1, h => by
    have := nth_renL sel cs i (by simpa using h)
    simpa [renL, nth] using this
theorem amongL_nth {sel : List Nat} : ∀ {cs : List D}, amongL sel cs = true → ∀ i, i < cs.length → (nth cs i).among sel = true
  | [], _, i, h => by simp at h
  | d :: r, hf, i, h => by
    simp only [amongL, Bool.and_eq_true] at hf
    cases i with
    | zero => exact hf.1
    | succ i => have := amongL_nth hf.2 i (by simpa using h); simpa [nth] using this
def Ob.ren (sel : List Nat) (o : Ob) : Ob := ⟨o.kd, o.gen, o.sz, o.n, fun i => renL sel (o.row i)⟩
/-- The objects of these numbers, in this order. -/
def pickObs (h : List Ob) : List Nat → List Ob
  | [] => []
  | i :: r => match h[i]? with
    | some o => o :: pickObs h r
    | none => []
def pickPl (pl : List Pl) : List Nat → List Pl
  | [] => []
  | i :: r => match pl[i]? with
    | some o => o :: pickPl pl r
    | none => []
def inB (n : Nat) : List Nat → Bool
  | [] => true
  | i :: r => Nat.blt i n && inB n r
def nodupB : List Nat → Bool
  | [] => true
  | i :: r => !memB i r && nodupB r
theorem inB_ok {n : Nat} : ∀ {l : List Nat}, inB n l = true → ∀ i ∈ l, i < n
  | [], _, i, h => by cases h
  | k :: r, h, i, hi => by
    simp only [inB, Bool.and_eq_true, Nat.blt_eq] at h
    rcases List.mem_cons.1 hi with e | e
    · subst e; exact h.1
    · exact inB_ok h.2 i e
theorem nodupB_ok : ∀ {l : List Nat}, nodupB l = true → ∀ (i j x : Nat), l[i]? = some x → l[j]? = some x → i = j
  | [], _, i, j, x, h, _ => by simp at h
  | k :: r, h, i, j, x, h1, h2 => by
    simp only [nodupB, Bool.and_eq_true, Bool.not_eq_true'] at h
    have hk : k ∉ r := fun hm => by rw [memB_iff.2 hm] at h; cases h.1
    cases i with
    | zero =>
      simp at h1; subst h1
      cases j with
      | zero => rfl
      | succ j => simp at h2; exact absurd (List.mem_of_getElem? h2) hk
    | succ i =>
      simp at h1
      cases j with
      | zero => simp at h2; subst h2; exact absurd (List.mem_of_getElem? h1) hk
      | succ j => simp at h2; rw [nodupB_ok h.2 i j x h1 h2]
theorem pickObs_get {h : List Ob} : ∀ {sel : List Nat}, inB h.length sel = true → ∀ (i l : Nat), sel[i]? = some l → (pickObs h sel)[i]? = h[l]?
  | [], _, i, l, e => by simp at e
  | k :: r, hb, i, l, e => by
    simp only [inB, Bool.and_eq_true, Nat.blt_eq] at hb
    simp only [pickObs, List.getElem?_eq_getElem hb.1]
    cases i with
    | zero => simp at e; subst e; simp [List.getElem?_eq_getElem hb.1]
    | succ i => simp at e; simpa using pickObs_get hb.2 i l e
theorem pickPl_get {h : List Pl} : ∀ {sel : List Nat}, inB h.length sel = true → ∀ (i l : Nat), sel[i]? = some l → (pickPl h sel)[i]? = h[l]?
  | [], _, i, l, e => by simp at e
  | k :: r, hb, i, l, e => by
    simp only [inB, Bool.and_eq_true, Nat.blt_eq] at hb
    simp only [pickPl, List.getElem?_eq_getElem hb.1]
    cases i with
    | zero => simp at e; subst e; simp [List.getElem?_eq_getElem hb.1]
    | succ i => simp at e; simpa using pickPl_get hb.2 i l e
theorem pickObs_length {h : List Ob} : ∀ {sel : List Nat}, inB h.length sel = true → (pickObs h sel).length = sel.length
  | [], _ => rfl
  | k :: r, hb => by
    simp only [inB, Bool.and_eq_true, Nat.blt_eq] at hb
    simp [pickObs, List.getElem?_eq_getElem hb.1, pickObs_length hb.2]
theorem pickPl_length {h : List Pl} : ∀ {sel : List Nat}, inB h.length sel = true → (pickPl h sel).length = sel.length
  | [], _ => rfl
  | k :: r, hb => by
    simp only [inB, Bool.and_eq_true, Nat.blt_eq] at hb
    simp [pickPl, List.getElem?_eq_getElem hb.1, pickPl_length hb.2]

theorem RelV.sel {Z Z' : Nat → Prop} {h : List Ob} {pl : List Pl} {w : World} {sel : List Nat} (hz : ∀ b, free Z pl b → Z' b) (hl : pl.length = h.length) (hb : inB h.length sel = true) {d : D} {v : Value} (r : RelV Z h pl w d v) (hk : d.among sel = true) :
    RelV Z' ((pickObs h sel).map (Ob.ren sel)) (pickPl pl sel) w (d.ren sel) v := by
  have hbp : inB pl.length sel = true := by rw [hl]; exact hb
  have hfr : ∀ b, free Z pl b → free Z' (pickPl pl sel) b := fun b hf => ⟨hz b hf, fun l q e => by
    have hlt : l < sel.length := by rw [← pickPl_length hbp]; exact ltp_of_some e
    rw [pickPl_get hbp l (sel[l]) (List.getElem?_eq_getElem hlt)] at e
    exact hf.2 _ q e⟩
  have hcl : ∀ (d : D) (v : Value), Cl (free Z pl) w d v → RelV Z' ((pickObs h sel).map (Ob.ren sel)) (pickPl pl sel) w (d.ren sel) v := by
    intro d v hc
    have hc2 := hc.mono (N' := free Z' (pickPl pl sel)) (w' := w) (fun b hb _ => ⟨hfr b hb, rfl⟩)
    clear hc
    induction hc2 with
    | raw v => exact .cl _ _ (.raw v)
    | undef v => exact .cl _ _ (.undef v)
    | nil a => exact .cl _ _ (.nil a)
    | imm sz n row a cap b o vs ha hl hs hc hr ih => exact .cl _ _ (.imm sz n row a cap b o vs ha hl hs hc hr)
    | ip cells b o vs hc hr ih => exact .cl _ _ (.ip cells b o vs hc hr)
    | clo f nf cs vs hl hr ih => exact .clo f nf _ vs (by rw [renL_length]; exact hl) (fun i hi => by rw [renL_length] at hi; rw [nth_renL _ _ _ hi]; exact ih i hi)
    | agg cs vs hl hr ih => exact .agg _ vs (by rw [renL_length]; exact hl) (fun i hi => by rw [renL_length] at hi; rw [nth_renL _ _ _ hi]; exact ih i hi)
    | tup cs vs hl hr ih => exact .tup _ vs (by rw [renL_length]; exact hl) (fun i hi => by rw [renL_length] at hi; rw [nth_renL _ _ _ hi]; exact ih i hi)
  induction r with
  | cl d v hc => exact hcl d v hc
  | ref l g off len o p a cap ho hp hkk hg hs =>
    have hm : memB l sel = true := by simpa [D.among] using hk
    exact .ref _ g off len (o.ren sel) p a cap (by rw [List.getElem?_map, pickObs_get hb _ l (pos_get hm), ho]; rfl) (by rw [pickPl_get hbp _ l (pos_get hm), hp]) hkk hg hs
  | ptr l g i j o p a ho hp hkk hg hs =>
    have hm : memB l sel = true := by simpa [D.among] using hk
    exact .ptr _ g i j (o.ren sel) p a (by rw [List.getElem?_map, pickObs_get hb _ l (pos_get hm), ho]; rfl) (by rw [pickPl_get hbp _ l (pos_get hm), hp]) hkk hg hs
  | mref l g o p b ho hp hkk hg hs =>
    have hm : memB l sel = true := by simpa [D.among] using hk
    exact .mref _ g (o.ren sel) p b (by rw [List.getElem?_map, pickObs_get hb _ l (pos_get hm), ho]; rfl) (by rw [pickPl_get hbp _ l (pos_get hm), hp]) hkk hg hs
  | clo f nf cs vs hl hr ih => exact .clo f nf _ vs (by rw [renL_length]; exact hl) fun i hi => by rw [renL_length] at hi; rw [nth_renL _ _ _ hi]; exact ih i hi (amongL_nth (by simpa [D.among] using hk) i hi)
  | agg cs vs hl hr ih => exact .agg _ vs (by rw [renL_length]; exact hl) fun i hi => by rw [renL_length] at hi; rw [nth_renL _ _ _ hi]; exact ih i hi (amongL_nth (by simpa [D.among] using hk) i hi)
  | tup cs vs hl hr ih => exact .tup _ vs (by rw [renL_length]; exact hl) fun i hi => by rw [renL_length] at hi; rw [nth_renL _ _ _ hi]; exact ih i hi (amongL_nth (by simpa [D.among] using hk) i hi)

def obsAmong (sel : List Nat) : List Ob → Prop
  | [] => True
  | o :: r => (∀ i, i < o.n → amongL sel (o.row i) = true) ∧ obsAmong sel r
theorem obsAmong_get {sel : List Nat} : ∀ {h : List Ob}, obsAmong sel h → ∀ (l : Nat) (o : Ob), h[l]? = some o → ∀ i, i < o.n → amongL sel (o.row i) = true
  | [], _, l, o, e => by simp at e
  | o :: r, h, l, u, e => by
    cases l with
    | zero => simp at e; subst e; exact h.1
    | succ l => simp at e; exact obsAmong_get h.2 l u e
theorem RelO.sel {Z Z' : Nat → Prop} {base : Nat} {h : List Ob} {pl : List Pl} {w : World} {sel : List Nat} (R : RelO Z base h pl w) (hz : ∀ b, free Z pl b → Z' b) (hb : inB h.length sel = true) (hd : nodupB sel = true) (h2 : obsAmong sel (pickObs h sel)) :
    RelO Z' base ((pickObs h sel).map (Ob.ren sel)) (pickPl pl sel) w := by
  have hbp : inB pl.length sel = true := by rw [R.len]; exact hb
  have hpl : ∀ (i : Nat) (p : Pl), (pickPl pl sel)[i]? = some p → ∃ l, sel[i]? = some l ∧ pl[l]? = some p := fun i p e => by
    have hlt : i < sel.length := by rw [← pickPl_length hbp]; exact ltp_of_some e
    exact ⟨sel[i], List.getElem?_eq_getElem hlt, by rw [← pickPl_get hbp i _ (List.getElem?_eq_getElem hlt)]; exact e⟩
  have hob : ∀ (i : Nat) (o : Ob), ((pickObs h sel).map (Ob.ren sel))[i]? = some o → ∃ l u, sel[i]? = some l ∧ h[l]? = some u ∧ o = u.ren sel ∧ (pickObs h sel)[i]? = some u := fun i o e => by
    rw [List.getElem?_map, Option.map_eq_some_iff] at e
    obtain ⟨u, hu, rfl⟩ := e
    have hlt : i < sel.length := by rw [← pickObs_length hb]; exact lt_of_some hu
    exact ⟨sel[i], u, List.getElem?_eq_getElem hlt, by rw [← pickObs_get hb i _ (List.getElem?_eq_getElem hlt)]; exact hu, rfl, hu⟩
  refine ⟨by rw [pickPl_length hbp, List.length_map, pickObs_length hb], fun i i' b q q' e1 e2 => ?_, fun i o ho hp => ?_, fun i o b q ho hp => ?_⟩
  · obtain ⟨l, s1, p1⟩ := hpl _ _ e1
    obtain ⟨l', s2, p2⟩ := hpl _ _ e2
    have := R.inj l l' b q q' p1 p2
    subst this
    exact nodupB_ok hd i i' l s1 s2
  · obtain ⟨l, u, s1, hu, rfl, _⟩ := hob _ _ ho
    obtain ⟨l', s2, p2⟩ := hpl _ _ hp
    rw [s1] at s2; cases s2
    exact R.noRow l u hu p2
  · obtain ⟨l, u, s1, hu, rfl, hu2⟩ := hob _ _ ho
    obtain ⟨l', s2, p2⟩ := hpl _ _ hp
    rw [s1] at s2; cases s2
    obtain ⟨g1, x⟩ := R.at_ l u b q hu p2
    refine ⟨g1, x.to rfl rfl rfl rfl (fun k _ => renL_length _ _) fun k j v hk hj hr => ?_⟩
    show RelV _ _ _ _ (nth (renL sel (u.row k)) j) v
    rw [nth_renL _ _ _ hj]
    exact hr.sel hz R.len hb (amongL_nth (obsAmong_get h2 i u hu2 k hk) j hj)

theorem pickPl_away {pl : List Pl} {sel : List Nat} (hb : inB pl.length sel = true) {b : Nat} (h : away pl b) : away (pickPl pl sel) b := fun l q e => by
  have hlt : l < sel.length := by rw [← pickPl_length hb]; exact ltp_of_some e
  rw [pickPl_get hb l (sel[l]) (List.getElem?_eq_getElem hlt)] at e
  exact h _ q e
/-- The result, with these objects alone, in this order. -/
def KeptSel (sel : List Nat) (R : D → List Ob → Prop) (d : D) (h : List Ob) : Prop := d.among sel = true ∧ inB h.length sel = true ∧ obsAmong sel (pickObs h sel) ∧ R (d.ren sel) ((pickObs h sel).map (Ob.ren sel))
/-- The list begins 0, 1, .. up to m. -/
def startsB : Nat → Nat → List Nat → Bool
  | 0, _, _ => true
  | _ + 1, _, [] => false
  | m + 1, i, k :: r => Nat.beq k i && startsB m (i + 1) r
theorem startsB_ok : ∀ {m i : Nat} {sel : List Nat}, startsB m i sel = true → ∀ l, l < m → sel[l]? = some (i + l)
  | 0, _, _, _, l, hl => by omega
  | m + 1, i, [], h, _, _ => by cases h
  | m + 1, i, k :: r, h, l, hl => by
    simp only [startsB, Bool.and_eq_true] at h
    obtain rfl := Nat.eq_of_beq_eq_true h.1
    cases l with
    | zero => simp
    | succ l => rw [List.getElem?_cons_succ, startsB_ok h.2 l (by omega)]; congr 1; omega
theorem MFn.sel {P : Program} {f : FuncId} {F : List Ob} {args : List D} {R : D → List Ob → Prop} (sel : List Nat) (hd : nodupB sel = true) (hs : startsB F.length 0 sel = true) (h : MFn P f F args (KeptSel sel R)) : MFn P f F args R := fun Z base w pl vs h1 h2 h3 hl hc =>
  (h Z base w pl vs h1 h2 h3 hl hc).mono fun _ _ ⟨v, d, hh, pl', k1, ⟨a1, a2, a3, a4⟩, k3, k4, k5, k6⟩ => ⟨v, d.ren sel, _, pickPl pl' sel, k1, a4, k3.sel (fun _ h => h.1) a2 hd a3, k4.sel (fun _ h => h.1) k3.len a2 a1,
    k5.keep (Nat.le_refl _) ⟨fun _ hb => pickPl_away (by rw [k3.len]; exact a2) hb, fun l o p hl ho hp => by
      have e := startsB_ok hs l hl
      rw [Nat.zero_add] at e
      exact ⟨o.ren sel, by rw [List.getElem?_map, pickObs_get a2 l l e, ho]; rfl, by rw [pickPl_get (by rw [k3.len]; exact a2) l l e, hp], rfl, rfl, rfl⟩⟩, k6⟩
theorem AFn_hxs (sel : List Nat) (hd : nodupB sel = true) {P : Program} {X : Cx} (hX : CxOk P X) {f : FuncId} {fn : Func} {c : Code} (n : Nat) (hf : P.funcs[f]? = some fn) (hb : fn.body = some c) {args : List D} {R : D → List Ob → Prop} {nt : Nat} {rs : Array ResultVar} (hnt : fn.ntmps = nt) (hrs : fn.results = rs) (hn : Nat.ble args.length nt = true)
    (h : ∀ (base : Nat) (w : World), base ≤ w.heap.size → hx P base ⟨w, [], []⟩ (Post X.L rs.toList (KeptSel sel R)) X nt n [.code c] ⟨initFr args 0, []⟩) : AFn P f args R :=
  MFn.sel sel hd rfl (AFn_hx hX n hf hb hnt hrs hn h)
theorem MFn_hxs (sel : List Nat) (hd : nodupB sel = true) {P : Program} {X : Cx} (hX : CxOk P X) {f : FuncId} {fn : Func} {c : Code} (n : Nat) (hf : P.funcs[f]? = some fn) (hb : fn.body = some c) {F : List Ob} (hs : startsB F.length 0 sel = true) {args : List D} {R : D → List Ob → Prop} {nt : Nat} {rs : Array ResultVar} (hnt : fn.ntmps = nt) (hrs : fn.results = rs) (hn : Nat.ble args.length nt = true)
    (h : ∀ (base : Nat) (w : World) (pl : List Pl), base ≤ w.heap.size → hx P base ⟨w, F, pl⟩ (Post X.L rs.toList (KeptSel sel R)) X nt n [.code c] ⟨initFr args 0, F⟩) : MFn P f F args R :=
  MFn.sel sel hd hs (MFn_hx hX n hf hb hnt hrs hn h)
attribute [go_sem] KeptSel pos D.ren renL D.among amongL Ob.ren pickObs inB obsAmong memB

/-! A call with objects lent. -/
mutual
def D.idx (φ : Nat → Nat) : D → D
  | .ref l g off len => .ref (φ l) g off len
  | .ptr l g i j => .ptr (φ l) g i j
  | .mref l g => .mref (φ l) g
  | .clo f nf cs => .clo f nf (idxL φ cs)
  | .agg cs => .agg (idxL φ cs)
  | .tup cs => .tup (idxL φ cs)
  | d => d
def idxL (φ : Nat → Nat) : List D → List D
  | [] => []
  | c :: cs => c.idx φ :: idxL φ cs
end
theorem idxL_length (φ : Nat → Nat) : ∀ cs : List D, (idxL φ cs).length = cs.length
  | [] => rfl
  | _ :: cs => by simp [idxL, idxL_length φ cs]
theorem nth_idxL (φ : Nat → Nat) : ∀ (cs : List D) (i : Nat), i < cs.length → nth (idxL φ cs) i = (nth cs i).idx φ
  | [], i, h => by simp at h
  | c :: cs, 0, _ => by simp [idxL, nth]
  | c :: cs, i + 1, h => by
    have := nth_idxL φ cs i (by simpa using h)
    simpa [idxL, nth] using this
def Ob.idx (φ : Nat → Nat) (o : Ob) : Ob := ⟨o.kd, o.gen, o.sz, o.n, fun i => idxL φ (o.row i)⟩
theorem RelV.idx {Z Z' : Nat → Prop} {h h' : List Ob} {pl pl' : List Pl} {w : World} (φ : Nat → Nat) (hf : ∀ b, free Z pl b → free Z' pl' b)
    (hob : ∀ (l : Nat) (o : Ob) (p : Pl), h[l]? = some o → pl[l]? = some p → ∃ o', h'[φ l]? = some o' ∧ pl'[φ l]? = some p ∧ o'.gen = o.gen ∧ o'.sz = o.sz ∧ o'.kd.ty = o.kd.ty) {d : D} {v : Value} (r : RelV Z h pl w d v) : RelV Z' h' pl' w (d.idx φ) v := by
  have hcl : ∀ (d : D) (v : Value), Cl (free Z pl) w d v → RelV Z' h' pl' w (d.idx φ) v := by
    intro d v hc
    have hc2 := hc.mono (N' := free Z' pl') (w' := w) (fun b hb _ => ⟨hf b hb, rfl⟩)
    clear hc
    induction hc2 with
    | raw v => exact .cl _ _ (.raw v)
    | undef v => exact .cl _ _ (.undef v)
    | nil a => exact .cl _ _ (.nil a)
    | imm sz n row a cap b o vs ha hl hs hc hr ih => exact .cl _ _ (.imm sz n row a cap b o vs ha hl hs hc hr)
    | ip cells b o vs hc hr ih => exact .cl _ _ (.ip cells b o vs hc hr)
    | clo f nf cs vs hl hr ih => exact .clo f nf _ vs (by rw [idxL_length]; exact hl) (fun i hi => by rw [idxL_length] at hi; rw [nth_idxL _ _ _ hi]; exact ih i hi)
    | agg cs vs hl hr ih => exact .agg _ vs (by rw [idxL_length]; exact hl) (fun i hi => by rw [idxL_length] at hi; rw [nth_idxL _ _ _ hi]; exact ih i hi)
    | tup cs vs hl hr ih => exact .tup _ vs (by rw [idxL_length]; exact hl) (fun i hi => by rw [idxL_length] at hi; rw [nth_idxL _ _ _ hi]; exact ih i hi)
  induction r with
  | cl d v hc => exact hcl d v hc
  | ref l g off len o p a cap ho hp hk hg hs =>
    obtain ⟨o', h1, h2, h3, h4, h5⟩ := hob l o p ho hp
    exact .ref _ g off len o' p a cap h1 h2 (by rw [h5]; exact hk) (by rw [h3]; exact hg) (by rw [h3, h4]; exact hs)
  | ptr l g i j o p a ho hp hk hg hs =>
    obtain ⟨o', h1, h2, h3, h4, h5⟩ := hob l o p ho hp
    exact .ptr _ g i j o' p a h1 h2 (by rw [h5]; exact hk) (by rw [h3]; exact hg) (by rw [h3, h4]; exact hs)
  | mref l g o p b ho hp hk hg hs =>
    obtain ⟨o', h1, h2, h3, h4, h5⟩ := hob l o p ho hp
    exact .mref _ g o' p b h1 h2 (by rw [h5]; exact hk) (by rw [h3]; exact hg) (by rw [h3]; exact hs)
  | clo f nf cs vs hl hr ih => exact .clo f nf _ vs (by rw [idxL_length]; exact hl) (fun i hi => by rw [idxL_length] at hi; rw [nth_idxL _ _ _ hi]; exact ih i hi)
  | agg cs vs hl hr ih => exact .agg _ vs (by rw [idxL_length]; exact hl) (fun i hi => by rw [idxL_length] at hi; rw [nth_idxL _ _ _ hi]; exact ih i hi)
  | tup cs vs hl hr ih => exact .tup _ vs (by rw [idxL_length]; exact hl) (fun i hi => by rw [idxL_length] at hi; rw [nth_idxL _ _ _ hi]; exact ih i hi)

/-- The callee's numbers, ens the caller's. -/
def backN (n : Nat) : List Nat → Nat → Nat
  | [], i => n + i
  | k :: _, 0 => k
  | _ :: r, i + 1 => backN n r i
def putBack {α : Type} (h : List α) : List Nat → List α → List α
  | [], xs => h ++ xs
  | k :: r, x :: xs => putBack (h.set k x) r xs
  | _ :: _, [] => h
theorem backN_lt {n : Nat} : ∀ {sel : List Nat} {i l : Nat}, sel[i]? = some l → backN n sel i = l
  | [], i, l, h => by simp at h
  | k :: r, 0, l, h => by simp at h; simp [backN, h]
  | k :: r, i + 1, l, h => by simp at h; simp [backN, backN_lt h]
theorem backN_ge {n : Nat} : ∀ {sel : List Nat} {i : Nat}, backN n sel (sel.length + i) = n + i
  | [], i => by simp [backN]
  | k :: r, i => by
    rw [show (k :: r).length + i = (r.length + i) + 1 by simp; omega]
    simp only [backN]; exact backN_ge
theorem putBack_get {α : Type} : ∀ {sel : List Nat} {h xs : List α}, inB h.length sel = true → nodupB sel = true → sel.length ≤ xs.length → ∀ (i : Nat), i < xs.length → (putBack h sel xs)[backN h.length sel i]? = xs[i]?
  | [], h, xs, _, _, _, i, hi => by
    simp only [putBack, backN]
    rw [List.getElem?_append_right (by omega)]; congr 1; omega
  | k :: r, h, [], _, _, hl, i, hi => by simp at hi
  | k :: r, h, x :: xs, hb, hd, hl, i, hi => by
    simp only [inB, Bool.and_eq_true, Nat.blt_eq] at hb
    simp only [nodupB, Bool.and_eq_true, Bool.not_eq_true'] at hd
    simp only [putBack]
    have hlen : (h.set k x).length = h.length := by simp
    cases i with
    | zero =>
      have hk : k ∉ r := fun hm => by rw [memB_iff.2 hm] at hd; cases hd.1
      have key : ∀ (r : List Nat) (h' xs : List α), k ∉ r → k < h'.length → (putBack h' r xs)[k]? = h'[k]? := by
        intro r
        induction r with
        | nil => intro h' xs _ hlt; simp only [putBack]; rw [List.getElem?_append_left hlt]
        | cons j r ih =>
          intro h' xs hm hlt
          cases xs with
          | nil => rfl
          | cons y ys =>
            simp only [putBack]
            rw [ih (h'.set j y) ys (fun hh => hm (List.mem_cons_of_mem _ hh)) (by simpa using hlt), List.getElem?_set_ne (fun e => hm (by rw [e]; exact List.mem_cons_self))]
      simp only [backN]
      rw [key r (h.set k x) xs hk (by simpa using hb.1)]
      simp [hb.1]
    | succ i =>
      simp only [backN]
      rw [← hlen]
      exact putBack_get (by rw [hlen]; exact hb.2) hd.2 (by simpa using hl) i (by simpa using hi)
theorem putBack_other {α : Type} : ∀ {sel : List Nat} {h xs : List α} {l : Nat}, l < h.length → l ∉ sel → (putBack h sel xs)[l]? = h[l]?
  | [], h, xs, l, hl, _ => by simp only [putBack]; rw [List.getElem?_append_left hl]
  | k :: r, h, [], l, hl, _ => rfl
  | k :: r, h, x :: xs, l, hl, hm => by
    simp only [putBack]
    rw [putBack_other (by simpa using hl) (fun hh => hm (List.mem_cons_of_mem _ hh)), List.getElem?_set_ne (fun e => hm (by rw [e]; exact List.mem_cons_self))]
theorem putBack_length {α : Type} : ∀ {sel : List Nat} {h xs : List α}, sel.length ≤ xs.length → (putBack h sel xs).length = h.length + (xs.length - sel.length)
  | [], h, xs, _ => by simp [putBack]
  | k :: r, h, [], hl => by simp at hl
  | k :: r, h, x :: xs, hl => by
    simp only [putBack]
    rw [putBack_length (by simpa using hl)]; simp
/-- Each place is one of the callee's, or one of the caller's that was not lent. -/
theorem putBack_cases {α : Type} {sel : List Nat} {h xs : List α} (hb : inB h.length sel = true) (hl : sel.length ≤ xs.length) {l : Nat} (h1 : l < h.length + (xs.length - sel.length)) :
    (∃ i, i < xs.length ∧ l = backN h.length sel i) ∨ (l < h.length ∧ l ∉ sel) := by
  by_cases hlt : l < h.length
  · by_cases hm : l ∈ sel
    · obtain ⟨i, hi, e⟩ := List.getElem_of_mem hm
      exact .inl ⟨i, by omega, (backN_lt (by rw [List.getElem?_eq_getElem hi, e])).symm⟩
    · exact .inr ⟨hlt, hm⟩
  · refine .inl ⟨sel.length + (l - h.length), by omega, ?_⟩
    rw [backN_ge]; omega
section
variable {P : Program} {base nt : Nat} {w0 : Start} {Q : Exit → St → Prop}
def backObs (h : List Ob) (sel : List Nat) (h' : List Ob) : List Ob := putBack h sel (h'.map (Ob.idx (backN h.length sel)))

/-- What a call with objects lent leaves. -/
theorem foot_join {Z : Nat → Prop} {s : St} {pl : List Pl} {w w' : World} {sel : List Nat} (R : RelO Z base s.h pl w) (hbase : base ≤ w.heap.size) (hz : ∀ b, w.heap.size ≤ b → Z b) (hb : inB s.h.length sel = true) (hd : nodupB sel = true)
    {h' : List Ob} {pl' : List Pl} {d : D} {v : Value} {F : List Ob} (hF : F.length = sel.length) (hFk : ∀ (i : Nat) (o u : Ob), F[i]? = some o → (∃ l, sel[i]? = some l ∧ s.h[l]? = some u) → o.gen = u.gen ∧ o.sz = u.sz ∧ o.kd.ty = u.kd.ty)
    (O' : RelO (fun b => Z b ∧ ∀ l q, pl[l]? = some (some (b, q)) → l ∈ sel) base h' pl' w') (V' : RelV (fun b => Z b ∧ ∀ l q, pl[l]? = some (some (b, q)) → l ∈ sel) h' pl' w' d v)
    (T : Tr F (pickPl pl sel) w h' pl' w') (B : Below base w w') :
    Tr s.h pl w (backObs s.h sel h') (putBack pl sel pl') w' ∧ RelO Z base (backObs s.h sel h') (putBack pl sel pl') w' ∧ RelV Z (backObs s.h sel h') (putBack pl sel pl') w' (d.idx (backN s.h.length sel)) v := by
  have hbp : inB pl.length sel = true := by rw [R.len]; exact hb
  have hpl' : pl'.length = h'.length := O'.len
  -- the callee keeps what it was lent
  have hkeep : ∀ (i l : Nat), sel[i]? = some l → ∃ u p o' p', s.h[l]? = some u ∧ pl[l]? = some p ∧ h'[i]? = some o' ∧ pl'[i]? = some p' ∧ u.gen ≤ o'.gen ∧ o'.kd.ty = u.kd.ty ∧ (o'.gen = u.gen → o'.sz = u.sz ∧ p' = p) := by
    intro i l e
    have hi : i < sel.length := (List.getElem?_eq_some_iff.1 e).1
    have hl : l < s.h.length := inB_ok hb l (List.mem_of_getElem? e)
    have e1 : F[i]? = some (F[i]'(by omega)) := List.getElem?_eq_getElem _
    have e2 : s.h[l]? = some s.h[l] := List.getElem?_eq_getElem hl
    have hl2 : l < pl.length := by rw [R.len]; exact hl
    have e3 : pl[l]? = some pl[l] := List.getElem?_eq_getElem hl2
    obtain ⟨k1, k2, k3⟩ := hFk i _ _ e1 ⟨l, e, e2⟩
    obtain ⟨o', p', t1, t2, t3, t4, t5⟩ := T.obj i _ pl[l] e1 (by rw [pickPl_get hbp i l e, e3])
    exact ⟨_, _, o', p', e2, e3, t1, t2, by omega, by rw [t4, k3], fun x => by obtain ⟨y, z⟩ := t5 (by omega); exact ⟨by rw [y, k2], z⟩⟩
  have hsl : sel.length ≤ h'.length := by
    rcases Nat.eq_zero_or_pos sel.length with h0 | h0
    · omega
    · obtain ⟨_, _, o', _, _, _, h3, _⟩ := hkeep (sel.length - 1) _ (List.getElem?_eq_getElem (by omega))
      have := lt_of_some h3; omega
  have hslp : sel.length ≤ pl'.length := by omega
  have hN : s.h.length = pl.length := R.len.symm
  have getP : ∀ i, i < pl'.length → (putBack pl sel pl')[backN s.h.length sel i]? = pl'[i]? := fun i hi => by rw [hN]; exact putBack_get hbp hd hslp i hi
  have getH : ∀ i, i < h'.length → (backObs s.h sel h')[backN s.h.length sel i]? = (h'[i]?).map (Ob.idx (backN s.h.length sel)) := fun i hi => by
    unfold backObs
    rw [putBack_get hb hd (by simpa using hsl) i (by simpa using hi), List.getElem?_map]
  -- the blocks of what was not lent
  have other : ∀ (l b q : Nat), l ∉ sel → pl[l]? = some (some (b, q)) → away pl' b ∧ w'.heap[b]? = w.heap[b]? := fun l b q hm e => by
    refine T.old b (fun i q' e' => ?_) (R.lt e).1
    have hi : i < sel.length := by rw [← pickPl_length hbp]; exact ltp_of_some e'
    have e2 : sel[i]? = some sel[i] := List.getElem?_eq_getElem hi
    rw [pickPl_get hbp i _ e2] at e'
    have := R.inj _ _ _ _ _ e e'
    exact hm (by rw [this]; exact List.getElem_mem hi)
  have casesP : ∀ (l : Nat) (p : Pl), (putBack pl sel pl')[l]? = some p → (∃ i, i < pl'.length ∧ l = backN s.h.length sel i ∧ pl'[i]? = some p) ∨ (l < pl.length ∧ l ∉ sel ∧ pl[l]? = some p) := fun l p e => by
    have hlt := ltp_of_some e
    rw [putBack_length hslp] at hlt
    rcases putBack_cases hbp hslp hlt with ⟨i, hi, rfl⟩ | ⟨h1, h2⟩
    · rw [hN] at getP ⊢
      exact .inl ⟨i, hi, rfl, by rw [← getP i hi]; exact e⟩
    · exact .inr ⟨h1, h2, by rw [putBack_other h1 h2] at e; exact e⟩
  have hfree : ∀ b, free (fun b => Z b ∧ ∀ l q, pl[l]? = some (some (b, q)) → l ∈ sel) pl' b → free Z (putBack pl sel pl') b := fun b hf => ⟨hf.1.1, fun l q e => by
    rcases casesP l _ e with ⟨i, _, _, e2⟩ | ⟨_, h2, e2⟩
    · exact hf.2 i q e2
    · exact h2 (hf.1.2 l q e2)⟩
  have hob : ∀ (l : Nat) (o : Ob) (p : Pl), h'[l]? = some o → pl'[l]? = some p → ∃ o', (backObs s.h sel h')[backN s.h.length sel l]? = some o' ∧ (putBack pl sel pl')[backN s.h.length sel l]? = some p ∧ o'.gen = o.gen ∧ o'.sz = o.sz ∧ o'.kd.ty = o.kd.ty := fun l o p ho hp =>
    ⟨o.idx (backN s.h.length sel), by rw [getH l (lt_of_some ho), ho]; rfl, by rw [getP l (ltp_of_some hp), hp], rfl, rfl, rfl⟩
  have T2 : Tr s.h pl w (backObs s.h sel h') (putBack pl sel pl') w' := by
    refine ⟨fun b hbw hlt => ?_, fun l o p ho hp => ?_, fun l o o' b q ho ho' hg hp c el hc => ?_⟩
    · obtain ⟨h1, h2⟩ := T.old b (pickPl_away hbp hbw) hlt
      refine ⟨fun l q e => ?_, h2⟩
      rcases casesP l _ e with ⟨i, _, _, e2⟩ | ⟨_, _, e2⟩
      · exact h1 i q e2
      · exact hbw l q e2
    · by_cases hm : l ∈ sel
      · obtain ⟨i, hi, e⟩ := List.getElem_of_mem hm
        have e2 : sel[i]? = some l := by rw [List.getElem?_eq_getElem hi, e]
        obtain ⟨u, p1, o', p', k1, k2, k3, k4, k5, k6, k7⟩ := hkeep i l e2
        rw [ho] at k1; cases k1
        rw [hp] at k2; cases k2
        have hbk : backN s.h.length sel i = l := backN_lt e2
        refine ⟨o'.idx (backN s.h.length sel), p', by rw [← hbk, getH i (lt_of_some k3), k3]; rfl, by rw [← hbk, getP i (ltp_of_some k4), k4], k5, k6, k7⟩
      · exact ⟨o, p, by unfold backObs; rw [putBack_other (lt_of_some ho) hm]; exact ho, by rw [putBack_other (ltp_of_some hp) hm]; exact hp, Nat.le_refl _, rfl, fun _ => ⟨rfl, rfl⟩⟩
    · by_cases hm : l ∈ sel
      · obtain ⟨i, hi, e⟩ := List.getElem_of_mem hm
        have e2 : sel[i]? = some l := by rw [List.getElem?_eq_getElem hi, e]
        obtain ⟨u, p1, o1, p', k1, k2, k3, k4, k5, k6, k7⟩ := hkeep i l e2
        rw [ho] at k1; cases k1
        have hbk : backN s.h.length sel i = l := backN_lt e2
        rw [← hbk, getH i (lt_of_some k3), k3] at ho'
        cases ho'
        have e1 : F[i]? = some (F[i]'(by omega)) := List.getElem?_eq_getElem _
        obtain ⟨f1, f2, f3⟩ := hFk i _ _ e1 ⟨l, e2, ho⟩
        have hg : o1.gen = o.gen := hg
        exact T.shape i _ o1 b q e1 k3 (by omega) (by rw [pickPl_get hbp i l e2, hp]) c el hc
      · exact ⟨c, by rw [(other l b q hm hp).2]; exact hc, rfl⟩
  refine ⟨T2, ⟨?_, fun l l' b q q' e1 e2 => ?_, fun l o ho hp => ?_, fun l o b q ho hp => ?_⟩, V'.idx _ hfree hob⟩
  · unfold backObs
    rw [putBack_length hslp, putBack_length (by simpa using hsl)]; simp [R.len, hpl']
  · rcases casesP l _ e1 with ⟨i, hi, rfl, e3⟩ | ⟨h1, h2, e3⟩ <;> rcases casesP l' _ e2 with ⟨j, hj, rfl, e4⟩ | ⟨h3, h4, e4⟩
    · rw [O'.inj i j b q q' e3 e4]
    · exact absurd e3 ((other l' b q' h4 e4).1 i q)
    · exact absurd e4 ((other l b q h2 e3).1 j q')
    · exact R.inj l l' b q q' e3 e4
  · rcases casesP l _ hp with ⟨i, hi, rfl, e3⟩ | ⟨h1, h2, e3⟩
    · have hi' : i < h'.length := by omega
      rw [getH i hi', List.getElem?_eq_getElem hi'] at ho
      cases ho
      exact O'.noRow i h'[i] (List.getElem?_eq_getElem hi') e3
    · unfold backObs at ho
      rw [putBack_other (by omega) h2] at ho
      exact R.noRow l o ho e3
  · rcases casesP l _ hp with ⟨i, hi, rfl, e3⟩ | ⟨h1, h2, e3⟩
    · have hi' : i < h'.length := by omega
      rw [getH i hi', List.getElem?_eq_getElem hi'] at ho
      cases ho
      obtain ⟨g1, x⟩ := O'.at_ i _ b q (List.getElem?_eq_getElem hi') e3
      refine ⟨g1, x.to rfl rfl rfl rfl (fun k _ => idxL_length _ _) fun k j v hk hj hr => ?_⟩
      show RelV _ _ _ _ (nth (idxL _ (h'[i].row k)) j) v
      rw [nth_idxL _ _ _ hj]
      exact hr.idx _ hfree hob
    · unfold backObs at ho
      rw [putBack_other (by omega) h2] at ho
      obtain ⟨g1, x⟩ := R.at_ l o b q ho e3
      exact ⟨g1, x.to rfl rfl rfl (other l b q h2 e3).2 (fun _ _ => rfl) fun i j v _ _ hr => hr.tr T2⟩

/-- A call of a function that is lent objects of the caller's. -/
theorem callM_wp (hbase : base ≤ w0.w.heap.size) {o : Oper} {s : St} {x : Operand} {args : Array Operand} {tys : Array TypeId} {f : FuncId} {nf : Nat} {caps : List D} (hf : FnOk P f) (ho : o.op = .call ⟨.value x, args, tys⟩)
    (hx : calleeD (evalO s.fr x) = some (f, nf, caps)) (sel : List Nat) (hb : inB s.h.length sel = true) (hd : nodupB sel = true) (hobs : obsAmong sel (pickObs s.h sel)) (hargs : amongL sel (argsD nf caps (args.toList.map (evalO s.fr))) = true)
    {R : D → List Ob → Prop} (hF : MFn P f ((pickObs s.h sel).map (Ob.ren sel)) (renL sel (argsD nf caps (args.toList.map (evalO s.fr)))) R)
    (ht : okO nt o.dst = true) {Z : Nat → Prop} (z : ZOk w0 Z) (pl : List Pl) (a : Act) (w : World) (r : Rel Z base nt s pl a w) (b : Since Z base w0 s.h pl w) (Q' : Exit → Act → World → Prop) :
    o.wp P a w (fun a' w' => (sel = [] → Ext w w') ∧ ∃ d h pl', R d h ∧ Rel Z base nt ⟨putO s.fr o.dst (d.idx (backN s.h.length sel)), backObs s.h sel h⟩ pl' a' w' ∧ Since Z base w0 (backObs s.h sel h) pl' w' ∧ Tr s.h pl w (backObs s.h sel h) pl' w' ∧ ∃ v, a' = a.put o.dst v) Q' := by
  obtain ⟨vs, hv, hvl, hvr⟩ := callee_ok (r.eval x) hx
  have hsize : base ≤ w.heap.size := Nat.le_trans hbase b.1.size
  have hzw : ∀ b, w.heap.size ≤ b → Z b := b.2.2.new
  have hbp : inB pl.length sel = true := by rw [r.o.len]; exact hb
  have hzz : ∀ b, free Z pl b → (Z b ∧ ∀ l q, pl[l]? = some (some (b, q)) → l ∈ sel) := fun k hk => ⟨hk.1, fun l q e => absurd e (hk.2 l q)⟩
  obtain ⟨q1, hall⟩ := argsD_rel (r := fun d v => RelV Z s.h pl w d v) (nf := nf) hvl hvr (us := args.toList.map a.eval) (args := args.toList.map (evalO s.fr)) (by simp) (fun i hi => by
    have hi' : i < args.toList.length := by simpa using hi
    simp only [nth, nthV, List.getD_eq_getElem?_getD, List.getElem?_map]
    rw [List.getElem?_eq_getElem hi']
    exact r.eval _)
  have hc := hF (fun b => Z b ∧ ∀ l q, pl[l]? = some (some (b, q)) → l ∈ sel) base w (pickPl pl sel) (argsD nf vs (args.toList.map a.eval)) hsize
    (fun k hk => ⟨hzw k hk, fun l q e => by have := (r.o.lt e).1; omega⟩) (r.o.sel hzz hb hd hobs) (by rw [renL_length]; exact q1) (fun i hi => by
      rw [renL_length] at hi
      rw [nth_renL _ _ _ hi]
      exact (hall i hi).sel hzz r.o.len hb (amongL_nth hargs i hi))
  unfold Oper.wp
  rw [run_callop hf ho hv w]
  simp only [Oper.upon_enter]
  refine hc.mono fun e w' he => ?_
  obtain ⟨v, d, h', pl', rfl, hR, hO, hV, hT, hB⟩ := he
  obtain ⟨j1, j2, j3⟩ := foot_join r.o hsize hzw hb hd (F := (pickObs s.h sel).map (Ob.ren sel)) (by rw [List.length_map, pickObs_length hb]) (fun i o u e ⟨l, e1, e2⟩ => by
    rw [List.getElem?_map, pickObs_get hb i l e1, e2] at e
    cases e
    exact ⟨rfl, rfl, rfl⟩) hO hV hT hB
  refine ⟨fun e => by subst e; exact fun k hk => (hT.old k (fun l q e => by simp [pickPl] at e) hk).2, d, h', putBack pl sel pl', hR, ?_, b.step j1 hB, j1, v, rfl⟩
  cases hd : o.dst with
  | none => exact r.to' j1 j2 v
  | some t => rw [hd] at ht; exact r.to j1 j2 (okO_lt ht) j3
/-- The rule: a call with objects lent ('sel': which). -/
theorem kont_callM (hbase : base ≤ w0.w.heap.size) (sel : List Nat) {k : List Item} {dst : Option Nat} {ty : TypeId} {pos : String} {after : Array Edge} {gd : Option (Nat × Bool)} {r : List (Oper × G)} {s : St} {x : Operand} {args : Array Operand} {tys : Array TypeId} {f : FuncId} {nf : Nat} {caps : List D} (hf : FnOk P f)
    (hx : calleeD (evalO s.fr x) = some (f, nf, caps)) {F : List Ob} {cs : List D} (hok : inB s.h.length sel = true ∧ nodupB sel = true ∧ obsAmong sel (pickObs s.h sel) ∧ amongL sel (argsD nf caps (args.toList.map (evalO s.fr))) = true ∧ argsEq (renL sel (argsD nf caps (args.toList.map (evalO s.fr)))) cs ∧ obsLe ((pickObs s.h sel).map (Ob.ren sel)) F)
    {R : D → List Ob → Prop} (hF : MFn P f F cs R) (ht : okO nt dst = true) (hk : ∀ d h, R d h → kont P base nt w0 Q (.ops r :: k) .normal ⟨putO s.fr dst (d.idx (backN s.h.length sel)), backObs s.h sel h⟩) :
    kont P base nt w0 Q (.ops ((⟨dst, .call ⟨.value x, args, tys⟩, ty, pos, after, gd⟩, none) :: r) :: k) .normal s := by
  simp only [kont] at hk ⊢
  obtain ⟨hb, hd, hobs, hargs, he, hle⟩ := hok
  intro Z z pl a w r b
  simp only [wpG, wantedG, if_true]
  have hF2 := hF.args he
  have hF3 : MFn P f ((pickObs s.h sel).map (Ob.ren sel)) (renL sel (argsD nf caps (args.toList.map (evalO s.fr)))) R := by
    intro Z base w pl vs h1 h2 h3 hl hc
    have hw := Wk.obs (m := F.length) (fr := []) hle
    obtain ⟨pl', r', K⟩ := hw Z base 0 pl { tmps := #[], defers := [] } w ⟨rfl, rfl, fun t => .cl _ _ (.undef _), h3⟩
    obtain ⟨e1, e2⟩ := obsLe_get hle
    refine (hF2 Z base w pl vs h1 h2 ?_ hl (fun i hi => (hc i hi).obs hle)).mono fun e w' ⟨v, d, h, pl', k1, k2, k3, k4, k5, k6⟩ => ⟨v, d, h, pl', k1, k2, k3, k4, ?_, k6⟩
    · refine ⟨by rw [e1]; exact h3.len, h3.inj, fun l o' ho hp => ?_, fun l o' b q ho hp => ?_⟩
      · obtain ⟨o, g3, g4⟩ := e2 l o' ho
        rw [g4.2.2.1]; exact h3.noRow l o g3 hp
      · obtain ⟨o, g3, g4, g5, g6, g8, g7⟩ := e2 l o' ho
        obtain ⟨g1, x⟩ := h3.at_ l o b q g3 hp
        exact ⟨fun hr => g1 (by rw [← g8.2, hr]), x.to g8.1 g5 g6 rfl (fun i hi => by rw [g7 i hi]) fun i j v hi _ hr => by rw [g7 i hi]; exact hr.obs hle⟩
    · have key : ∀ (l : Nat) (o : Ob), ((pickObs s.h sel).map (Ob.ren sel))[l]? = some o → ∃ o', F[l]? = some o' ∧ obLe o o' := fun l o e => by
        have : l < F.length := by rw [e1]; exact lt_of_some e
        obtain ⟨o2, g3, g4⟩ := e2 l _ (List.getElem?_eq_getElem this)
        rw [e] at g3; cases g3
        exact ⟨_, List.getElem?_eq_getElem this, g4⟩
      refine ⟨k5.old, fun l o p ho hp => ?_, fun l o o'' b q ho ho'' hg hp c el hc => ?_⟩
      · obtain ⟨o1, g1, g2, g3, g4, g5, g6⟩ := key l o ho
        obtain ⟨o', p', t1, t2, t3, t4, t5⟩ := k5.obj l o1 p g1 hp
        exact ⟨o', p', t1, t2, by omega, by rw [t4, g5.1], fun x => by obtain ⟨y1, y2⟩ := t5 (by omega); exact ⟨by rw [y1, g3], y2⟩⟩
      · obtain ⟨o1, g1, g2, g3, g4, g5, g6⟩ := key l o ho
        exact k5.shape l o1 o'' b q g1 ho'' (by omega) hp c el hc
  exact Oper.wp_mono (fun a' w' ⟨_, d, h, pl', hR, r', b', _⟩ => hk d h hR Z z pl' a' w' r' b') (callM_wp hbase hf rfl hx sel hb hd hobs hargs hF3 ht z pl a w r b _)
/-- A call with nothing lent within a region that draws: the result may be a closed value. -/
theorem AX_callC (hbase : base ≤ w0.w.heap.size) {K : St → Prop} {dst : Option Nat} {ty : TypeId} {pos : String} {after : Array Edge} {gd : Option (Nat × Bool)} {r : List (Bool × Oper × G)} {s : St} {x : Operand} {args : Array Operand} {tys : Array TypeId} {f : FuncId} {nf : Nat} {caps : List D} (hf : FnOk P f)
    (hx : calleeD (evalO s.fr x) = some (f, nf, caps)) {cs : List D} (hok : amongL [] (argsD nf caps (args.toList.map (evalO s.fr))) = true ∧ argsEq (renL [] (argsD nf caps (args.toList.map (evalO s.fr)))) cs) {R : D → List Ob → Prop} (hF : AFn P f cs R)
    (ht : okO nt dst = true) (hk : ∀ d h, R d h → AX P base nt w0 K r ⟨putO s.fr dst (d.idx (backN s.h.length [])), backObs s.h [] h⟩) :
    AX P base nt w0 K ((false, ⟨dst, .call ⟨.value x, args, tys⟩, ty, pos, after, gd⟩, none) :: r) s := by
  simp only [AX, AXo, lateT]
  intro Z z pl a w rr b
  exact Oper.wp_mono (fun a' w' ⟨he, d, h, pl', hR, r', b', T, v, e⟩ => ⟨fun _ => he rfl, _, _, pl', v, hk d h hR, r', b', T, e⟩) (callM_wp hbase hf rfl hx [] rfl rfl trivial hok.1 (hF.args hok.2) ht z pl a w rr b _)
end
attribute [go_sem] D.idx idxL Ob.idx backN putBack backObs nodupB startsB
end Go.Fg
namespace Go.Fg
set_option linter.unusedSimpArgs false
set_option linter.unusedVariables false
/-- These slots of a frame. -/
def pickFr (fr : List (Nat × D)) : List Nat → List (Nat × D)
  | [] => []
  | t :: r => (t, get fr t) :: pickFr fr r
attribute [go_sem] pickFr
/-- A loop's states: the slots V, the slots that stay, the objects H; G: what is free in it. -/
def ForS {G : Type} (R : Nat → Prop) (V : Nat → G → List (Nat × D)) (H : Nat → G → List Ob) (rest : List (Nat × D)) (i : Nat) (s : St) : Prop := R i ∧ ∃ γ, s = ⟨V i γ ++ rest, H i γ⟩
theorem ForS.mk {G : Type} {R : Nat → Prop} {V : Nat → G → List (Nat × D)} {H : Nat → G → List Ob} {rest : List (Nat × D)} {i : Nat} (γ : G) (h : R i) : ForS R V H rest i ⟨V i γ ++ rest, H i γ⟩ := ⟨h, γ, rfl⟩
section
variable {P : Program} {base nt : Nat} {w0 : Start} {Q : Exit → St → Prop} {k : List Item}
theorem kont_forF {G : Type} (keep : List Nat) (R : Nat → Prop) (V : Nat → G → List (Nat × D)) (H : Nat → G → List Ob) (N : Nat) (γ0 : G) {c : Code} {fr : List (Nat × D)} {h : List Ob} {rest : List (Nat × D)} (hr : pickFr fr keep = rest)
    (hw : Weak w0 ⟨fr, h⟩ ⟨V 0 γ0 ++ rest, H 0 γ0⟩) (hR : R 0)
    (round : ∀ i γ, i ≤ N → R i → kont P base nt w0 (ForQ P base nt w0 Q k (ForS R V H rest) N i) [.code c] .normal ⟨V i γ ++ rest, H i γ⟩) : kont P base nt w0 Q (.code (.loop c) :: k) .normal ⟨fr, h⟩ :=
  kont_for (ForS R V H rest) N hw ⟨hR, γ0, rfl⟩ fun i s hi ⟨hRi, γ, e⟩ => by subst e; exact round i γ hi hRi
end
section
variable {P : Program} {base : Nat} {w0 : Start} {Q : Exit → St → Prop} {X : Cx} {nt n : Nat} {k k' : List Item} {s s' : St}
theorem hite_lt {i N : Nat} (hi : i ≤ N) (h1 : i < N → hx P base w0 Q X nt n k s) (h2 : i = N → hx P base w0 Q X nt n k' s') : hite (decide (i < N)) (hz P base w0 Q X nt n k s) (hz P base w0 Q X nt n k' s') :=
  ⟨fun h => h1 (by simpa using h), fun h => h2 (by simp at h; omega)⟩
theorem hite_ltI {i N : Nat} (hi : i ≤ N) (h1 : i < N → hx P base w0 Q X nt n k s) (h2 : i = N → hx P base w0 Q X nt n k' s') : hite (decide ((i : Int) < (N : Int))) (hz P base w0 Q X nt n k s) (hz P base w0 Q X nt n k' s') :=
  ⟨fun h => h1 (by simpa using h), fun h => h2 (by simp at h; omega)⟩
/-- A test that compares numbers. -/
theorem hite_dec {p : Prop} [Decidable p] (h1 : p → hx P base w0 Q X nt n k s) (h2 : ¬ p → hx P base w0 Q X nt n k' s') : hite (decide p) (hz P base w0 Q X nt n k s) (hz P base w0 Q X nt n k' s') :=
  ⟨fun h => h1 (of_decide_eq_true h), fun h => h2 (of_decide_eq_false h)⟩
theorem hite_beq {α : Type} [BEq α] [LawfulBEq α] {a b : α} (h1 : a = b → hx P base w0 Q X nt n k s) (h2 : a ≠ b → hx P base w0 Q X nt n k' s') : hite (a == b) (hz P base w0 Q X nt n k s) (hz P base w0 Q X nt n k' s') :=
  ⟨fun h => h1 (by simpa using h), fun h => h2 (by simpa using h)⟩
theorem hite_bne {α : Type} [BEq α] [LawfulBEq α] {a b : α} (h1 : a ≠ b → hx P base w0 Q X nt n k s) (h2 : a = b → hx P base w0 Q X nt n k' s') : hite (a != b) (hz P base w0 Q X nt n k s) (hz P base w0 Q X nt n k' s') :=
  ⟨fun h => h1 (by simpa using h), fun h => h2 (by simpa using h)⟩
theorem hite_decA {K K' : St → Prop} {l l' : List (Bool × Oper × G)} {p : Prop} [Decidable p] (h1 : p → hax P base w0 X nt K l s) (h2 : ¬ p → hax P base w0 X nt K' l' s') : hite (decide p) (haz P base w0 X nt K l s) (haz P base w0 X nt K' l' s') :=
  ⟨fun h => h1 (of_decide_eq_true h), fun h => h2 (of_decide_eq_false h)⟩
theorem hite_beqA {K K' : St → Prop} {l l' : List (Bool × Oper × G)} {α : Type} [BEq α] [LawfulBEq α] {a b : α} (h1 : a = b → hax P base w0 X nt K l s) (h2 : a ≠ b → hax P base w0 X nt K' l' s') : hite (a == b) (haz P base w0 X nt K l s) (haz P base w0 X nt K' l' s') :=
  ⟨fun h => h1 (by simpa using h), fun h => h2 (by simpa using h)⟩
theorem hite_bneA {K K' : St → Prop} {l l' : List (Bool × Oper × G)} {α : Type} [BEq α] [LawfulBEq α] {a b : α} (h1 : a ≠ b → hax P base w0 X nt K l s) (h2 : a = b → hax P base w0 X nt K' l' s') : hite (a != b) (haz P base w0 X nt K l s) (haz P base w0 X nt K' l' s') :=
  ⟨fun h => h1 (by simpa using h), fun h => h2 (by simpa using h)⟩
end
end Go.Fg
namespace Go.Fg
set_option linter.unusedSimpArgs false
set_option linter.unusedVariables false
open Go.RowKit (Below)
/-- Rows from one on. -/
def rowFrom (off : Nat) (row : Nat → List D) : Nat → List D := fun i => row (off + i)
theorem rowFrom_zero (row : Nat → List D) : rowFrom 0 row = row := by funext i; simp [rowFrom]
theorem rowFrom_at (off : Nat) (row : Nat → List D) (i : Nat) : rowFrom off row i = row (off + i) := rfl
mutual
/-- A value, with the object l (generation g0, n rows of sz cells) told ens what it holds. -/
def D.fz (l g0 n sz : Nat) (row : Nat → List D) : D → D
  | .ref l' g off len => bif Nat.beq l' l then (bif Nat.beq g g0 && Nat.ble (off + len) n then .imm sz len (rowFrom off row) else .undef) else .ref l' g off len
  | .ptr l' g i j => bif Nat.beq l' l then (bif Nat.beq g g0 && Nat.blt i n && Nat.ble j sz then .ip ((row i).drop j) else .undef) else .ptr l' g i j
  | .mref l' g => bif Nat.beq l' l then .undef else .mref l' g
  | .clo f nf cs => .clo f nf (fzL l g0 n sz row cs)
  | .agg cs => .agg (fzL l g0 n sz row cs)
  | .tup cs => .tup (fzL l g0 n sz row cs)
  | d => d
def fzL (l g0 n sz : Nat) (row : Nat → List D) : List D → List D
  | [] => []
  | c :: cs => c.fz l g0 n sz row :: fzL l g0 n sz row cs
end
theorem fzL_length (l g0 n sz : Nat) (row : Nat → List D) : ∀ cs : List D, (fzL l g0 n sz row cs).length = cs.length
  | [] => rfl
  | _ :: cs => by simp [fzL, fzL_length l g0 n sz row cs]
theorem nth_fzL (l g0 n sz : Nat) (row : Nat → List D) : ∀ (cs : List D) (i : Nat), i < cs.length → nth (fzL l g0 n sz row cs) i = (nth cs i).fz l g0 n sz row
  | [], i, h => by simp at h
  | c :: cs, 0, _ => by simp [fzL, nth]
  | c :: cs, i + 1, h => by
    have := nth_fzL l g0 n sz row cs i (by simpa using h)
    simpa [fzL, nth] using this
theorem fzL_cond (l g0 n sz : Nat) (row : Nat → List D) (c : Bool) (a b : List D) : fzL l g0 n sz row (bif c then a else b) = bif c then fzL l g0 n sz row a else fzL l g0 n sz row b := by cases c <;> rfl
def fzFr (l g0 n sz : Nat) (row : Nat → List D) : List (Nat × D) → List (Nat × D)
  | [] => []
  | (t, d) :: r => (t, d.fz l g0 n sz row) :: fzFr l g0 n sz row r
theorem get_fzFr (l g0 n sz : Nat) (row : Nat → List D) : ∀ (fr : List (Nat × D)) (t : Nat), get (fzFr l g0 n sz row fr) t = (get fr t).fz l g0 n sz row
  | [], t => rfl
  | (u, d) :: r, t => by
    simp only [fzFr, get]
    cases Nat.beq u t
    · exact get_fzFr l g0 n sz row r t
    · rfl
def Ob.fz (l g0 n sz : Nat) (row : Nat → List D) (o : Ob) : Ob := ⟨o.kd, o.gen, o.sz, o.n, fun i => fzL l g0 n sz row (o.row i)⟩
def fzObs (l g0 n sz : Nat) (row : Nat → List D) : List Ob → List Ob
  | [] => []
  | o :: r => o.fz l g0 n sz row :: fzObs l g0 n sz row r
theorem fzObs_map (l g0 n sz : Nat) (row : Nat → List D) : ∀ h : List Ob, fzObs l g0 n sz row h = h.map (Ob.fz l g0 n sz row)
  | [] => rfl
  | o :: r => by simp [fzObs, fzObs_map l g0 n sz row r]
/-- What is left of an object that is told ens a value. -/
def Ob.gone (o : Ob) : Ob := ⟨.arr, o.gen + 1, o.sz, 0, fun _ => []⟩

section
variable {Z : Nat → Prop}
theorem fz_cl {N : Nat → Prop} {w : World} (l g0 n sz : Nat) (row : Nat → List D) {d : D} {v : Value} (c : Cl N w d v) : Cl N w (d.fz l g0 n sz row) v := by
  induction c with
  | raw v => exact .raw v
  | undef v => exact .undef v
  | nil a => exact .nil a
  | imm s m r a cap b o vs ha hl hs hc hr ih => exact .imm s m r a cap b o vs ha hl hs hc hr
  | ip cells b o vs hc hr ih => exact .ip cells b o vs hc hr
  | clo f nf cs vs hl hr ih => exact .clo f nf _ vs (by rw [fzL_length]; exact hl) (fun i hi => by rw [fzL_length] at hi; rw [nth_fzL _ _ _ _ _ _ _ hi]; exact ih i hi)
  | agg cs vs hl hr ih => exact .agg _ vs (by rw [fzL_length]; exact hl) (fun i hi => by rw [fzL_length] at hi; rw [nth_fzL _ _ _ _ _ _ _ hi]; exact ih i hi)
  | tup cs vs hl hr ih => exact .tup _ vs (by rw [fzL_length]; exact hl) (fun i hi => by rw [fzL_length] at hi; rw [nth_fzL _ _ _ _ _ _ _ hi]; exact ih i hi)

/-- The object l, all of whose cells are closed, in a block of Z, is told ens a value. -/
theorem RelV.fz {h : List Ob} {pl : List Pl} {w : World} {l : Nat} {o : Ob} {p : Pl} (ho : h[l]? = some o) (hp : pl[l]? = some p) (hk : o.kd.ty = 0) (hb : ∀ b q, p = some (b, q) → Z b ∧ (∀ l' q', pl[l']? = some (some (b, q')) → l' = l) ∧ CellsAt Z h pl w o b q)
    (hcl : ∀ i, i < o.n → (o.row i).all D.cl1 = true) {h' : List Ob} (hh : ∀ (l' : Nat) (o' : Ob), l' ≠ l → h[l']? = some o' → ∃ u, h'[l']? = some u ∧ u.gen = o'.gen ∧ u.sz = o'.sz ∧ u.kd.ty = o'.kd.ty) {d : D} {v : Value} (r : RelV Z h pl w d v) :
    RelV Z h' (pl.set l none) w (d.fz l o.gen o.n o.sz o.row) v := by
  have hpl : ∀ (l' : Nat), l' ≠ l → (pl.set l none)[l']? = pl[l']? := fun l' hl' => by rw [List.getElem?_set_ne (Ne.symm hl')]
  have haw : ∀ b, away pl b → away (pl.set l none) b := fun b hb l' q e => by
    by_cases e1 : l' = l
    · subst e1; rw [List.getElem?_set_self (ltp_of_some hp)] at e; cases e
    · rw [hpl l' e1] at e; exact hb l' q e
  have hfr : ∀ b, free Z pl b → free Z (pl.set l none) b := fun b hb => ⟨hb.1, haw b hb.2⟩
  have hown : ∀ b q, p = some (b, q) → free Z (pl.set l none) b := fun b q e => ⟨(hb b q e).1, fun l' q' e' => by
    by_cases e1 : l' = l
    · subst e1; rw [List.getElem?_set_self (ltp_of_some hp)] at e'; cases e'
    · rw [hpl l' e1] at e'; exact e1 ((hb b q e).2.1 l' q' e')⟩
  have hcell : ∀ b q, p = some (b, q) → ∃ c el, w.heap[b]? = some (.cells c el (0, 0)) ∧ (∀ i, i < o.n → (o.row i).length = o.sz) ∧ ∃ vs : Nat → Nat → Value, ∀ i j, i < o.n → j < o.sz → w.cell? ⟨b, q + (i * o.sz + j), none⟩ = some (vs i j) ∧ Cl (free Z (pl.set l none)) w (nth (o.row i) j) (vs i j) := fun b q e => by
    obtain ⟨c, el, h1, _, h3, h4⟩ := (hb b q e).2.2
    refine ⟨c, el, h1, h3, fun i j => (c[q + (i * o.sz + j)]?).getD Go.undef, fun i j hi hj => ?_⟩
    obtain ⟨u, hu, hr⟩ := h4 i j hi hj
    refine ⟨by rw [cell_of_row w b _ c el (0, 0) h1, hu]; simp [hu], ?_⟩
    simp only [hu, Option.getD_some]
    have h5 := hcl i hi
    rw [List.all_eq_true] at h5
    have h6 : j < (o.row i).length := by rw [h3 i hi]; exact hj
    have h7 : (nth (o.row i) j).cl1 = true := h5 _ (by simp only [nth, List.getD_eq_getElem?_getD, List.getElem?_eq_getElem h6, Option.getD_some]; exact List.getElem_mem h6)
    exact (cl1_ok hr h7).mono fun x hx _ => ⟨hfr x hx, rfl⟩
  induction r with
  | cl d v hc => exact .cl _ _ (fz_cl l o.gen o.n o.sz o.row (hc.mono fun b hb _ => ⟨hfr b hb, rfl⟩))
  | ref l' g off len o' p' a cap ho' hp' hk' hg hs =>
    by_cases e : l' = l
    · subst e
      rw [ho] at ho'; cases ho'
      rw [hp] at hp'; cases hp'
      simp only [D.fz, Nat.beq_refl, cond_true]
      cases hc : (Nat.beq g o.gen && Nat.ble (off + len) o.n)
      · exact .cl _ _ (.undef _)
      · simp only [cond_true, Bool.and_eq_true, Nat.beq_eq, Nat.ble_eq] at hc ⊢
        rcases hs hc.1 with ⟨h1, h2⟩ | ⟨b, q, c, el, hpp, ha, hbk, hcs, hlc⟩
        · subst h1; subst h2
          exact .cl _ _ (.imm _ _ _ _ _ 0 0 (fun _ _ => Go.undef) (fun h => by omega) (by omega) (fun i hi => by omega) (fun i j hi => by omega) (fun i j hi => by omega))
        · obtain ⟨c', el', k1, k2, vs, k3⟩ := hcell b q hpp
          refine .cl _ _ (.imm _ _ _ _ _ b (q + off * o.sz) (fun i j => vs (off + i) j) (fun _ => ha) hlc (fun i hi => k2 _ (by omega)) (fun i j hi hj => ⟨hown b q hpp, ?_⟩) (fun i j hi hj => (k3 (off + i) j (by omega) hj).2))
          rw [← (k3 (off + i) j (by omega) hj).1, Nat.add_mul, show q + off * o.sz + (i * o.sz + j) = q + (off * o.sz + i * o.sz + j) by omega]
    · have hne : Nat.beq l' l = false := by rw [← Bool.not_eq_true, Nat.beq_eq]; exact e
      simp only [D.fz, hne, cond_false]
      obtain ⟨u, u1, u2, u3, u4⟩ := hh l' o' e ho'
      exact .ref l' g off len u p' a cap u1 (by rw [hpl l' e]; exact hp') (by rw [u4]; exact hk') (by rw [u2]; exact hg) (by rw [u2, u3]; exact hs)
  | ptr l' g i j o' p' a ho' hp' hk' hg hs =>
    by_cases e : l' = l
    · subst e
      rw [ho] at ho'; cases ho'
      rw [hp] at hp'; cases hp'
      simp only [D.fz, Nat.beq_refl, cond_true]
      cases hc : (Nat.beq g o.gen && Nat.blt i o.n && Nat.ble j o.sz)
      · exact .cl _ _ (.undef _)
      · simp only [cond_true, Bool.and_eq_true, Nat.beq_eq, Nat.ble_eq, Nat.blt_eq] at hc ⊢
        obtain ⟨b, q, hpp, ha⟩ := hs hc.1.1
        obtain ⟨c', el', k1, k2, vs, k3⟩ := hcell b q hpp
        subst ha
        have hlen : ((o.row i).drop j).length = o.sz - j := by rw [List.length_drop, k2 i hc.1.2]
        refine .cl _ _ (.ip _ b _ (fun k => vs i (j + k)) (fun k hk => ⟨hown b q hpp, ?_⟩) (fun k hk => ?_))
        · rw [← (k3 i (j + k) hc.1.2 (by omega)).1]; congr 1; simp
        · rw [nth_drop]; exact (k3 i (j + k) hc.1.2 (by omega)).2
    · have hne : Nat.beq l' l = false := by rw [← Bool.not_eq_true, Nat.beq_eq]; exact e
      simp only [D.fz, hne, cond_false]
      obtain ⟨u, u1, u2, u3, u4⟩ := hh l' o' e ho'
      exact .ptr l' g i j u p' a u1 (by rw [hpl l' e]; exact hp') (by rw [u4]; exact hk') (by rw [u2]; exact hg) (by rw [u2, u3]; exact hs)
  | mref l' g o' p' b ho' hp' hk' hg hs =>
    by_cases e : l' = l
    · subst e
      rw [ho] at ho'; cases ho'
      exact absurd hk hk'.1
    · have hne : Nat.beq l' l = false := by rw [← Bool.not_eq_true, Nat.beq_eq]; exact e
      simp only [D.fz, hne, cond_false]
      obtain ⟨u, u1, u2, u3, u4⟩ := hh l' o' e ho'
      exact .mref l' g u p' b u1 (by rw [hpl l' e]; exact hp') (by rw [u4]; exact hk') (by rw [u2]; exact hg) (by rw [u2]; exact hs)
  | clo f nf cs vs hl hr ih => exact .clo f nf _ vs (by rw [fzL_length]; exact hl) (fun i hi => by rw [fzL_length] at hi; rw [nth_fzL _ _ _ _ _ _ _ hi]; exact ih i hi)
  | agg cs vs hl hr ih => exact .agg _ vs (by rw [fzL_length]; exact hl) (fun i hi => by rw [fzL_length] at hi; rw [nth_fzL _ _ _ _ _ _ _ hi]; exact ih i hi)
  | tup cs vs hl hr ih => exact .tup _ vs (by rw [fzL_length]; exact hl) (fun i hi => by rw [fzL_length] at hi; rw [nth_fzL _ _ _ _ _ _ _ hi]; exact ih i hi)
end

/-- The rule, where nothing was lent: object l is told ens a value. -/
theorem Weak.freeze {w0 : Start} (hF : w0.pl = []) (l : Nat) {fr : List (Nat × D)} {h : List Ob} {o : Ob} (ho : h[l]? = some o) (hk : o.kd.ty = 0) (hcl : ∀ i, i < o.n → (o.row i).all D.cl1 = true) :
    Weak w0 ⟨fr, h⟩ ⟨fzFr l o.gen o.n o.sz o.row fr, (fzObs l o.gen o.n o.sz o.row h).set l o.gone⟩ := by
  intro Z z base nt pl a w r b
  have hlen : pl.length = h.length := r.o.len
  have hlp : l < pl.length := by have h1 := lt_of_some ho; omega
  have hp : pl[l]? = some pl[l] := List.getElem?_eq_getElem hlp
  generalize hpe : pl[l] = p at hp
  have haway0 : ∀ bb, away w0.pl bb := fun bb i q e => by rw [hF] at e; simp at e
  have hfresh : ∀ l' bb q : Nat, pl[l']? = some (some (bb, q)) → w0.w.heap.size ≤ bb := fun l' bb q e => by
    rcases Nat.lt_or_ge bb w0.w.heap.size with hlt | hge
    · exact absurd e ((b.2.1.old bb (haway0 bb) hlt).1 l' q)
    · exact hge
  have hat : ∀ bb q, p = some (bb, q) → Z bb ∧ (∀ l' q', pl[l']? = some (some (bb, q')) → l' = l) ∧ CellsAt Z h pl w o bb q := fun bb q e => by
    subst e
    exact ⟨b.2.2.own l bb q hp (hfresh l bb q hp), fun l' q' e' => r.o.inj _ _ _ _ _ e' hp, (r.o.at_ l o bb q ho hp).2.cells hk⟩
  have hh : ∀ (l' : Nat) (o' : Ob), l' ≠ l → h[l']? = some o' → ∃ u, ((fzObs l o.gen o.n o.sz o.row h).set l o.gone)[l']? = some u ∧ u.gen = o'.gen ∧ u.sz = o'.sz ∧ u.kd.ty = o'.kd.ty := fun l' o' hne e =>
    ⟨o'.fz l o.gen o.n o.sz o.row, by rw [List.getElem?_set_ne (Ne.symm hne), fzObs_map, List.getElem?_map, e]; rfl, rfl, rfl, rfl⟩
  have hpl : ∀ (l' : Nat), l' ≠ l → (pl.set l none)[l']? = pl[l']? := fun l' hl' => by rw [List.getElem?_set_ne (Ne.symm hl')]
  have hself : (pl.set l none)[l]? = some none := List.getElem?_set_self hlp
  have hsub : ∀ l' bb q : Nat, (pl.set l none)[l']? = some (some (bb, q)) → l' ≠ l ∧ pl[l']? = some (some (bb, q)) := fun l' bb q e => by
    by_cases e1 : l' = l
    · subst e1; rw [hself] at e; cases e
    · exact ⟨e1, by rw [← hpl l' e1]; exact e⟩
  refine ⟨pl.set l none, ⟨r.nt, r.defers, fun t => ?_, ⟨?_, fun l1 l2 bb q q' e1 e2 => ?_, fun l1 o1 h1 e1 => ?_, fun l1 o1 bb q h1 e1 => ?_⟩⟩, b.1, ⟨fun bb hb hlt => ?_, fun l1 o1 p1 h1 e1 => ?_, fun l1 o1 o2 bb q h1 h2 hg e1 => ?_⟩, b.2.2.new, fun l1 bb q e h0 => b.2.2.own l1 bb q (hsub _ _ _ e).2 h0⟩
  · show RelV Z _ _ w (get (fzFr l o.gen o.n o.sz o.row fr) t) _
    rw [get_fzFr]
    exact (r.fr t).fz ho hp hk hat hcl hh
  · simp [fzObs_map, hlen]
  · exact r.o.inj l1 l2 bb q q' (hsub _ _ _ e1).2 (hsub _ _ _ e2).2
  · by_cases e2 : l1 = l
    · subst e2
      rw [List.getElem?_set_self (by rw [fzObs_map]; simp; omega)] at h1
      cases h1; rfl
    · rw [List.getElem?_set_ne (Ne.symm e2), fzObs_map, List.getElem?_map] at h1
      rw [hpl l1 e2] at e1
      obtain ⟨u, hu, rfl⟩ := Option.map_eq_some_iff.1 h1
      exact r.o.noRow l1 u hu e1
  · obtain ⟨hne, e2⟩ := hsub _ _ _ e1
    rw [List.getElem?_set_ne (Ne.symm hne), fzObs_map, List.getElem?_map] at h1
    obtain ⟨u, hu, rfl⟩ := Option.map_eq_some_iff.1 h1
    obtain ⟨g1, x⟩ := r.o.at_ l1 u bb q hu e2
    refine ⟨g1, x.to rfl rfl rfl rfl (fun i _ => fzL_length _ _ _ _ _ _) fun i j v hi hj hr => ?_⟩
    show RelV Z _ _ w (nth (fzL _ _ _ _ _ (u.row i)) j) v
    rw [nth_fzL _ _ _ _ _ _ _ hj]
    exact hr.fz ho hp hk hat hcl hh
  · obtain ⟨k1, k2⟩ := b.2.1.old bb hb hlt
    exact ⟨fun l' q e => k1 l' q (hsub _ _ _ e).2, k2⟩
  · rw [hF] at e1; simp at e1
  · rw [hF] at e1; simp at e1
attribute [go_sem] rowFrom_zero rowFrom_at D.fz fzL fzL_cond fzFr Ob.fz fzObs Ob.gone
end Go.Fg
namespace Go.Fg
set_option linter.unusedSimpArgs false
set_option linter.unusedVariables false
def lLeOf (f : D → D → Prop) : List D → List D → Prop
  | [], [] => True
  | a :: r, b :: s => f a b ∧ lLeOf f r s
  | _, _ => False
/-- The value may be told ens the other one. -/
def dLe : Nat → D → D → Prop
  | 0, d, d' => d' = d
  | k + 1, d, d' => match d' with
    | .raw v => d = .raw v
    | .undef => True
    | .nil => d = .nil
    | .imm z n r => match d with
      | .imm z' n' r' => z = z' ∧ n = n' ∧ ∀ i, i < n → lLeOf (dLe k) (r' i) (r i)
      | .nil => n = 0
      | _ => False
    | .ip cs => match d with
      | .ip cs' => lLeOf (dLe k) cs' cs
      | _ => False
    | .ref l g o n => d = .ref l g o n
    | .ptr l g i j => d = .ptr l g i j
    | .mref l g => d = .mref l g
    | .clo f nf cs => match d with
      | .clo f' nf' cs' => f = f' ∧ nf = nf' ∧ lLeOf (dLe k) cs' cs
      | _ => False
    | .agg cs => match d with
      | .agg cs' => lLeOf (dLe k) cs' cs
      | _ => False
    | .tup cs => match d with
      | .tup cs' => lLeOf (dLe k) cs' cs
      | _ => False
theorem lLeOf_refl {f : D → D → Prop} (h : ∀ d, f d d) : ∀ l, lLeOf f l l
  | [] => trivial
  | a :: r => ⟨h a, lLeOf_refl h r⟩
theorem dLe_refl : ∀ (k : Nat) (d : D), dLe k d d
  | 0, _ => rfl
  | k + 1, d => by cases d <;> simp [dLe] <;> first | exact lLeOf_refl (dLe_refl k) _ | exact fun _ _ => lLeOf_refl (dLe_refl k) _
theorem lLe_self (k : Nat) (l : List D) : lLeOf (dLe k) l l = True := eq_true (lLeOf_refl (dLe_refl k) l)
theorem lLeOf_nth {f : D → D → Prop} : ∀ {l m : List D}, lLeOf f l m → m.length = l.length ∧ ∀ i, i < l.length → f (nth l i) (nth m i)
  | [], [], _ => ⟨rfl, fun i hi => by simp at hi⟩
  | [], _ :: _, h => h.elim
  | _ :: _, [], h => h.elim
  | a :: r, b :: s, h => by
    obtain ⟨h1, h2⟩ := lLeOf_nth h.2
    refine ⟨by simp [h1], fun i hi => ?_⟩
    cases i with
    | zero => exact h.1
    | succ i => have := h2 i (by simpa using hi); simpa [nth] using this
theorem dLe_cl : ∀ (k : Nat) {N : Nat → Prop} {w : World} {d d' : D} {v : Value}, dLe k d d' → Cl N w d v → Cl N w d' v
  | 0, _, _, d, d', v, h, c => by have h : d' = d := h; subst h; exact c
  | k + 1, N, w, d, d', v, h, c => by
    cases d' <;> simp only [dLe] at h
    case raw => subst h; exact c
    case undef => exact .undef _
    case nil => subst h; exact c
    case imm z n r =>
      split at h
      · obtain ⟨rfl, rfl, h⟩ := h
        cases c with
        | imm _ _ _ a cap b o vs ha hl hs hc hr =>
          exact .imm _ _ _ a cap b o vs ha hl (fun i hi => by rw [(lLeOf_nth (h i hi)).1]; exact hs i hi) hc (fun i j hi hj => dLe_cl k ((lLeOf_nth (h i hi)).2 j (by rw [hs i hi]; exact hj)) (hr i j hi hj))
      · subst h
        cases c with
        | nil a => exact .imm _ _ _ _ _ 0 0 (fun _ _ => Go.undef) (fun h => by omega) (by omega) (fun i hi => by omega) (fun i j hi => by omega) (fun i j hi => by omega)
      · exact h.elim
    case ip cs =>
      split at h
      · obtain ⟨h1, h2⟩ := lLeOf_nth h
        cases c with
        | ip _ b o vs hc hr => exact .ip _ b o vs (fun j hj => hc j (by omega)) (fun j hj => dLe_cl k (h2 j (by omega)) (hr j (by omega)))
      · exact h.elim
    case ref => subst h; exact c
    case ptr => subst h; exact c
    case mref => subst h; exact c
    case clo f nf cs =>
      split at h
      · obtain ⟨rfl, rfl, h⟩ := h
        obtain ⟨h1, h2⟩ := lLeOf_nth h
        cases c with
        | clo _ _ _ vs hl hr => exact .clo _ _ _ vs (by omega) (fun j hj => dLe_cl k (h2 j (by omega)) (hr j (by omega)))
      · exact h.elim
    case agg cs =>
      split at h
      · obtain ⟨h1, h2⟩ := lLeOf_nth h
        cases c with
        | agg _ vs hl hr => exact .agg _ vs (by omega) (fun j hj => dLe_cl k (h2 j (by omega)) (hr j (by omega)))
      · exact h.elim
    case tup cs =>
      split at h
      · obtain ⟨h1, h2⟩ := lLeOf_nth h
        cases c with
        | tup _ vs hl hr => exact .tup _ vs (by omega) (fun j hj => dLe_cl k (h2 j (by omega)) (hr j (by omega)))
      · exact h.elim
theorem dLe_rel : ∀ (k : Nat) {Z : Nat → Prop} {h : List Ob} {pl : List Pl} {w : World} {d d' : D} {v : Value}, dLe k d d' → RelV Z h pl w d v → RelV Z h pl w d' v
  | 0, _, _, _, _, d, d', v, e, c => by have e : d' = d := e; subst e; exact c
  | k + 1, Z, h, pl, w, d, d', v, e, c => by
    cases c with
    | cl _ _ hc => exact .cl _ _ (dLe_cl (k + 1) e hc)
    | ref l g off len o p a cap ho hp hk hg hs =>
      cases d' <;> simp only [dLe, reduceCtorEq] at e
      · exact .cl _ _ (.undef _)
      · cases e; exact .ref l g off len o p a cap ho hp hk hg hs
    | ptr l g i j o p a ho hp hk hg hs =>
      cases d' <;> simp only [dLe, reduceCtorEq] at e
      · exact .cl _ _ (.undef _)
      · cases e; exact .ptr l g i j o p a ho hp hk hg hs
    | mref l g o p b ho hp hk hg hs =>
      cases d' <;> simp only [dLe, reduceCtorEq] at e
      · exact .cl _ _ (.undef _)
      · cases e; exact .mref l g o p b ho hp hk hg hs
    | clo f nf cs vs hl hr =>
      cases d' <;> simp only [dLe, reduceCtorEq] at e
      · exact .cl _ _ (.undef _)
      · obtain ⟨rfl, rfl, e⟩ := e
        obtain ⟨h1, h2⟩ := lLeOf_nth e
        exact .clo _ _ _ vs (by omega) (fun j hj => dLe_rel k (h2 j (by omega)) (hr j (by omega)))
    | agg cs vs hl hr =>
      cases d' <;> simp only [dLe, reduceCtorEq] at e
      · exact .cl _ _ (.undef _)
      · obtain ⟨h1, h2⟩ := lLeOf_nth e
        exact .agg _ vs (by omega) (fun j hj => dLe_rel k (h2 j (by omega)) (hr j (by omega)))
    | tup cs vs hl hr =>
      cases d' <;> simp only [dLe, reduceCtorEq] at e
      · exact .cl _ _ (.undef _)
      · obtain ⟨h1, h2⟩ := lLeOf_nth e
        exact .tup _ vs (by omega) (fun j hj => dLe_rel k (h2 j (by omega)) (hr j (by omega)))

def Told (R : D → List Ob → Prop) (d : D) (h : List Ob) : Prop := ∃ d', dLe 6 d d' ∧ R d' h
/-- What a function hands back, told otherwise. -/
theorem MFn.tell {P : Program} {f : FuncId} {F : List Ob} {args : List D} {R : D → List Ob → Prop} (h : MFn P f F args (Told R)) : MFn P f F args R := fun Z base w pl vs h1 h2 h3 hl hc =>
  (h Z base w pl vs h1 h2 h3 hl hc).mono fun _ _ ⟨v, d, hh, pl', k1, ⟨d', e1, e2⟩, k3, k4, k5⟩ => ⟨v, d', hh, pl', k1, e2, k3, dLe_rel 6 e1 k4, k5⟩
theorem AFn.tell {P : Program} {f : FuncId} {args : List D} {R : D → List Ob → Prop} (h : AFn P f args (Told R)) : AFn P f args R := MFn.tell h
/-- What a function is given, told otherwise. -/
theorem MFn.tellArgs {P : Program} {f : FuncId} {F : List Ob} {cs' cs : List D} {R : D → List Ob → Prop} (h : MFn P f F cs R) (e : lLeOf (dLe 6) cs' cs) : MFn P f F cs' R := fun Z base w pl vs h1 h2 h3 hl hc => by
  obtain ⟨e1, e2⟩ := lLeOf_nth e
  exact h Z base w pl vs h1 h2 h3 (by omega) fun i hi => dLe_rel 6 (e2 i (by omega)) (hc i (by omega))
def frTell (fr : List (Nat × D)) : List (Nat × D) → Prop
  | [] => True
  | (t, d) :: r => dLe 6 (get fr t) d ∧ frTell fr r
theorem frTell_mem {fr : List (Nat × D)} : ∀ {r : List (Nat × D)}, frTell fr r → ∀ t d, (t, d) ∈ r → dLe 6 (get fr t) d
  | [], _, _, _, h => by cases h
  | (u, e) :: r, h, t, d, hm => by
    rcases List.mem_cons.1 hm with h1 | h1
    · cases h1; exact h.1
    · exact frTell_mem h.2 t d h1
def obTell (o o' : Ob) : Prop := o'.gen = o.gen ∧ o'.sz = o.sz ∧ o'.n = o.n ∧ o'.kd.like o.kd ∧ ∀ i, i < o.n → lLeOf (dLe 6) (o.row i) (o'.row i)
def obsTell : List Ob → List Ob → Prop
  | [], [] => True
  | o :: r, o' :: r' => obTell o o' ∧ obsTell r r'
  | _, _ => False
theorem obsTell_get : ∀ {h h' : List Ob}, obsTell h h' → h'.length = h.length ∧ ∀ (l : Nat) (o' : Ob), h'[l]? = some o' → ∃ o, h[l]? = some o ∧ obTell o o'
  | [], [], _ => ⟨rfl, fun l o' e => by simp at e⟩
  | [], _ :: _, h => h.elim
  | _ :: _, [], h => h.elim
  | o :: r, o' :: r', h => by
    obtain ⟨h1, h2⟩ := obsTell_get h.2
    refine ⟨by simp [h1], fun l u e => ?_⟩
    cases l with
    | zero => simp at e; subst e; exact ⟨o, rfl, h.1⟩
    | succ l => simp at e; obtain ⟨v, h3, h4⟩ := h2 l u e; exact ⟨v, by simpa using h3, h4⟩
/-- Slots and rows told otherwise. -/
theorem Wk.tell {m : Nat} {fr fr' : List (Nat × D)} {h h' : List Ob} (hf : frTell fr fr') (hl : obsTell h h') : Wk m ⟨fr, h⟩ ⟨fr', h'⟩ := fun Z base nt pl a w r => by
  obtain ⟨h1, h2⟩ := obsTell_get hl
  have key : ∀ (l : Nat) (o : Ob), h[l]? = some o → ∃ o', h'[l]? = some o' ∧ obTell o o' := fun l o e => by
    have : l < h'.length := by rw [h1]; exact lt_of_some e
    obtain ⟨o2, h3, h4⟩ := h2 l _ (List.getElem?_eq_getElem this)
    rw [e] at h3; cases h3
    exact ⟨_, List.getElem?_eq_getElem this, h4⟩
  have rel : ∀ {d : D} {v : Value}, RelV Z h pl w d v → RelV Z h' pl w d v := fun r => by
    induction r with
    | cl d v hc => exact .cl d v hc
    | ref l g off len o p a cap ho hp hk hg hs =>
      obtain ⟨o', h3, h4⟩ := key l o ho
      exact .ref l g off len o' p a cap h3 hp (by rw [h4.2.2.2.1.1]; exact hk) (by rw [h4.1]; exact hg) (fun e => by rw [h4.2.1]; exact hs (by rw [e, h4.1]))
    | ptr l g i j o p a ho hp hk hg hs =>
      obtain ⟨o', h3, h4⟩ := key l o ho
      exact .ptr l g i j o' p a h3 hp (by rw [h4.2.2.2.1.1]; exact hk) (by rw [h4.1]; exact hg) (fun e => by rw [h4.2.1]; exact hs (by rw [e, h4.1]))
    | mref l g o p b ho hp hk hg hs =>
      obtain ⟨o', h3, h4⟩ := key l o ho
      exact .mref l g o' p b h3 hp (by rw [h4.2.2.2.1.1]; exact hk) (by rw [h4.1]; exact hg) (fun e => hs (by rw [e, h4.1]))
    | clo f nf cs vs hl hr ih => exact .clo f nf cs vs hl ih
    | agg cs vs hl hr ih => exact .agg cs vs hl ih
    | tup cs vs hl hr ih => exact .tup cs vs hl ih
  refine ⟨pl, ⟨r.nt, r.defers, fun t => ?_, ⟨by rw [h1]; exact r.o.len, r.o.inj, fun l o' ho hp => ?_, fun l o' b q ho hp => ?_⟩⟩, fun _ h => h, fun l o p _ ho hp => ?_⟩
  · rcases mem_get fr' t with h1 | h1
    · show RelV Z h' pl w (get fr' t) _
      rw [h1]; exact .cl _ _ (.undef _)
    · exact dLe_rel 6 (frTell_mem hf _ _ h1) (rel (r.fr t))
  · obtain ⟨o, h3, h4⟩ := h2 l o' ho
    rw [h4.2.2.1]; exact r.o.noRow l o h3 hp
  · obtain ⟨o, h3, h4, h5, h6, h8, h7⟩ := h2 l o' ho
    obtain ⟨g1, x⟩ := r.o.at_ l o b q h3 hp
    exact ⟨fun hr => g1 (by rw [← h8.2, hr]), x.to h8.1 h5 h6 rfl (fun i hi => (lLeOf_nth (h7 i hi)).1) fun i j v hi hj hr => dLe_rel 6 ((lLeOf_nth (h7 i hi)).2 j hj) (rel hr)⟩
  · obtain ⟨o', h3, h4⟩ := key l o ho
    exact ⟨o', h3, hp, h4.1, h4.2.1, h4.2.2.2.1.1⟩
theorem Weak.tell {w0 : Start} {fr fr' : List (Nat × D)} {h h' : List Ob} (hf : frTell fr fr' ∧ obsTell h h') : Weak w0 ⟨fr, h⟩ ⟨fr', h'⟩ := (Wk.tell hf.1 hf.2).up
/-- As Weak.to, with values told otherwise. -/
theorem Weak.toT {w0 : Start} (k : Nat) {fr fr' : List (Nat × D)} {h h' : List Ob} (hw : frTell fr fr' ∧ obsTell h (h' ++ h.drop k) ∧ frUpto k fr' = true ∧ obsUpto k h' ∧ h'.length = k) (hm : w0.F.length ≤ k := by exact Nat.le_of_ble_eq_true rfl) : Weak w0 ⟨fr, h⟩ ⟨fr', h'⟩ := by
  refine Weak.trans (Weak.tell ⟨hw.1, hw.2.1⟩) ?_
  have e : (h' ++ h.drop k).take k = h' := by rw [List.take_append_of_le_length (by omega), List.take_of_length_le (by omega)]
  have := Wk.drop (m := w0.F.length) k hm (fr := fr') (h := h' ++ h.drop k) hw.2.2.1 (by rw [e]; exact hw.2.2.2.1)
  rw [e] at this
  exact this.up
/-- A nil slice in a variable's cell j told ens a slice over an object without rows. -/
theorem Wk.phantomOb {m : Nat} {fr : List (Nat × D)} {h : List Ob} (l j sz : Nat) (row : Nat → List D) {o : Ob} (ho : h[l]? = some o) (hk : o.kd.ty = 0) (hn : o.n = 1) (hj : nth (o.row 0) j = .nil) :
    Wk m ⟨fr, h⟩ ⟨fr, (h.set l ⟨o.kd, o.gen, o.sz, o.n, fun _ => (o.row 0).set j (.ref h.length 0 0 0)⟩) ++ [⟨.arr, 0, sz, 0, row⟩]⟩ := fun Z base nt pl a w r => by
  have hpl : pl.length = h.length := r.o.len
  have hlt := lt_of_some ho
  have hlp : l < pl.length := by omega
  -- told ens it is, with the phantom
  have rel : ∀ {d : D} {v : Value}, RelV Z h pl w d v → RelV Z ((h.set l ⟨o.kd, o.gen, o.sz, o.n, fun _ => (o.row 0).set j (.ref h.length 0 0 0)⟩) ++ [⟨.arr, 0, sz, 0, row⟩]) (pl ++ [none]) w d v := fun r => by
    have key : ∀ (l' : Nat) (o' : Ob), h[l']? = some o' → ∃ u, ((h.set l ⟨o.kd, o.gen, o.sz, o.n, fun _ => (o.row 0).set j (.ref h.length 0 0 0)⟩) ++ [⟨.arr, 0, sz, 0, row⟩])[l']? = some u ∧ u.gen = o'.gen ∧ u.sz = o'.sz ∧ u.kd.ty = o'.kd.ty := fun l' o' e => by
      rw [List.getElem?_append_left (by simpa using lt_of_some e)]
      by_cases hl : l = l'
      · subst hl
        rw [ho] at e; cases e
        exact ⟨⟨o.kd, o.gen, o.sz, o.n, fun _ => (o.row 0).set j (.ref h.length 0 0 0)⟩, by rw [List.getElem?_set_self hlt], rfl, rfl, rfl⟩
      · exact ⟨o', by rw [List.getElem?_set_ne hl]; exact e, rfl, rfl, rfl⟩
    have T : Tr h pl w ((h.set l ⟨o.kd, o.gen, o.sz, o.n, fun _ => (o.row 0).set j (.ref h.length 0 0 0)⟩) ++ [⟨.arr, 0, sz, 0, row⟩]) (pl ++ [none]) w :=
      ⟨fun b hb _ => ⟨away_append hb (fun q e => by cases e), rfl⟩, fun l' o' p e e2 => by
        obtain ⟨u, u1, u2, u3, u4⟩ := key l' o' e
        exact ⟨u, p, u1, append_left_some e2, by omega, u4, fun _ => ⟨u3, rfl⟩⟩, fun l' o' u b q e e' hg hp c el hb => ⟨c, hb, rfl⟩⟩
    exact r.tr T
  refine ⟨pl ++ [none], ⟨r.nt, r.defers, fun t => rel (r.fr t), ⟨by simp [hpl], fun l1 l2 b q q' e1 e2 => ?_, fun l1 o1 h1 e1 => ?_, fun l1 o1 b q h1 e1 => ?_⟩⟩, fun b hb => away_append hb (fun q e => by cases e), fun l1 o1 p _ h1 e1 => ?_⟩
  · rcases append_inv e1 with k1 | ⟨_, k1⟩
    · rcases append_inv e2 with k2 | ⟨_, k2⟩
      · exact r.o.inj _ _ _ _ _ k1 k2
      · cases k2
    · cases k1
  · rcases append_inv h1 with k1 | ⟨k0, k1⟩
    · have hl1 : l1 < pl.length := by have := lt_of_some k1; simp at this; omega
      rw [List.getElem?_append_left hl1] at e1
      by_cases hl : l = l1
      · subst hl
        rw [List.getElem?_set_self hlt] at k1; cases k1
        exact r.o.noRow l o ho e1
      · rw [List.getElem?_set_ne hl] at k1
        exact r.o.noRow l1 o1 k1 e1
    · subst k1; rfl
  · rcases append_inv h1 with k1 | ⟨k0, k1⟩
    · have hl1 : l1 < pl.length := by have := lt_of_some k1; simp at this; omega
      rw [List.getElem?_append_left hl1] at e1
      by_cases hl : l = l1
      · subst hl
        rw [List.getElem?_set_self hlt] at k1; cases k1
        obtain ⟨g1, x⟩ := r.o.at_ l o b q ho e1
        refine ⟨g1, ?_⟩
        obtain ⟨c, el, c1, c2, c3, c4⟩ := x.cells hk
        refine ObAt.ofCells hk ⟨c, el, c1, c2, fun i hi => ?_, fun i k hi hk' => ?_⟩
        · have hi : i < o.n := hi
          obtain rfl : i = 0 := by omega
          show ((o.row 0).set j _).length = o.sz
          rw [List.length_set]; exact c3 0 hi
        · have hi : i < o.n := hi
          obtain rfl : i = 0 := by omega
          obtain ⟨v, hv, hr⟩ := c4 0 k hi hk'
          refine ⟨v, hv, ?_⟩
          show RelV Z _ _ w (nth ((o.row 0).set j _) k) v
          by_cases hjk : j = k
          · subst hjk
            rw [hj] at hr
            obtain ⟨ad, rfl⟩ := inv_nil hr
            have hlen : j < (o.row 0).length := by rw [c3 0 hi]; exact hk'
            rw [show nth ((o.row 0).set j (.ref h.length 0 0 0)) j = .ref h.length 0 0 0 by simp [nth, List.getD_eq_getElem?_getD, hlen]]
            exact .ref _ _ _ _ ⟨.arr, 0, sz, 0, row⟩ none ad 0 (by rw [List.getElem?_append_right (by simp)]; simp) (by rw [List.getElem?_append_right (by omega)]; simp [hpl]) rfl (Nat.le_refl _) (fun _ => .inl ⟨rfl, rfl⟩)
          · rw [show nth ((o.row 0).set j (.ref h.length 0 0 0)) k = nth (o.row 0) k by simp [nth, List.getD_eq_getElem?_getD, List.getElem?_set_ne hjk]]
            exact rel hr
      · rw [List.getElem?_set_ne hl] at k1
        obtain ⟨g1, x⟩ := r.o.at_ l1 o1 b q k1 e1
        exact ⟨g1, x.to rfl rfl rfl rfl (fun _ _ => rfl) fun i k v _ _ hr => rel hr⟩
    · rcases append_inv e1 with k2 | ⟨_, k2⟩
      · have := ltp_of_some k2; simp at k0; omega
      · cases k2
  · by_cases hl : l = l1
    · subst hl
      have h1 : h[l]? = some o1 := h1
      rw [ho] at h1; cases h1
      exact ⟨⟨o.kd, o.gen, o.sz, o.n, fun _ => (o.row 0).set j (.ref h.length 0 0 0)⟩, by rw [List.getElem?_append_left (by simpa using hlt), List.getElem?_set_self hlt], append_left_some e1, rfl, rfl, rfl⟩
    · exact ⟨o1, by rw [List.getElem?_append_left (by simpa using lt_of_some h1), List.getElem?_set_ne hl]; exact h1, append_left_some e1, rfl, rfl, rfl⟩
theorem Weak.phantomOb {w0 : Start} {fr : List (Nat × D)} {h : List Ob} (l j sz : Nat) (row : Nat → List D) {o : Ob} (ho : h[l]? = some o) (hk : o.kd.ty = 0) (hn : o.n = 1) (hj : nth (o.row 0) j = .nil) :
    Weak w0 ⟨fr, h⟩ ⟨fr, (h.set l ⟨o.kd, o.gen, o.sz, o.n, fun _ => (o.row 0).set j (.ref h.length 0 0 0)⟩) ++ [⟨.arr, 0, sz, 0, row⟩]⟩ := (Wk.phantomOb l j sz row ho hk hn hj).up
section
variable {k : Nat} {d : D}
theorem dLe_self : dLe k d d = True := eq_true (dLe_refl k d)
theorem dLe_raw {v : Value} : dLe (k + 1) d (.raw v) = (d = .raw v) := rfl
theorem dLe_undef : dLe (k + 1) d .undef = True := rfl
theorem dLe_nil : dLe (k + 1) d .nil = (d = .nil) := rfl
theorem dLe_imm {z n z' n' : Nat} {r r' : Nat → List D} : dLe (k + 1) (.imm z' n' r') (.imm z n r) = (z = z' ∧ n = n' ∧ ∀ i, i < n → lLeOf (dLe k) (r' i) (r i)) := rfl
theorem dLe_nil_imm {z n : Nat} {r : Nat → List D} : dLe (k + 1) .nil (.imm z n r) = (n = 0) := rfl
theorem dLe_ref {l g o n : Nat} : dLe (k + 1) d (.ref l g o n) = (d = .ref l g o n) := rfl
theorem dLe_ptr {l g i j : Nat} : dLe (k + 1) d (.ptr l g i j) = (d = .ptr l g i j) := rfl
theorem dLe_mref {l g : Nat} : dLe (k + 1) d (.mref l g) = (d = .mref l g) := rfl
theorem dLe_ip {cs cs' : List D} : dLe (k + 1) (.ip cs') (.ip cs) = lLeOf (dLe k) cs' cs := rfl
theorem dLe_clo {f f' : FuncId} {nf nf' : Nat} {cs cs' : List D} : dLe (k + 1) (.clo f' nf' cs') (.clo f nf cs) = (f = f' ∧ nf = nf' ∧ lLeOf (dLe k) cs' cs) := rfl
theorem dLe_agg {cs cs' : List D} : dLe (k + 1) (.agg cs') (.agg cs) = lLeOf (dLe k) cs' cs := rfl
theorem dLe_tup {cs cs' : List D} : dLe (k + 1) (.tup cs') (.tup cs) = lLeOf (dLe k) cs' cs := rfl
theorem lLe_nil {f : D → D → Prop} : lLeOf f [] [] = True := rfl
theorem lLe_cons {f : D → D → Prop} {a b : D} {r s : List D} : lLeOf f (a :: r) (b :: s) = (f a b ∧ lLeOf f r s) := rfl
end
attribute [go_sem] dLe_self dLe_raw dLe_undef dLe_nil dLe_imm dLe_nil_imm dLe_ref dLe_ptr dLe_mref dLe_ip dLe_clo dLe_agg dLe_tup lLe_nil lLe_cons lLe_self frTell obTell obsTell
/-- Rows, one more of which is told. -/
theorem tell_snoc {f g : Nat → List D} {r : List D} {k : Nat} (h : ∀ i, i < k → lLeOf (dLe 6) (f i) (g i)) (hk : lLeOf (dLe 6) r (g k)) : ∀ i, i < k + 1 → lLeOf (dLe 6) (bif decide (i < k) then f i else r) (g i) := fun i hi => by
  rcases Nat.lt_succ_iff_lt_or_eq.1 hi with h1 | rfl
  · simp only [h1, decide_true, cond_true]; exact h i h1
  · simp only [Nat.lt_irrefl, decide_false, cond_false]; exact hk
end Go.Fg
