/- Contracts of functions over abstract values; calls, loops, and the weakening of abstract states. No conditions: definitions and their laws. -/
import Derived.Test.YtiiaocpkjmiacaaFgExec
namespace Go.Fg
set_option linter.unusedSimpArgs false
set_option linter.unusedVariables false
open Go.RowKit (Below)
variable {Z : Nat → Prop}

mutual
def D.shift (k : Nat) : D → D
  | .ref l g off len => .ref (k + l) g off len
  | .ptr l g i j => .ptr (k + l) g i j
  | .mref l g => .mref (k + l) g
  | .clo f nf cs => .clo f nf (shiftL k cs)
  | .agg cs => .agg (shiftL k cs)
  | .tup cs => .tup (shiftL k cs)
  | d => d
def shiftL (k : Nat) : List D → List D
  | [] => []
  | c :: cs => c.shift k :: shiftL k cs
end
def Ob.shift (k : Nat) (o : Ob) : Ob := { o with row := fun i => shiftL k (o.row i) }

theorem shiftL_length (k : Nat) : ∀ cs : List D, (shiftL k cs).length = cs.length
  | [] => rfl
  | _ :: cs => by simp [shiftL, shiftL_length k cs]
theorem nth_shiftL (k : Nat) : ∀ (cs : List D) (i : Nat), i < cs.length → nth (shiftL k cs) i = (nth cs i).shift k
  | [], i, h => by simp at h
  | c :: cs, 0, _ => by simp [shiftL, nth]
  | c :: cs, i + 1, h => by
    have := nth_shiftL k cs i (by simpa using h)
    simpa [shiftL, nth] using this

/-- The callee's objects behind the caller's. -/
theorem RelV.join {Zc : Nat → Prop} {h h' : List Ob} {pl pl' : List Pl} {w : World} (hl : pl.length = h.length) (hf : ∀ b, free Zc pl' b → free Z (pl ++ pl') b) {d : D} {v : Value} (r : RelV Zc h' pl' w d v) :
    RelV Z (h ++ h'.map (Ob.shift h.length)) (pl ++ pl') w (d.shift h.length) v := by
  have hob : ∀ (l : Nat) (o : Ob), h'[l]? = some o → (h ++ h'.map (Ob.shift h.length))[h.length + l]? = some (o.shift h.length) := fun l o e => by
    rw [List.getElem?_append_right (by omega)]; simp [e]
  have hpl : ∀ (l : Nat) (p : Pl), pl'[l]? = some p → (pl ++ pl')[h.length + l]? = some p := fun l p e => by
    rw [List.getElem?_append_right (by omega), hl]; simp [e]
  have hcl : ∀ (d : D) (v : Value), Cl (free Zc pl') w d v → RelV Z (h ++ h'.map (Ob.shift h.length)) (pl ++ pl') w (d.shift h.length) v := by
    intro d v hc
    have hc2 := hc.mono (N' := free Z (pl ++ pl')) (w' := w) (fun b hb _ => ⟨hf b hb, rfl⟩)
    clear hc
    induction hc2 with
    | raw v => exact .cl _ _ (.raw v)
    | undef v => exact .cl _ _ (.undef v)
    | nil a => exact .cl _ _ (.nil a)
    | imm sz n row a cap b o vs ha hl hs hc hr ih => exact .cl _ _ (.imm sz n row a cap b o vs ha hl hs hc hr)
    | ip cells b o vs hc hr ih => exact .cl _ _ (.ip cells b o vs hc hr)
    | clo f nf cs vs hl hr ih => exact .clo f nf _ vs (by rw [shiftL_length]; exact hl) (fun i hi => by rw [shiftL_length] at hi; rw [nth_shiftL _ _ _ hi]; exact ih i hi)
    | agg cs vs hl hr ih => exact .agg _ vs (by rw [shiftL_length]; exact hl) (fun i hi => by rw [shiftL_length] at hi; rw [nth_shiftL _ _ _ hi]; exact ih i hi)
    | tup cs vs hl hr ih => exact .tup _ vs (by rw [shiftL_length]; exact hl) (fun i hi => by rw [shiftL_length] at hi; rw [nth_shiftL _ _ _ hi]; exact ih i hi)
  induction r with
  | cl d v hc => exact hcl d v hc
  | ref l g off len o p a cap ho hp hk hg hs => exact .ref _ g off len _ p a cap (hob l o ho) (hpl l p hp) hk hg hs
  | ptr l g i j o p a ho hp hk hg hs => exact .ptr _ g i j _ p a (hob l o ho) (hpl l p hp) hk hg hs
  | mref l g o p b ho hp hk hg hs => exact .mref _ g _ p b (hob l o ho) (hpl l p hp) hk hg hs
  | clo f nf cs vs hl hr ih => exact .clo f nf _ vs (by rw [shiftL_length]; exact hl) (fun i hi => by rw [shiftL_length] at hi; rw [nth_shiftL _ _ _ hi]; exact ih i hi)
  | agg cs vs hl hr ih => exact .agg _ vs (by rw [shiftL_length]; exact hl) (fun i hi => by rw [shiftL_length] at hi; rw [nth_shiftL _ _ _ hi]; exact ih i hi)
  | tup cs vs hl hr ih => exact .tup _ vs (by rw [shiftL_length]; exact hl) (fun i hi => by rw [shiftL_length] at hi; rw [nth_shiftL _ _ _ hi]; exact ih i hi)

theorem Tr.join {base : Nat} {h h' : List Ob} {pl pl' : List Pl} {w w' : World} (R : RelO Z base h pl w) (hb : Below w.heap.size w w') (hnew : ∀ (l b q : Nat), pl'[l]? = some (some (b, q)) → w.heap.size ≤ b) :
    Tr h pl w (h ++ h') (pl ++ pl') w' where
  old := fun b hfr hlt => by
    refine ⟨fun l q e => ?_, hb.block b hlt⟩
    by_cases hl : l < pl.length
    · rw [List.getElem?_append_left hl] at e; exact hfr l q e
    · rw [List.getElem?_append_right (by omega)] at e
      have := hnew _ _ _ e; omega
  obj := fun l o p ho hp => ⟨o, p, by rw [List.getElem?_append_left (lt_of_some ho)]; exact ho, by rw [List.getElem?_append_left (ltp_of_some hp)]; exact hp, Nat.le_refl _, rfl, fun _ => ⟨rfl, rfl⟩⟩
  shape := fun l o o' b q ho ho' hg hp c el hbb => ⟨c, by rw [hb.block b (R.lt hp).1]; exact hbb, rfl⟩

theorem RelO.join {Zc : Nat → Prop} {base : Nat} {h h' : List Ob} {pl pl' : List Pl} {w w' : World} (R : RelO Z base h pl w) (hbase : base ≤ w.heap.size) (hb : Below w.heap.size w w') (R' : RelO Zc w.heap.size h' pl' w')
    (hf : ∀ b, free Zc pl' b → free Z (pl ++ pl') b) (hnew : ∀ (l b q : Nat), pl'[l]? = some (some (b, q)) → w.heap.size ≤ b) : RelO Z base (h ++ h'.map (Ob.shift h.length)) (pl ++ pl') w' := by
  have T := Tr.join (h' := h'.map (Ob.shift h.length)) R hb hnew
  refine ⟨by simp [R.len, R'.len], ?_, ?_, ?_⟩
  · intro l l' b q q' e1 e2
    by_cases h1 : l < pl.length <;> by_cases h2 : l' < pl.length
    · rw [List.getElem?_append_left h1] at e1; rw [List.getElem?_append_left h2] at e2; exact R.inj _ _ _ _ _ e1 e2
    · rw [List.getElem?_append_left h1] at e1; rw [List.getElem?_append_right (by omega)] at e2
      have := (R.lt e1).1; have := hnew _ _ _ e2; omega
    · rw [List.getElem?_append_right (by omega)] at e1; rw [List.getElem?_append_left h2] at e2
      have := (R.lt e2).1; have := hnew _ _ _ e1; omega
    · rw [List.getElem?_append_right (by omega)] at e1 e2
      have := R'.inj _ _ _ _ _ e1 e2; omega
  · intro l o ho hp
    by_cases h1 : l < h.length
    · rw [List.getElem?_append_left h1] at ho
      rw [List.getElem?_append_left (by rw [R.len]; exact h1)] at hp
      exact R.noRow l o ho hp
    · rw [List.getElem?_append_right (by omega)] at ho
      rw [List.getElem?_append_right (by rw [R.len]; omega), R.len] at hp
      simp only [List.getElem?_map, Option.map_eq_some_iff] at ho
      obtain ⟨o', ho', rfl⟩ := ho
      exact R'.noRow _ o' ho' hp
  · intro l o b q ho hp
    by_cases h1 : l < h.length
    · rw [List.getElem?_append_left h1] at ho
      rw [List.getElem?_append_left (by rw [R.len]; exact h1)] at hp
      obtain ⟨g1, x⟩ := R.at_ l o b q ho hp
      exact ⟨g1, x.to rfl rfl rfl (hb.block b (R.lt hp).1) (fun _ _ => rfl) fun i j v _ _ hr => hr.tr T⟩
    · rw [List.getElem?_append_right (by omega)] at ho
      rw [List.getElem?_append_right (by rw [R.len]; omega), R.len] at hp
      simp only [List.getElem?_map, Option.map_eq_some_iff] at ho
      obtain ⟨o', ho', rfl⟩ := ho
      obtain ⟨g1, x⟩ := R'.at_ _ o' b q ho' hp
      refine ⟨fun _ => by have := hnew _ _ _ hp; omega, x.to rfl rfl rfl rfl (fun i _ => shiftL_length _ _) fun i j v hi hj hr => ?_⟩
      show RelV Z _ _ _ (nth (shiftL _ (o'.row i)) j) v
      rw [nth_shiftL _ _ _ hj]
      exact hr.join R.len hf

/-! Contracts. -/
/-- Called with objects F lent, and with values that read so, function f returns what meets R: a value and objects, those that were lent first; nothing else changes. -/
def MFn (P : Program) (f : FuncId) (F : List Ob) (args : List D) (R : D → List Ob → Prop) : Prop :=
  ∀ (Z : Nat → Prop) (base : Nat) (w : World) (pl : List Pl) (vs : List Value), base ≤ w.heap.size → (∀ b, w.heap.size ≤ b → Z b) → RelO Z base F pl w →
    vs.length = args.length → (∀ i, i < args.length → RelV Z F pl w (nth args i) (nthV vs i)) →
    Calls P f vs.toArray w fun e w' => ∃ v d h pl', e = .returned v ∧ R d h ∧ RelO Z base h pl' w' ∧ RelV Z h pl' w' d v ∧ Tr F pl w h pl' w' ∧ Below base w w'
theorem MFn.mono {P : Program} {f : FuncId} {F : List Ob} {args : List D} {R R' : D → List Ob → Prop} (h : MFn P f F args R) (hr : ∀ d h, R d h → R' d h) : MFn P f F args R' := fun Z base w pl vs h1 h2 h3 h4 h5 =>
  (h Z base w pl vs h1 h2 h3 h4 h5).mono fun _ _ ⟨v, d, hh, pl', k1, k2, k3⟩ => ⟨v, d, hh, pl', k1, hr _ _ k2, k3⟩
/-- The same with nothing lent: what was there is as it was. -/
def AFn (P : Program) (f : FuncId) (args : List D) (R : D → List Ob → Prop) : Prop := MFn P f [] args R
theorem AFn.mono {P : Program} {f : FuncId} {args : List D} {R R' : D → List Ob → Prop} (h : AFn P f args R) (hr : ∀ d h, R d h → R' d h) : AFn P f args R' := MFn.mono h hr

def initFr : List D → Nat → List (Nat × D)
  | [], _ => []
  | d :: r, i => (i, d) :: initFr r (i + 1)
theorem get_initFr : ∀ (args : List D) (i t : Nat), get (initFr args i) t = if i ≤ t then nth args (t - i) else .undef
  | [], i, t => by simp [initFr, get, nth]
  | d :: r, i, t => by
    simp only [initFr, get]
    by_cases h : i = t
    · subst h; simp [nth]
    · have : Nat.beq i t = false := by rw [← Bool.not_eq_true, Nat.beq_eq]; exact h
      rw [this]
      simp only [cond_false]
      rw [get_initFr r (i + 1) t]
      by_cases h2 : i + 1 ≤ t
      · rw [if_pos h2, if_pos (by omega)]
        obtain ⟨m, rfl⟩ : ∃ m, t = i + (m + 1) := ⟨t - i - 1, by omega⟩
        rw [show i + (m + 1) - (i + 1) = m by omega, show i + (m + 1) - i = m + 1 by omega]
        simp [nth]
      · rw [if_neg h2, if_neg (by omega)]

/-- What a function hands back. -/
def resD (L : Lay) (s : St) : List ResultVar → Option (Prop × List D)
  | [] => some (True, [])
  | .tmp t :: r => match resD L s r with
    | some (p, ds) => some (p, get s.fr t :: ds)
    | none => none
  | .cell a ty :: r => match pload L s.h ty (get s.fr a), resD L s r with
    | some (q, d), some (p, ds) => some (q ∧ p, d :: ds)
    | _, _ => none
def one : List D → D
  | [d] => d
  | ds => .tup ds
/-- The post of a body: at its end the results meet R. -/
def Post (L : Lay) (rs : List ResultVar) (R : D → List Ob → Prop) : Exit → St → Prop
  | .normal, s | .ret, s => match resD L s rs with
    | some (p, ds) => p ∧ R (one ds) s.h
    | none => False
  | _, _ => False

def resV (tmps : Array Value) : ResultVar → Sem Value
  | .tmp t => pure (tmps.getD t Go.undef)
  | .cell x t => do loadVar t (← asAddr (tmps.getD x Go.undef))
theorem results_eq (fn : Func) (tmps : Array Value) : results fn tmps = (do let vs ← fn.results.mapM (resV tmps); pure (if h : vs.size = 1 then vs[0] else .tuple vs)) := by
  unfold results
  congr 2
theorem run_resD {P : Program} {L : Lay} (hL : LayOk P L) {base nt : Nat} {s : St} {pl : List Pl} {a : Act} {w : World} (r : Rel Z base nt s pl a w) : ∀ (rs : List ResultVar) (p : Prop) (ds : List D), resD L s rs = some (p, ds) → p →
    ∃ vs : List Value, vs.length = ds.length ∧ (∀ i, i < ds.length → RelV Z s.h pl w (nth ds i) (nthV vs i)) ∧
      (rs.mapM (resV a.tmps)).run P w = .ok vs w
  | [], p, ds, h, _ => by simp [resD] at h; obtain ⟨_, rfl⟩ := h; exact ⟨[], rfl, fun i hi => by simp at hi, by simp⟩
  | .tmp t :: rs, p, ds, h, hp => by
    simp only [resD] at h
    split at h
    · rename_i q ds' hr
      simp only [Option.some.injEq, Prod.mk.injEq] at h
      obtain ⟨rfl, rfl⟩ := h
      obtain ⟨vs, h1, h2, h3⟩ := run_resD hL r rs _ _ hr hp
      refine ⟨a.tmps.getD t Go.undef :: vs, by simp [h1], fun i hi => ?_, by simp [List.mapM_cons, resV, h3]⟩
      cases i with
      | zero => exact r.fr t
      | succ i => have := h2 i (by simpa using hi); simpa [nth, nthV] using this
    · cases h
  | .cell x t :: rs, p, ds, h, hp => by
    simp only [resD] at h
    split at h
    · rename_i q d p' ds' hl hr
      simp only [Option.some.injEq, Prod.mk.injEq] at h
      obtain ⟨rfl, rfl⟩ := h
      obtain ⟨vs, h1, h2, h3⟩ := run_resD hL r rs _ _ hr hp.2
      -- the load, by a load's own law
      have ho := load_ok (P := P) (base := base) (nt := nt) (s := s) (o := ⟨none, .load t (.tmp x), 0, "", #[], none⟩) hL (t := t) (x := .tmp x) rfl hl hp.1
      obtain ⟨v, hv, hrun⟩ := ho Z pl a w r
      have hrun := hrun w (fun _ _ => rfl)
      refine ⟨v :: vs, by simp [h1], fun i hi => ?_, ?_⟩
      · cases i with
        | zero => exact hv
        | succ i => have := h2 i (by simpa using hi); simpa [nth, nthV] using this
      · have hx := r.fr x
        have hld : (resV a.tmps (.cell x t)).run P w = .ok v w := by
          simp only [execOp, Act.eval, Instr.loadAt, Sem.run_bind] at hrun
          simp only [resV]
          have hptr : ∃ ad, a.tmps.getD x Go.undef = .pointer (some ad) := by
            unfold pload at hl
            split at hl
            · cases hl
            · split at hl
              · rename_i hg; rw [hg] at hx; obtain ⟨_, _, ad, hv, _⟩ := inv_ptr hx; exact ⟨_, hv⟩
              · rename_i hg; rw [hg] at hx; obtain ⟨_, _, _, hv, _⟩ := inv_ip hx; exact ⟨_, hv⟩
              · cases hl
          obtain ⟨ad, had⟩ := hptr
          rw [had] at hrun ⊢
          simp only [Instr.sureAddr, asAddr, Sem.run_bind, Sem.run_pure, Result.andThen_ok] at hrun ⊢
          generalize (loadVar t ad).run P w = r1 at *
          cases r1 with
          | ok u w1 => simp only [Result.andThen_ok] at hrun; cases hrun; rfl
          | halt x w1 => simp only [Result.andThen_halt] at hrun; cases hrun
        simp [List.mapM_cons, hld, h3]
    · cases h

theorem MFn_of {P : Program} {L : Lay} (hL : LayOk P L) {f : FuncId} {fn : Func} {c : Code} (hf : P.funcs[f]? = some fn) (hb : fn.body = some c) {F : List Ob} {args : List D} {R : D → List Ob → Prop} (hn : args.length ≤ fn.ntmps)
    (h : ∀ (base : Nat) (w : World) (pl : List Pl), base ≤ w.heap.size → pl.length = F.length → A P base fn.ntmps ⟨w, F, pl⟩ c (Post L fn.results.toList R) ⟨initFr args 0, F⟩) : MFn P f F args R := by
  intro Z base w pl vs hbase hZ hO hl hc
  refine calls_of_wp hf hb ?_
  have hrel : Rel Z base fn.ntmps ⟨initFr args 0, F⟩ pl { tmps := vs.toArray ++ Array.replicate (fn.ntmps - vs.toArray.size) Go.undef, defers := [] } w := by
    refine ⟨by simp; omega, rfl, fun t => ?_, hO⟩
    rw [get_initFr]
    simp only [Nat.zero_le, if_true, Nat.sub_zero]
    by_cases ht : t < args.length
    · have := hc t ht
      have e : (vs.toArray ++ Array.replicate (fn.ntmps - vs.toArray.size) Go.undef).getD t Go.undef = nthV vs t := by
        rw [Array.getD_eq_getD_getElem?, Array.getElem?_append_left (by simp; omega)]
        simp [nthV, List.getD_eq_getElem?_getD]
      rw [e]
      exact this
    · have : nth args t = .undef := by simp [nth, List.getD_eq_getElem?_getD, List.getElem?_eq_none (Nat.le_of_not_lt ht)]
      rw [this]
      exact .cl _ _ (.undef _)
  refine wp_mono (h base w pl hbase hO.len _ trivial pl _ w hrel ⟨Below.refl _ _, Tr.refl _ _ _, ZIn.start (w0 := ⟨w, F, pl⟩) hO hZ⟩) fun e a' w' hh => ?_
  obtain ⟨s', pl', hq, r', hbl, hT, _⟩ := hh
  have fin : (match resD L s' fn.results.toList with | some (p, ds) => p ∧ R (one ds) s'.h | none => False) → a'.defers = [] ∧ ∃ v, (results fn a'.tmps).run P w' = .ok v w' ∧
      ∃ v1 d h pl', Ending.returned v = .returned v1 ∧ R d h ∧ RelO Z base h pl' w' ∧ RelV Z h pl' w' d v1 ∧ Tr F pl w h pl' w' ∧ Below base w w' := by
    intro hm
    split at hm
    · rename_i p ds hres
      obtain ⟨vs', h1, h2, h3⟩ := run_resD hL r' _ _ _ hres hm.1
      have hrun : (fn.results.mapM (resV a'.tmps)).run P w' = .ok vs'.toArray w' := by
        rw [Array.mapM_eq_mapM_toList]
        simp only [Sem.run_map, h3, Result.andThen_ok]
      refine ⟨r'.defers, ?_⟩
      have hsz : vs'.toArray.size = vs'.length := by simp
      match ds, vs', h1, h2, hrun, hm with
      | [d], [v], _, h2, hrun, hm =>
        refine ⟨v, ?_, v, d, s'.h, pl', rfl, hm.2, r'.o, h2 0 (by simp), hT, hbl⟩
        rw [results_eq]; simp only [Sem.run_bind]
        rw [hrun]; simp
      | [], [], _, h2, hrun, hm =>
        refine ⟨.tuple #[], ?_, _, _, s'.h, pl', rfl, hm.2, r'.o, .tup [] [] rfl (fun i hi => by simp at hi), hT, hbl⟩
        rw [results_eq]; simp only [Sem.run_bind]
        rw [hrun]; simp
      | d :: d2 :: ds, v :: v2 :: vs, h1, h2, hrun, hm =>
        refine ⟨.tuple (v :: v2 :: vs).toArray, ?_, _, _, s'.h, pl', rfl, hm.2, r'.o, .tup _ _ h1 h2, hT, hbl⟩
        rw [results_eq]; simp only [Sem.run_bind]
        rw [hrun]; simp
      | [], _ :: _, h1, _, _, _ => simp at h1
      | [_], [], h1, _, _, _ => simp at h1
      | [_], _ :: _ :: _, h1, _, _, _ => simp at h1
      | _ :: _ :: _, [], h1, _, _, _ => simp at h1
      | _ :: _ :: _, [_], h1, _, _, _ => simp at h1
    · exact hm.elim
  cases e with
  | normal => exact fin hq
  | ret => exact fin hq
  | exit id => exact hq.elim
  | goto l => exact hq.elim
  | panic ch => exact hq.elim
  | outgrown => exact hq.elim
end Go.Fg
