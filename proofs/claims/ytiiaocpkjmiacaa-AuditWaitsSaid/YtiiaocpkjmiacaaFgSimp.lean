/- The rewrite rules by which the evaluator is run. No conditions: laws. -/
import Derived.Test.YtiiaocpkjmiacaaFgAny
namespace Go.Fg
set_option linter.unusedSimpArgs false
set_option linter.unusedVariables false
/-- An equation that is not to be taken for a mere unfolding. -/
theorem eqOf {α : Sort _} {a b : α} (h : a = b) : a = b := h
@[go_sem] theorem nat_beq (a b : Nat) : Nat.beq a b = (a == b) := by
  rw [Bool.eq_iff_iff]; simp [Nat.beq_eq]
@[go_sem] theorem nat_blt (a b : Nat) : Nat.blt a b = decide (a < b) := by
  rw [Bool.eq_iff_iff]; simp [Nat.blt_eq]
@[go_sem] theorem nat_ble (a b : Nat) : Nat.ble a b = decide (a ≤ b) := by
  rw [Bool.eq_iff_iff]; simp [Nat.ble_eq]

/-- The evaluator's conditions, as one proposition. -/
def hx (P : Program) (base : Nat) (w0 : Start) (Q : Exit → St → Prop) (X : Cx) (nt n : Nat) (k : List Item) (s : St) : Prop := (exec X nt n k s).holds P base nt w0 Q
/-- The same, put off: no rule opens it. -/
def hz (P : Program) (base : Nat) (w0 : Start) (Q : Exit → St → Prop) (X : Cx) (nt n : Nat) (k : List Item) (s : St) : Prop := hx P base w0 Q X nt n k s
/-- Both cases of a test; each is put off till the test is decided. -/
def hite (b : Bool) (A B : Prop) : Prop := (b = true → A) ∧ (b = false → B)
def hok (b : Bool) (A : Prop) : Prop := b = true ∧ A

section
variable {P : Program} {base : Nat} {w0 : Start} {Q : Exit → St → Prop} {X : Cx} {nt n : Nat} {k : List Item} {s : St}
@[go_sem ↓] theorem hite_t {B : Prop} : hite true (hz P base w0 Q X nt n k s) B = hx P base w0 Q X nt n k s := by simp [hite, hz]
@[go_sem ↓] theorem hite_f {A : Prop} : hite false A (hz P base w0 Q X nt n k s) = hx P base w0 Q X nt n k s := by simp [hite, hz]
theorem hite_intro {b : Bool} {k' : List Item} {s' : St} (h1 : b = true → hx P base w0 Q X nt n k s) (h2 : b = false → hx P base w0 Q X nt n k' s') : hite b (hz P base w0 Q X nt n k s) (hz P base w0 Q X nt n k' s') := ⟨h1, h2⟩
@[go_sem] theorem hx_nil : hx P base w0 Q X nt (n + 1) [] s = Q .normal s := eqOf rfl
@[go_sem] theorem hx_inBlock {id : Nat} : hx P base w0 Q X nt (n + 1) (.inBlock id :: k) s = hx P base w0 Q X nt n k s := eqOf rfl
@[go_sem] theorem hx_skip : hx P base w0 Q X nt (n + 1) (.code .skip :: k) s = hx P base w0 Q X nt n k s := eqOf rfl
@[go_sem] theorem hx_label {l : Nat} : hx P base w0 Q X nt (n + 1) (.code (.label l) :: k) s = hx P base w0 Q X nt n k s := eqOf rfl
@[go_sem] theorem hx_seq {a b : Code} : hx P base w0 Q X nt (n + 1) (.code (.seq a b) :: k) s = hx P base w0 Q X nt n (.code a :: .code b :: k) s := eqOf rfl
@[go_sem] theorem hx_block {id : Nat} {c : Code} : hx P base w0 Q X nt (n + 1) (.code (.block id c) :: k) s = hx P base w0 Q X nt n (.code c :: .inBlock id :: k) s := eqOf rfl
@[go_sem] theorem hx_inScope : hx P base w0 Q X nt (n + 1) (.inScope :: k) s = hx P base w0 Q X nt n k s := eqOf rfl
@[go_sem] theorem hx_scope {c : Code} : hx P base w0 Q X nt (n + 1) (.code (.scope c) :: k) s = hx P base w0 Q X nt n (.code c :: .inScope :: k) s := eqOf rfl
@[go_sem] theorem hx_cond {c : Operand} {a b : Code} : hx P base w0 Q X nt (n + 1) (.code (.cond c a b) :: k) s = (match evalO s.fr c with
    | .raw (.bool x) => hite x (hz P base w0 Q X nt n (.code a :: k) s) (hz P base w0 Q X nt n (.code b :: k) s)
    | _ => False) := by
  simp only [hx, exec]
  generalize evalO s.fr c = d
  cases d with
  | raw v => cases v <;> rfl
  | _ => rfl
@[go_sem] theorem hx_exit {id : Nat} : hx P base w0 Q X nt (n + 1) (.code (.exit id) :: k) s = (match exitK id k with
    | some k' => hx P base w0 Q X nt n k' s
    | none => Q (.exit id) s) := by
  simp only [hx, exec]
  generalize exitK id k = r
  cases r <;> rfl
@[go_sem] theorem hx_ret : hx P base w0 Q X nt (n + 1) (.code .ret :: k) s = Q .ret s := eqOf rfl
@[go_sem] theorem hx_region {id : Nat} {ops : Array Oper} : hx P base w0 Q X nt (n + 1) (.code (.region id ops false) :: k) s = hx P base w0 Q X nt n (.ops (gops ops) :: k) s := eqOf rfl
@[go_sem] theorem hx_draw {id : Nat} {ops : Array Oper} : hx P base w0 Q X nt (n + 1) (.code (.region id ops true) :: k) s = kont P base nt w0 Q (.code (.region id ops true) :: k) .normal s := eqOf rfl
@[go_sem] theorem hx_loop {c : Code} : hx P base w0 Q X nt (n + 1) (.code (.loop c) :: k) s = kont P base nt w0 Q (.code (.loop c) :: k) .normal s := eqOf rfl
@[go_sem] theorem hx_ops_nil : hx P base w0 Q X nt (n + 1) (.ops [] :: k) s = hx P base w0 Q X nt n k s := eqOf rfl
@[go_sem ↓] theorem hok_t {A : Prop} : hok true A = A := by simp [hok]
@[go_sem] theorem hx_ops {o : Oper} {r : List (Oper × G)} : hx P base w0 Q X nt (n + 1) (.ops ((o, none) :: r) :: k) s = (match pstep X s o.op with
    | some (p, d) => p ∧ (match okO nt o.dst with | true => hx P base w0 Q X nt n (.ops r :: k) ⟨putO s.fr o.dst d, s.h⟩ | false => False)
    | none => match estep X s o.op with
      | some (p, h, d) => p ∧ (match okO nt o.dst with | true => hx P base w0 Q X nt n (.ops r :: k) ⟨putO s.fr o.dst d, h⟩ | false => False)
      | none => kont P base nt w0 Q (.ops ((o, none) :: r) :: k) .normal s) := by
  simp only [hx, exec]
  generalize pstep X s o.op = r1
  generalize estep X s o.op = r2
  cases r1 with
  | some pd => cases okO nt o.dst <;> simp [Tree.holds]
  | none => cases r2 with
    | some phd => cases okO nt o.dst <;> simp [Tree.holds]
    | none => rfl
theorem hx_ops_g {o : Oper} {t : Nat} {b : Bool} {r : List (Oper × G)} (ht : okO nt o.dst = true) : hx P base w0 Q X nt (n + 1) (.ops ((o, some (some t, b)) :: r) :: k) s = (match get s.fr t with
    | .raw (.bool x) => hite (beqB b x) (hz P base w0 Q X nt n (.ops ((o, none) :: r) :: k) ⟨put s.fr t (.raw (.bool b)), s.h⟩) (hz P base w0 Q X nt n (.ops r :: k) ⟨putO (put s.fr t (.raw (.bool (!b)))) o.dst (.raw Go.undef), s.h⟩)
    | .raw (.tuple _) => hx P base w0 Q X nt n (.ops r :: k) ⟨putO s.fr o.dst (.raw Go.undef), s.h⟩
    | _ => False) := by
  simp only [hx, exec]
  generalize get s.fr t = d
  cases d with
  | raw v =>
    cases v with
    | bool x => simp [hite, hz, hx, ht, Tree.holds]
    | tuple vs => simp [ht]
    | _ => rfl
  | _ => rfl
@[go_sem] theorem hx_ops_gt {o : Oper} {t : Nat} {r : List (Oper × G)} (ht : okO nt o.dst = true) : hx P base w0 Q X nt (n + 1) (.ops ((o, some (some t, true)) :: r) :: k) s = (match get s.fr t with
    | .raw (.bool x) => hite x (hz P base w0 Q X nt n (.ops ((o, none) :: r) :: k) ⟨put s.fr t (.raw (.bool true)), s.h⟩) (hz P base w0 Q X nt n (.ops r :: k) ⟨putO (put s.fr t (.raw (.bool false))) o.dst (.raw Go.undef), s.h⟩)
    | .raw (.tuple _) => hx P base w0 Q X nt n (.ops r :: k) ⟨putO s.fr o.dst (.raw Go.undef), s.h⟩
    | _ => False) := hx_ops_g ht
@[go_sem] theorem hx_ops_gf {o : Oper} {t : Nat} {r : List (Oper × G)} (ht : okO nt o.dst = true) : hx P base w0 Q X nt (n + 1) (.ops ((o, some (some t, false)) :: r) :: k) s = (match get s.fr t with
    | .raw (.bool x) => hite x (hz P base w0 Q X nt n (.ops r :: k) ⟨putO (put s.fr t (.raw (.bool true))) o.dst (.raw Go.undef), s.h⟩) (hz P base w0 Q X nt n (.ops ((o, none) :: r) :: k) ⟨put s.fr t (.raw (.bool false)), s.h⟩)
    | .raw (.tuple _) => hx P base w0 Q X nt n (.ops r :: k) ⟨putO s.fr o.dst (.raw Go.undef), s.h⟩
    | _ => False) := by
  rw [hx_ops_g ht]
  generalize get s.fr t = d
  cases d with
  | raw v =>
    cases v with
    | bool x => cases x <;> simp [hite, beqB]
    | _ => rfl
  | _ => rfl
end
section
variable {P : Program} {base nt : Nat} {w0 : Start} {Q : Exit → St → Prop} {k : List Item} {s : St} {I : Nat → St → Prop} {m : Nat}
@[go_sem] theorem kont_nil {e : Exit} : kont P base nt w0 Q [] e s = Q e s := eqOf rfl
@[go_sem] theorem kont_ret' {x : Item} : kont P base nt w0 Q (x :: k) .ret s = kont P base nt w0 Q k .ret s := by cases x <;> rfl
@[go_sem] theorem kont_code_exit {c : Code} {j : Nat} : kont P base nt w0 Q (.code c :: k) (.exit j) s = kont P base nt w0 Q k (.exit j) s := eqOf rfl
@[go_sem] theorem kont_ops_exit {l : List (Oper × G)} {j : Nat} : kont P base nt w0 Q (.ops l :: k) (.exit j) s = kont P base nt w0 Q k (.exit j) s := eqOf rfl
@[go_sem] theorem kont_block_exit {id : Nat} : kont P base nt w0 Q (.inBlock id :: k) (.exit id) s = kont P base nt w0 Q k .normal s := by simp [kont]
@[go_sem] theorem kont_block_exit' {id j : Nat} (h : (j == id) = false) : kont P base nt w0 Q (.inBlock id :: k) (.exit j) s = kont P base nt w0 Q k (.exit j) s := by
  have : ¬ j = id := by simpa using h
  simp [kont, this]
@[go_sem] theorem kont_block_normal {id : Nat} : kont P base nt w0 Q (.inBlock id :: k) .normal s = kont P base nt w0 Q k .normal s := eqOf rfl
@[go_sem] theorem kont_scope_exit {j : Nat} : kont P base nt w0 Q (.inScope :: k) (.exit j) s = kont P base nt w0 Q k (.exit j) s := eqOf rfl
@[go_sem] theorem kont_scope_normal : kont P base nt w0 Q (.inScope :: k) .normal s = kont P base nt w0 Q k .normal s := eqOf rfl
@[go_sem] theorem LoopQ_normal : LoopQ P base nt w0 Q k I m .normal s = ∃ m' s', m' < m ∧ Weak w0 s s' ∧ I m' s' := eqOf rfl
@[go_sem] theorem LoopQ_exit {j : Nat} : LoopQ P base nt w0 Q k I m (.exit j) s = kont P base nt w0 Q k (.exit j) s := eqOf rfl
@[go_sem] theorem LoopQ_ret : LoopQ P base nt w0 Q k I m .ret s = kont P base nt w0 Q k .ret s := eqOf rfl
end
attribute [go_sem] gops guardOf strip evalO get put putO okO ofC ofCell pstep estep exitK beqB
  pbin pbinI pshift pbinB pbinS pbinP isPtrTy isBoolTy isShift IntKind.same pload mk TK.agg pfield pfieldAddr pfieldV pelem pindexAddr pindex pconv plen
  oneV D.oneCell cellsD splice setRow pstore psrc papp pbuild pplaces pfill pbsRow pbuildSlice pbnd pslice pbinA rawsD beqL cat ceqL ceq nth D.there appRow appFits
  argsD closeW closeD calleeD resD one Post D.shift shiftL Ob.shift initFr D.cl1 D.flat flatL D.upto uptoL frLe frUpto obsUpto obsLe obLe Kd.isOne Kd.ty Kd.ro Kd.like Kd.toRo
attribute [go_sem] List.map_cons List.map_nil List.getElem?_toArray List.getElem?_cons_zero List.getElem?_cons_succ List.getElem?_nil Option.bind_some Option.bind_none Option.map_some Option.map_none List.length_cons List.length_nil List.cons_append List.nil_append List.append_nil
  List.all_cons List.all_nil List.take_zero List.take_succ_cons List.take_nil List.drop_zero List.drop_succ_cons List.drop_nil List.set_cons_zero List.set_cons_succ List.getD_cons_zero List.getD_cons_succ List.replicate_zero List.replicate_succ List.flatten_cons List.flatten_nil
  cond_true cond_false Bool.not_true Bool.not_false Bool.and_true Bool.true_and Bool.and_false Bool.false_and Bool.or_true Bool.true_or Bool.or_false Bool.false_or beq_self_eq_true decide_true decide_false true_and and_true false_and and_false
  implies_true forall_const reduceCtorEq List.toList_toArray Int.toNat_natCast Int.natCast_nonneg Int.ofNat_lt Int.ofNat_le Int.ofNat_inj Nat.zero_add Nat.add_zero Nat.le_refl Nat.zero_le Option.some.injEq Prod.mk.injEq
theorem kont_of_hx {P : Program} {base nt : Nat} {w0 : Start} {Q : Exit → St → Prop} {X : Cx} (hX : CxOk P X) (hb : base ≤ w0.w.heap.size) (n : Nat) {k : List Item} {s : St} (h : hx P base w0 Q X nt n k s) : kont P base nt w0 Q k .normal s := exec_ok hX hb n k s h
theorem AFn_hx {P : Program} {X : Cx} (hX : CxOk P X) {f : FuncId} {fn : Func} {c : Code} (n : Nat) (hf : P.funcs[f]? = some fn) (hb : fn.body = some c) {args : List D} {R : D → List Ob → Prop} {nt : Nat} {rs : Array ResultVar} (hnt : fn.ntmps = nt) (hrs : fn.results = rs) (hn : Nat.ble args.length nt = true)
    (h : ∀ (base : Nat) (w : World), base ≤ w.heap.size → hx P base ⟨w, [], []⟩ (Post X.L rs.toList R) X nt n [.code c] ⟨initFr args 0, []⟩) : AFn P f args R :=
  MFn_of' hX n hf hb hnt (Nat.le_of_ble_eq_true hn) (by
    subst hrs
    intro base w pl hb hl
    cases pl with
    | nil => exact h base w hb
    | cons _ _ => simp at hl)
theorem MFn_hx {P : Program} {X : Cx} (hX : CxOk P X) {f : FuncId} {fn : Func} {c : Code} (n : Nat) (hf : P.funcs[f]? = some fn) (hb : fn.body = some c) {F : List Ob} {args : List D} {R : D → List Ob → Prop} {nt : Nat} {rs : Array ResultVar} (hnt : fn.ntmps = nt) (hrs : fn.results = rs) (hn : Nat.ble args.length nt = true)
    (h : ∀ (base : Nat) (w : World) (pl : List Pl), base ≤ w.heap.size → hx P base ⟨w, F, pl⟩ (Post X.L rs.toList R) X nt n [.code c] ⟨initFr args 0, F⟩) : MFn P f F args R :=
  MFn_of' hX n hf hb hnt (Nat.le_of_ble_eq_true hn) (by subst hrs; exact fun base w pl hb _ => h base w pl hb)

/-- Objects behind the first k are let go. -/
theorem RelO.take {Z : Nat → Prop} {base : Nat} {h : List Ob} {pl : List Pl} {w : World} (R : RelO Z base h pl w) (k : Nat) (h2 : obsUpto k (h.take k)) : RelO Z base (h.take k) (pl.take k) w := by
  have hpl : ∀ (l : Nat) (p : Pl), (pl.take k)[l]? = some p → pl[l]? = some p := fun l p e => by
    rw [List.getElem?_take] at e; split at e
    · exact e
    · cases e
  have hh : ∀ (l : Nat) (o : Ob), (h.take k)[l]? = some o → h[l]? = some o := fun l o e => by
    rw [List.getElem?_take] at e; split at e
    · exact e
    · cases e
  refine ⟨by simp [R.len], fun l l' b q q' e1 e2 => R.inj l l' b q q' (hpl _ _ e1) (hpl _ _ e2), fun l o ho hp => R.noRow l o (hh _ _ ho) (hpl _ _ hp), fun l o b q ho hp => ?_⟩
  obtain ⟨g1, x⟩ := R.at_ l o b q (hh _ _ ho) (hpl _ _ hp)
  exact ⟨g1, x.to rfl rfl rfl rfl (fun _ _ => rfl) fun i j v hi hj hr => hr.take (uptoL_nth (obsUpto_get h2 l o ho i hi) j hj)⟩
def Kept (k : Nat) (R : D → List Ob → Prop) (d : D) (h : List Ob) : Prop := d.upto k = true ∧ obsUpto k (h.take k) ∧ R d (h.take k)
theorem take_away {pl : List Pl} {k b : Nat} (h : away pl b) : away (pl.take k) b := fun l q e => by
  rw [List.getElem?_take] at e; split at e
  · exact h l q e
  · cases e
theorem MFn.take {P : Program} {f : FuncId} {F : List Ob} {args : List D} {R : D → List Ob → Prop} (k : Nat) (hk : F.length ≤ k) (h : MFn P f F args (Kept k R)) : MFn P f F args R := fun Z base w pl vs h1 h2 h3 hl hc =>
  (h Z base w pl vs h1 h2 h3 hl hc).mono fun _ _ ⟨v, d, hh, pl', k1, ⟨a1, a2, a3⟩, k3, k4, k5, k6⟩ => ⟨v, d, hh.take k, pl'.take k, k1, a3, k3.take k a2, k4.take a1,
    k5.keep hk ⟨fun _ hb => take_away hb, fun l o p hl ho hp => ⟨o, by rw [List.getElem?_take, if_pos hl]; exact ho, by rw [List.getElem?_take, if_pos hl]; exact hp, rfl, rfl, rfl⟩⟩, k6⟩
theorem AFn_hxk (k : Nat) {P : Program} {X : Cx} (hX : CxOk P X) {f : FuncId} {fn : Func} {c : Code} (n : Nat) (hf : P.funcs[f]? = some fn) (hb : fn.body = some c) {args : List D} {R : D → List Ob → Prop} {nt : Nat} {rs : Array ResultVar} (hnt : fn.ntmps = nt) (hrs : fn.results = rs) (hn : Nat.ble args.length nt = true)
    (h : ∀ (base : Nat) (w : World), base ≤ w.heap.size → hx P base ⟨w, [], []⟩ (Post X.L rs.toList (Kept k R)) X nt n [.code c] ⟨initFr args 0, []⟩) : AFn P f args R :=
  MFn.take k (Nat.zero_le _) (AFn_hx hX n hf hb hnt hrs hn h)
theorem MFn_hxk (k : Nat) {P : Program} {X : Cx} (hX : CxOk P X) {f : FuncId} {fn : Func} {c : Code} (n : Nat) (hf : P.funcs[f]? = some fn) (hb : fn.body = some c) {F : List Ob} (hk : Nat.ble F.length k = true) {args : List D} {R : D → List Ob → Prop} {nt : Nat} {rs : Array ResultVar} (hnt : fn.ntmps = nt) (hrs : fn.results = rs) (hn : Nat.ble args.length nt = true)
    (h : ∀ (base : Nat) (w : World) (pl : List Pl), base ≤ w.heap.size → hx P base ⟨w, F, pl⟩ (Post X.L rs.toList (Kept k R)) X nt n [.code c] ⟨initFr args 0, F⟩) : MFn P f F args R :=
  MFn.take k (Nat.le_of_ble_eq_true hk) (MFn_hx hX n hf hb hnt hrs hn h)
attribute [go_sem] Kept

/-- Slots told or forgotten, objects told otherwise, objects behind the first k let go. -/
theorem obsUpto_le {k : Nat} : ∀ {h h' : List Ob}, obsLe h h' → obsUpto k h' → obsUpto k h
  | [], [], _, _ => trivial
  | [], _ :: _, h, _ => h.elim
  | _ :: _, [], h, _ => h.elim
  | _ :: _, _ :: _, h, h2 => ⟨fun i hi => by rw [← h.1.2.2.2.2 i hi]; exact h2.1 i (by rw [h.1.2.2.1]; exact hi), obsUpto_le h.2 h2.2⟩
theorem Wk.to {m : Nat} (k : Nat) {fr fr' : List (Nat × D)} {h h' : List Ob} (hw : frLe fr fr' ∧ frUpto k fr' = true ∧ obsUpto k h' ∧ obsLe (h.take k) h') (hm : m ≤ k := by exact Nat.le_of_ble_eq_true rfl) : Wk m ⟨fr, h⟩ ⟨fr', h'⟩ :=
  Wk.trans (Wk.frame hw.1) (Wk.trans (Wk.drop k hm hw.2.1 (obsUpto_le hw.2.2.2 hw.2.2.1)) (Wk.obs hw.2.2.2))
theorem Weak.to {w0 : Start} (k : Nat) {fr fr' : List (Nat × D)} {h h' : List Ob} (hw : frLe fr fr' ∧ frUpto k fr' = true ∧ obsUpto k h' ∧ obsLe (h.take k) h') (hm : w0.F.length ≤ k := by exact Nat.le_of_ble_eq_true rfl) : Weak w0 ⟨fr, h⟩ ⟨fr', h'⟩ := (Wk.to k hw hm).up
theorem Weak.frame {w0 : Start} {fr fr' : List (Nat × D)} {h : List Ob} (hf : frLe fr fr') : Weak w0 ⟨fr, h⟩ ⟨fr', h⟩ := (Wk.frame hf).up
theorem Weak.phantom {w0 : Start} {fr : List (Nat × D)} {h : List Ob} (t sz : Nat) (row : Nat → List D) (ht : get fr t = .nil) : Weak w0 ⟨fr, h⟩ ⟨put fr t (.ref h.length 0 0 0), h ++ [⟨.arr, 0, sz, 0, row⟩]⟩ := (Wk.phantom t sz row ht).up
/-- A slice that the call made, as a list. -/
def RetL {α : Type} [Inhabited α] (sz : Nat) (enc : α → List D) (l : List α) (d : D) (h : List Ob) : Prop := ∃ g, d = .ref 0 g 0 l.length ∧ h = [⟨.arr, g, sz, l.length, fun i => enc (l.getD i default)⟩]
theorem RetL.flat {α : Type} [Inhabited α] {sz : Nat} {enc : α → List D} {l : List α} (he : ∀ x, flatL (enc x) = true) : ∀ d h, RetL sz enc l d h → d.flat = true ∧ ∀ o ∈ h, o.flat := by
  rintro d h ⟨g, rfl, rfl⟩
  exact ⟨rfl, fun o ho => by simp at ho; subst ho; exact fun i _ => he _⟩

/-! Regions that draw. -/
def hKont (P : Program) (base : Nat) (w0 : Start) (Q : Exit → St → Prop) (X : Cx) (nt n : Nat) (k : List Item) (s : St) : Prop := hx P base w0 Q X nt n k s
def hax (P : Program) (base : Nat) (w0 : Start) (X : Cx) (nt : Nat) (K : St → Prop) (l : List (Bool × Oper × G)) (s : St) : Prop := haxK P base w0 X nt K l s
def haz (P : Program) (base : Nat) (w0 : Start) (X : Cx) (nt : Nat) (K : St → Prop) (l : List (Bool × Oper × G)) (s : St) : Prop := hax P base w0 X nt K l s
section
variable {P : Program} {base : Nat} {w0 : Start} {Q : Exit → St → Prop} {X : Cx} {nt n : Nat} {k : List Item} {s : St} {l : List (Bool × Oper × G)} {K : St → Prop}
@[go_sem ↓] theorem hite_at {B : Prop} : hite true (haz P base w0 X nt K l s) B = hax P base w0 X nt K l s := by simp [hite, haz]
@[go_sem ↓] theorem hite_af {A : Prop} : hite false A (haz P base w0 X nt K l s) = hax P base w0 X nt K l s := by simp [hite, haz]
theorem hite_intro' {b : Bool} {l' : List (Bool × Oper × G)} {s' : St} (h1 : b = true → hax P base w0 X nt K l s) (h2 : b = false → hax P base w0 X nt K l' s') : hite b (haz P base w0 X nt K l s) (haz P base w0 X nt K l' s') := ⟨h1, h2⟩
@[go_sem] theorem hax_nil : hax P base w0 X nt K [] s = K s := eqOf rfl
@[go_sem] theorem hKont_hx : hKont P base w0 Q X nt n k s = hx P base w0 Q X nt n k s := eqOf rfl
@[go_sem] theorem hax_pure {o : Oper} {r : List (Bool × Oper × G)} : hax P base w0 X nt K ((true, o, none) :: r) s = (match pstep X s o.op with
    | some (p, d) => p ∧ (match okO nt o.dst with | true => hax P base w0 X nt K r ⟨putO s.fr o.dst d, s.h⟩ | false => False)
    | none => False) := by
  simp only [hax, haxK, haxO]
  generalize pstep X s o.op = r1
  cases r1 with
  | some pd => cases okO nt o.dst <;> simp
  | none => rfl
@[go_sem] theorem hax_eff {o : Oper} {r : List (Bool × Oper × G)} : hax P base w0 X nt K ((false, o, none) :: r) s = (match pstep X s o.op with
    | some (p, d) => p ∧ (match okO nt o.dst with | true => hax P base w0 X nt K r ⟨putO s.fr o.dst d, s.h⟩ | false => False)
    | none => match estep X s o.op with
      | some (p, h, d) => p ∧ (match okO nt o.dst with | true => hax P base w0 X nt K r ⟨putO s.fr o.dst d, h⟩ | false => False)
      | none => AX P base nt w0 K ((false, o, none) :: r) s) := by
  simp only [hax, haxK, haxO]
  generalize pstep X s o.op = r1
  generalize estep X s o.op = r2
  cases r1 with
  | some pd => cases okO nt o.dst <;> simp
  | none => cases r2 with
    | some phd => cases okO nt o.dst <;> simp
    | none => rfl
theorem hax_g {pu : Bool} {o : Oper} {t : Nat} {b : Bool} {r : List (Bool × Oper × G)} (ht : okO nt o.dst = true) : hax P base w0 X nt K ((pu, o, some (some t, b)) :: r) s = (match get s.fr t with
    | .raw (.bool x) => hite (beqB b x) (haz P base w0 X nt K ((pu, o, none) :: r) ⟨put s.fr t (.raw (.bool b)), s.h⟩) (haz P base w0 X nt K r ⟨putO (put s.fr t (.raw (.bool (!b)))) o.dst (.raw Go.undef), s.h⟩)
    | .raw (.tuple _) => hax P base w0 X nt K r ⟨putO s.fr o.dst (.raw Go.undef), s.h⟩
    | _ => False) := by
  simp only [hax, haz, haxK]
  generalize get s.fr t = d
  cases d with
  | raw v =>
    cases v with
    | bool x => simp [hite, ht]
    | tuple vs => simp [ht]
    | _ => rfl
  | _ => rfl
@[go_sem] theorem hax_gt {pu : Bool} {o : Oper} {t : Nat} {r : List (Bool × Oper × G)} (ht : okO nt o.dst = true) : hax P base w0 X nt K ((pu, o, some (some t, true)) :: r) s = (match get s.fr t with
    | .raw (.bool x) => hite x (haz P base w0 X nt K ((pu, o, none) :: r) ⟨put s.fr t (.raw (.bool true)), s.h⟩) (haz P base w0 X nt K r ⟨putO (put s.fr t (.raw (.bool false))) o.dst (.raw Go.undef), s.h⟩)
    | .raw (.tuple _) => hax P base w0 X nt K r ⟨putO s.fr o.dst (.raw Go.undef), s.h⟩
    | _ => False) := hax_g ht
@[go_sem] theorem hax_gf {pu : Bool} {o : Oper} {t : Nat} {r : List (Bool × Oper × G)} (ht : okO nt o.dst = true) : hax P base w0 X nt K ((pu, o, some (some t, false)) :: r) s = (match get s.fr t with
    | .raw (.bool x) => hite x (haz P base w0 X nt K r ⟨putO (put s.fr t (.raw (.bool true))) o.dst (.raw Go.undef), s.h⟩) (haz P base w0 X nt K ((pu, o, none) :: r) ⟨put s.fr t (.raw (.bool false)), s.h⟩)
    | .raw (.tuple _) => hax P base w0 X nt K r ⟨putO s.fr o.dst (.raw Go.undef), s.h⟩
    | _ => False) := by
  rw [hax_g ht]
  generalize get s.fr t = d
  cases d with
  | raw v =>
    cases v with
    | bool x => cases x <;> simp [hite, beqB]
    | _ => rfl
  | _ => rfl
theorem kont_hax {id : Nat} {ops : Array Oper} (hX : CxOk P X) (hb : base ≤ w0.w.heap.size) (n : Nat) (hm : P.follows .mixedOrders = true) (l : List (Nat × Bool)) (hB : orderN X.L ops l = true) (hU : undB ops s.fr = true) (h : hax P base w0 X nt (hKont P base w0 Q X nt n k) (pickO ops l) s) : kont P base nt w0 Q (.code (.region id ops true) :: k) .normal s :=
  kont_any hX.L hb hm l hB hU (AX.mono (fun s hs => kont_of_hx hX hb n hs) _ _ (haxK_ok hX hb _ _ h))
theorem AX_of_hax (hX : CxOk P X) (hb : base ≤ w0.w.heap.size) (h : hax P base w0 X nt K l s) : AX P base nt w0 K l s := haxK_ok hX hb _ _ h
/-- What is left, entry by entry: number, operation, guard, and what it waits for. -/
abbrev REn := Nat × Oper × G × List Nat
def waitsN : List Edge → List Nat
  | [] => []
  | e :: r => bif Region.binds .any e then e.on :: waitsN r else waitsN r
def pickR (ops : Array Oper) : List Nat → List REn
  | [] => []
  | i :: r => match ops[i]? with
    | some o => (i, strip o, guardOf ops o, waitsN o.after.toList) :: pickR ops r
    | none => pickR ops r
def remE (i : Nat) : List REn → List REn
  | [] => []
  | e :: r => bif Nat.beq e.1 i then remE i r else e :: remE i r
def allIn (done : List Nat) : List Nat → Bool
  | [] => true
  | i :: r => memB i done && allIn done r
def hfAll (F : REn → Prop) : List REn → Prop
  | [] => True
  | e :: r => F e ∧ hfAll F r
def hxF (P : Program) (base : Nat) (w0 : Start) (X : Cx) (nt : Nat) (K : St → Prop) : Nat → List REn → List Nat → St → Prop
  | 0, _, _, s => K s
  | m + 1, es, done, s => hfAll (fun e => match allIn done e.2.2.2 with
    | true => hax P base w0 X nt (hxF P base w0 X nt K m (remE e.1 es) (e.1 :: done)) [(false, e.2.1, e.2.2.1)] s
    | false => True) es
theorem waitsN_ok {done : List Nat} : ∀ {l : List Edge}, heldB done l = false → allIn done (waitsN l) = true
  | [], _ => rfl
  | e :: r, h => by
    simp only [heldB, Bool.or_eq_false_iff, Bool.and_eq_false_iff, Bool.not_eq_false'] at h
    simp only [waitsN]
    cases hb : Region.binds .any e
    · exact waitsN_ok h.2
    · simp only [cond_true, allIn, Bool.and_eq_true]
      refine ⟨h.1.resolve_left (by rw [hb]; simp), waitsN_ok h.2⟩
theorem hfAll_mem {F : REn → Prop} : ∀ {l : List REn}, hfAll F l → ∀ e ∈ l, F e
  | [], _, e, he => by cases he
  | x :: r, h, e, he => by
    rcases List.mem_cons.1 he with rfl | he
    · exact h.1
    · exact hfAll_mem h.2 e he
theorem pickR_mem {ops : Array Oper} {i : Nat} {o : Oper} (ho : ops[i]? = some o) : ∀ {R : List Nat}, i ∈ R → (i, strip o, guardOf ops o, waitsN o.after.toList) ∈ pickR ops R
  | [], h => by cases h
  | j :: r, h => by
    simp only [pickR]
    rcases List.mem_cons.1 h with rfl | h
    · rw [ho]; exact List.mem_cons_self ..
    · split
      · exact List.mem_cons_of_mem _ (pickR_mem ho h)
      · exact pickR_mem ho h
theorem remE_none {ops : Array Oper} {i : Nat} : ∀ {R : List Nat}, i ∉ R → remE i (pickR ops R) = pickR ops R
  | [], _ => rfl
  | j :: r, h => by
    simp only [List.mem_cons, not_or] at h
    simp only [pickR]
    split
    · simp only [remE]
      have : Nat.beq j i = false := by rw [← Bool.not_eq_true, Nat.beq_eq]; exact fun e => h.1 e.symm
      rw [this, cond_false, remE_none h.2]
    · exact remE_none h.2
theorem remE_ok {ops : Array Oper} {i : Nat} : ∀ {R : List Nat}, R.Nodup → remE i (pickR ops R) = pickR ops (R.erase i)
  | [], _ => rfl
  | j :: r, h => by
    obtain ⟨h1, h2⟩ := List.nodup_cons.1 h
    by_cases hij : j = i
    · subst hij
      rw [List.erase_cons_head]
      simp only [pickR]
      split
      · simp only [remE, Nat.beq_refl, cond_true]; exact remE_none h1
      · exact remE_none h1
    · rw [List.erase_cons_tail (by simpa using hij)]
      have hb : Nat.beq j i = false := by rw [← Bool.not_eq_true, Nat.beq_eq]; exact hij
      simp only [pickR]
      cases ho : ops[j]? with
      | some o => simp only [remE, hb, cond_false, remE_ok h2]
      | none => simp only [remE_ok h2]
theorem hxF_ok (hX : CxOk P X) (hb : base ≤ w0.w.heap.size) {ops : Array Oper} {K' : St → Prop} (hK : ∀ s, K s → K' s) : ∀ (m : Nat) (R done : List Nat) (s : St), R.Nodup → hxF P base w0 X nt K m (pickR ops R) done s → AXF P base nt w0 ops K' m R done s
  | 0, _, _, s, _, h => hK s h
  | m + 1, R, done, s, hd, h => by
    intro i hi o ho hh
    have h1 := hfAll_mem h _ (pickR_mem ho hi)
    simp only [waitsN_ok hh] at h1
    refine AX.mono (fun s hs => hxF_ok hX hb hK m (R.erase i) (i :: done) s (hd.erase _) ?_) _ _ (haxK_ok hX hb _ _ h1)
    rw [← remE_ok hd]; exact hs
theorem kont_haxF {id : Nat} {ops : Array Oper} (hX : CxOk P X) (hb : base ≤ w0.w.heap.size) (n : Nat) (hm : P.follows .mixedOrders = true) (l : List (Nat × Bool)) (R : List Nat) (hB : orderF X.L ops l R = true) (hU : undB ops s.fr = true)
    (h : hax P base w0 X nt (hxF P base w0 X nt (hKont P base w0 Q X nt n k) R.length (pickR ops R) (l.map (·.1))) (pickO ops l) s) : kont P base nt w0 Q (.code (.region id ops true) :: k) .normal s := by
  have hR : R.Nodup := by
    simp only [orderF, Bool.and_eq_true] at hB
    exact (leftB_ok hB.1.2).1
  exact kont_anyF hX.L hb hm l R hB hU (AX.mono (fun s hs => hxF_ok hX hb (fun s hs => kont_of_hx hX hb n hs) _ _ _ s hR hs) _ _ (haxK_ok hX hb _ _ h))
@[go_sem] theorem binds_data {i : Nat} : Region.binds .any ⟨i, .data⟩ = true := rfl
@[go_sem] theorem binds_chain {i : Nat} : Region.binds .any ⟨i, .chain⟩ = true := rfl
@[go_sem] theorem binds_guard {i : Nat} : Region.binds .any ⟨i, .guard⟩ = true := rfl
@[go_sem] theorem binds_phase {i : Nat} : Region.binds .any ⟨i, .phase⟩ = true := rfl
@[go_sem] theorem binds_text {i : Nat} {d : Departure} : Region.binds .any ⟨i, .textOnly d⟩ = false := rfl
@[go_sem] theorem binds_gc {i : Nat} {d : Departure} : Region.binds .any ⟨i, .gcOnly d⟩ = false := rfl
@[go_sem] theorem hxF_zero {es : List REn} {d : List Nat} : hxF P base w0 X nt K 0 es d s = K s := eqOf rfl
@[go_sem] theorem hxF_succ {m : Nat} {es : List REn} {d : List Nat} : hxF P base w0 X nt K (m + 1) es d s = hfAll (fun e => match allIn d e.2.2.2 with
    | true => hax P base w0 X nt (hxF P base w0 X nt K m (remE e.1 es) (e.1 :: d)) [(false, e.2.1, e.2.2.1)] s
    | false => True) es := eqOf rfl
end

/-! Counted loops. -/
def ForQ (P : Program) (base nt : Nat) (w0 : Start) (Q : Exit → St → Prop) (k : List Item) (S : Nat → St → Prop) (N i : Nat) : Exit → St → Prop
  | .normal, s => i < N ∧ ∃ s', Weak w0 s s' ∧ S (i + 1) s'
  | e, s => kont P base nt w0 Q k e s
section
variable {P : Program} {base nt : Nat} {w0 : Start} {Q : Exit → St → Prop} {k : List Item} {s : St}
@[go_sem] theorem ForQ_normal {S : Nat → St → Prop} {N i : Nat} : ForQ P base nt w0 Q k S N i .normal s = (i < N ∧ ∃ s', Weak w0 s s' ∧ S (i + 1) s') := eqOf rfl
@[go_sem] theorem ForQ_exit {S : Nat → St → Prop} {N i j : Nat} : ForQ P base nt w0 Q k S N i (.exit j) s = kont P base nt w0 Q k (.exit j) s := eqOf rfl
@[go_sem] theorem ForQ_ret {S : Nat → St → Prop} {N i : Nat} : ForQ P base nt w0 Q k S N i .ret s = kont P base nt w0 Q k .ret s := eqOf rfl
theorem kont_for {c : Code} (S : Nat → St → Prop) (N : Nat) {s0 : St} (hw : Weak w0 s s0) (h0 : S 0 s0) (round : ∀ i s, i ≤ N → S i s → kont P base nt w0 (ForQ P base nt w0 Q k S N i) [.code c] .normal s) : kont P base nt w0 Q (.code (.loop c) :: k) .normal s := by
  refine kont_loop (fun m s => ∃ i, i + m = N ∧ S i s) N hw ⟨0, by omega, h0⟩ ?_
  rintro m s ⟨i, hi, hs⟩
  have := round i s (by omega) hs
  simp only [kont] at this ⊢
  refine this.mono fun e s' he => ?_
  cases e with
  | normal => obtain ⟨h1, s'', h2, h3⟩ := he; exact ⟨m - 1, s'', by omega, h2, i + 1, by omega, h3⟩
  | _ => exact he
end
theorem kont_weak_ops {P : Program} {base nt : Nat} {w0 : Start} {Q : Exit → St → Prop} {l : List (Oper × G)} {k : List Item} {s s' : St} (h : Weak w0 s s') (hk : kont P base nt w0 Q (.ops l :: k) .normal s') : kont P base nt w0 Q (.ops l :: k) .normal s := by
  simp only [kont] at hk ⊢; exact hk.weak h
attribute [go_sem] pickR waitsN remE allIn memB hfAll pickO argEq argsEq false_implies imp_self ne_eq not_false_eq_true not_true_eq_false Nat.one_ne_zero
end Go.Fg
