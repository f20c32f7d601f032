/- Walks of the functions that the statement reaches. No conditions: contracts and laws. -/
import Derived.Test.YtbijdpnacnnaoaaGreatFgAny
namespace Go.Fg
set_option linter.unusedSimpArgs false
set_option linter.unusedVariables false
/-- An equation that is not to be taken for a mere unfolding. -/
theorem eqOf {α : Sort _} {a b : α} (h : a = b) : a = b := h
@[go_sem] theorem nat_beq (a b : Nat) : Nat.beq a b = (a == b) := by
  rw [Bool.eq_iff_iff]; simp [Nat.beq_eq]
@[go_sem] theorem nat_blt (a b : Nat) : Nat.blt a b = decide (a < b) := by
  rw [Bool.eq_iff_iff]; simp [Nat.blt_eq]
@[go_sem] theorem nat_ble (a b : Nat) : Nat.ble a b = decide (a ≤ b) := by
  rw [Bool.eq_iff_iff]; simp [Nat.ble_eq]

/-- The evaluator's conditions, ens one proposition. -/
def hx (P : Program) (base : Nat) (w0 : Start) (Q : Exit → St → Prop) (X : Cx) (nt n : Nat) (k : List Item) (s : St) : Prop := (exec X nt n k s).holds P base nt w0 Q
/-- The same, put off: no rule opens it. -/
def hz (P : Program) (base : Nat) (w0 : Start) (Q : Exit → St → Prop) (X : Cx) (nt n : Nat) (k : List Item) (s : St) : Prop := hx P base w0 Q X nt n k s
/-- Both cases of a test; each is put off till the test is decided. -/
def hite (b : Bool) (A B : Prop) : Prop := (b = true → A) ∧ (b = false → B)
def hok (b : Bool) (A : Prop) : Prop := b = true ∧ A

section
variable {P : Program} {base : Nat} {w0 : Start} {Q : Exit → St → Prop} {X : Cx} {nt n : Nat} {k : List Item} {s : St}
@[go_sem ↓] theorem hite_t {B : Prop} : hite true (hz P base w0 Q X nt n k s) B = hx P base w0 Q X nt n k s := by simp [hite, hz]
@[go_sem ↓] theorem hite_f {A : Prop} : hite false A (hz P base w0 Q X nt n k s) = hx P base w0 Q X nt n k s := by simp [hite, hz]
theorem hite_intro {b : Bool} {k' : List Item} {s' : St} (h1 : b = true → hx P base w0 Q X nt n k s) (h2 : b = false → hx P base w0 Q X nt n k' s') : hite b (hz P base w0 Q X nt n k s) (hz P base w0 Q X nt n k' s') := ⟨h1, h2⟩
@[go_sem] theorem hx_nil : hx P base w0 Q X nt (n + 1) [] s = Q .normal s := eqOf rfl
@[go_sem] theorem hx_inBlock {id : Nat} : hx P base w0 Q X nt (n + 1) (.inBlock id :: k) s = hx P base w0 Q X nt n k s := eqOf rfl
@[go_sem] theorem hx_skip : hx P base w0 Q X nt (n + 1) (.code .skip :: k) s = hx P base w0 Q X nt n k s := eqOf rfl
@[go_sem] theorem hx_label {l : Nat} : hx P base w0 Q X nt (n + 1) (.code (.label l) :: k) s = hx P base w0 Q X nt n k s := eqOf rfl
@[go_sem] theorem hx_seq {a b : Code} : hx P base w0 Q X nt (n + 1) (.code (.seq a b) :: k) s = hx P base w0 Q X nt n (.code a :: .code b :: k) s := eqOf rfl
@[go_sem] theorem hx_block {id : Nat} {c : Code} : hx P base w0 Q X nt (n + 1) (.code (.block id c) :: k) s = hx P base w0 Q X nt n (.code c :: .inBlock id :: k) s := eqOf rfl
@[go_sem] theorem hx_inScope : hx P base w0 Q X nt (n + 1) (.inScope :: k) s = hx P base w0 Q X nt n k s := eqOf rfl
@[go_sem] theorem hx_scope {c : Code} : hx P base w0 Q X nt (n + 1) (.code (.scope c) :: k) s = hx P base w0 Q X nt n (.code c :: .inScope :: k) s := eqOf rfl
@[go_sem] theorem hx_cond {c : Operand} {a b : Code} : hx P base w0 Q X nt (n + 1) (.code (.cond c a b) :: k) s = (match evalO s.fr c with
    | .raw (.bool x) => hite x (hz P base w0 Q X nt n (.code a :: k) s) (hz P base w0 Q X nt n (.code b :: k) s)
    | _ => False) := by
  simp only [hx, exec]
  generalize evalO s.fr c = d
  cases d with
  | raw v => cases v <;> rfl
  | _ => rfl
@[go_sem] theorem hx_exit {id : Nat} : hx P base w0 Q X nt (n + 1) (.code (.exit id) :: k) s = (match exitK id k with
    | some k' => hx P base w0 Q X nt n k' s
    | none => Q (.exit id) s) := by
  simp only [hx, exec]
  generalize exitK id k = r
  cases r <;> rfl
@[go_sem] theorem hx_ret : hx P base w0 Q X nt (n + 1) (.code .ret :: k) s = Q .ret s := eqOf rfl
@[go_sem] theorem hx_region {id : Nat} {ops : Array Oper} : hx P base w0 Q X nt (n + 1) (.code (.region id ops false) :: k) s = hx P base w0 Q X nt n (.ops (gops ops) :: k) s := eqOf rfl
@[go_sem] theorem hx_draw {id : Nat} {ops : Array Oper} : hx P base w0 Q X nt (n + 1) (.code (.region id ops true) :: k) s = kont P base nt w0 Q (.code (.region id ops true) :: k) .normal s := eqOf rfl
@[go_sem] theorem hx_loop {c : Code} : hx P base w0 Q X nt (n + 1) (.code (.loop c) :: k) s = kont P base nt w0 Q (.code (.loop c) :: k) .normal s := eqOf rfl
@[go_sem] theorem hx_ops_nil : hx P base w0 Q X nt (n + 1) (.ops [] :: k) s = hx P base w0 Q X nt n k s := eqOf rfl
@[go_sem ↓] theorem hok_t {A : Prop} : hok true A = A := by simp [hok]
@[go_sem] theorem hx_ops {o : Oper} {r : List (Oper × G)} : hx P base w0 Q X nt (n + 1) (.ops ((o, none) :: r) :: k) s = (match pstep X s o.op with
    | some (p, d) => p ∧ (match okO nt o.dst with | true => hx P base w0 Q X nt n (.ops r :: k) ⟨putO s.fr o.dst d, s.h⟩ | false => False)
    | none => match estep X s o.op with
      | some (p, h, d) => p ∧ (match okO nt o.dst with | true => hx P base w0 Q X nt n (.ops r :: k) ⟨putO s.fr o.dst d, h⟩ | false => False)
      | none => kont P base nt w0 Q (.ops ((o, none) :: r) :: k) .normal s) := by
  simp only [hx, exec]
  generalize pstep X s o.op = r1
  generalize estep X s o.op = r2
  cases r1 with
  | some pd => cases okO nt o.dst <;> simp [Tree.holds]
  | none => cases r2 with
    | some phd => cases okO nt o.dst <;> simp [Tree.holds]
    | none => rfl
theorem hx_ops_g {o : Oper} {t : Nat} {b : Bool} {r : List (Oper × G)} (ht : okO nt o.dst = true) : hx P base w0 Q X nt (n + 1) (.ops ((o, some (some t, b)) :: r) :: k) s = (match get s.fr t with
    | .raw (.bool x) => hite (beqB b x) (hz P base w0 Q X nt n (.ops ((o, none) :: r) :: k) ⟨put s.fr t (.raw (.bool b)), s.h⟩) (hz P base w0 Q X nt n (.ops r :: k) ⟨putO (put s.fr t (.raw (.bool (!b)))) o.dst (.raw Go.undef), s.h⟩)
    | .raw (.tuple _) => hx P base w0 Q X nt n (.ops r :: k) ⟨putO s.fr o.dst (.raw Go.undef), s.h⟩
    | _ => False) := by
  simp only [hx, exec]
  generalize get s.fr t = d
  cases d with
  | raw v =>
    cases v with
    | bool x => simp [hite, hz, hx, ht, Tree.holds]
    | tuple vs => simp [ht]
    | _ => rfl
  | _ => rfl
@[go_sem] theorem hx_ops_gt {o : Oper} {t : Nat} {r : List (Oper × G)} (ht : okO nt o.dst = true) : hx P base w0 Q X nt (n + 1) (.ops ((o, some (some t, true)) :: r) :: k) s = (match get s.fr t with
    | .raw (.bool x) => hite x (hz P base w0 Q X nt n (.ops ((o, none) :: r) :: k) ⟨put s.fr t (.raw (.bool true)), s.h⟩) (hz P base w0 Q X nt n (.ops r :: k) ⟨putO (put s.fr t (.raw (.bool false))) o.dst (.raw Go.undef), s.h⟩)
    | .raw (.tuple _) => hx P base w0 Q X nt n (.ops r :: k) ⟨putO s.fr o.dst (.raw Go.undef), s.h⟩
    | _ => False) := hx_ops_g ht
@[go_sem] theorem hx_ops_gf {o : Oper} {t : Nat} {r : List (Oper × G)} (ht : okO nt o.dst = true) : hx P base w0 Q X nt (n + 1) (.ops ((o, some (some t, false)) :: r) :: k) s = (match get s.fr t with
    | .raw (.bool x) => hite x (hz P base w0 Q X nt n (.ops r :: k) ⟨putO (put s.fr t (.raw (.bool true))) o.dst (.raw Go.undef), s.h⟩) (hz P base w0 Q X nt n (.ops ((o, none) :: r) :: k) ⟨put s.fr t (.raw (.bool false)), s.h⟩)
    | .raw (.tuple _) => hx P base w0 Q X nt n (.ops r :: k) ⟨putO s.fr o.dst (.raw Go.undef), s.h⟩
    | _ => False) := by
  rw [hx_ops_g ht]
  generalize get s.fr t = d
  cases d with
  | raw v =>
    cases v with
    | bool x => cases x <;> simp [hite, beqB]
    | _ => rfl
  | _ => rfl
end
section
variable {P : Program} {base nt : Nat} {w0 : Start} {Q : Exit → St → Prop} {k : List Item} {s : St} {I : Nat → St → Prop} {m : Nat}
@[go_sem] theorem kont_nil {e : Exit} : kont P base nt w0 Q [] e s = Q e s := eqOf rfl
@[go_sem] theorem kont_ret' {x : Item} : kont P base nt w0 Q (x :: k) .ret s = kont P base nt w0 Q k .ret s := by cases x <;> rfl
@[go_sem] theorem kont_code_exit {c : Code} {j : Nat} : kont P base nt w0 Q (.code c :: k) (.exit j) s = kont P base nt w0 Q k (.exit j) s := eqOf rfl
@[go_sem] theorem kont_ops_exit {l : List (Oper × G)} {j : Nat} : kont P base nt w0 Q (.ops l :: k) (.exit j) s = kont P base nt w0 Q k (.exit j) s := eqOf rfl
@[go_sem] theorem kont_block_exit {id : Nat} : kont P base nt w0 Q (.inBlock id :: k) (.exit id) s = kont P base nt w0 Q k .normal s := by simp [kont]
@[go_sem] theorem kont_block_exit' {id j : Nat} (h : (j == id) = false) : kont P base nt w0 Q (.inBlock id :: k) (.exit j) s = kont P base nt w0 Q k (.exit j) s := by
  have : ¬ j = id := by simpa using h
  simp [kont, this]
@[go_sem] theorem kont_block_normal {id : Nat} : kont P base nt w0 Q (.inBlock id :: k) .normal s = kont P base nt w0 Q k .normal s := eqOf rfl
@[go_sem] theorem kont_scope_exit {j : Nat} : kont P base nt w0 Q (.inScope :: k) (.exit j) s = kont P base nt w0 Q k (.exit j) s := eqOf rfl
@[go_sem] theorem kont_scope_normal : kont P base nt w0 Q (.inScope :: k) .normal s = kont P base nt w0 Q k .normal s := eqOf rfl
@[go_sem] theorem LoopQ_normal : LoopQ P base nt w0 Q k I m .normal s = ∃ m' s', m' < m ∧ Weak w0 s s' ∧ I m' s' := eqOf rfl
@[go_sem] theorem LoopQ_exit {j : Nat} : LoopQ P base nt w0 Q k I m (.exit j) s = kont P base nt w0 Q k (.exit j) s := eqOf rfl
@[go_sem] theorem LoopQ_ret : LoopQ P base nt w0 Q k I m .ret s = kont P base nt w0 Q k .ret s := eqOf rfl
end
attribute [go_sem] gops guardOf strip evalO get put putO okO ofC ofCell pstep estep exitK beqB
  pbin pbinI pshift pbinB pbinS pbinP isPtrTy isBoolTy isShift IntKind.same pload mk TK.agg pfield pfieldAddr pfieldV pelem pindexAddr pindex pconv plen
  oneV splice setRow pstore psrc papp pbuild pplaces pfill pbsRow pbuildSlice pbnd pslice pbinA rawsD beqL cat ceqL ceq nth D.there appRow appFits
  argsD closeW closeD calleeD resD one Post D.shift shiftL Ob.shift initFr D.cl1 D.flat flatL D.upto uptoL frLe frUpto obsUpto obsLe obLe Kd.isOne Kd.ty Kd.ro Kd.like Kd.toRo
attribute [go_sem] List.map_cons List.map_nil List.getElem?_toArray List.getElem?_cons_zero List.getElem?_cons_succ List.getElem?_nil Option.bind_some Option.bind_none Option.map_some Option.map_none List.length_cons List.length_nil List.cons_append List.nil_append List.append_nil
  List.all_cons List.all_nil List.take_zero List.take_succ_cons List.take_nil List.drop_zero List.drop_succ_cons List.drop_nil List.set_cons_zero List.set_cons_succ List.getD_cons_zero List.getD_cons_succ List.replicate_zero List.replicate_succ List.flatten_cons List.flatten_nil
  cond_true cond_false Bool.not_true Bool.not_false Bool.and_true Bool.true_and Bool.and_false Bool.false_and Bool.or_true Bool.true_or Bool.or_false Bool.false_or beq_self_eq_true decide_true decide_false true_and and_true false_and and_false
  implies_true forall_const reduceCtorEq List.toList_toArray Int.toNat_natCast Int.natCast_nonneg Int.ofNat_lt Int.ofNat_le Int.ofNat_inj Nat.zero_add Nat.add_zero Nat.le_refl Nat.zero_le Option.some.injEq Prod.mk.injEq
theorem kont_of_hx {P : Program} {base nt : Nat} {w0 : Start} {Q : Exit → St → Prop} {X : Cx} (hX : CxOk P X) (hb : base ≤ w0.w.heap.size) (n : Nat) {k : List Item} {s : St} (h : hx P base w0 Q X nt n k s) : kont P base nt w0 Q k .normal s := exec_ok hX hb n k s h
theorem AFn_hx {P : Program} {X : Cx} (hX : CxOk P X) {f : FuncId} {fn : Func} {c : Code} (n : Nat) (hf : P.funcs[f]? = some fn) (hb : fn.body = some c) {args : List D} {R : D → List Ob → Prop} {nt : Nat} {rs : Array ResultVar} (hnt : fn.ntmps = nt) (hrs : fn.results = rs) (hn : Nat.ble args.length nt = true)
    (h : ∀ (base : Nat) (w : World), base ≤ w.heap.size → hx P base ⟨w, [], []⟩ (Post X.L rs.toList R) X nt n [.code c] ⟨initFr args 0, []⟩) : AFn P f args R :=
  MFn_of' hX n hf hb hnt (Nat.le_of_ble_eq_true hn) (by
    subst hrs
    intro base w pl hb hl
    cases pl with
    | nil => exact h base w hb
    | cons _ _ => simp at hl)
theorem MFn_hx {P : Program} {X : Cx} (hX : CxOk P X) {f : FuncId} {fn : Func} {c : Code} (n : Nat) (hf : P.funcs[f]? = some fn) (hb : fn.body = some c) {F : List Ob} {args : List D} {R : D → List Ob → Prop} {nt : Nat} {rs : Array ResultVar} (hnt : fn.ntmps = nt) (hrs : fn.results = rs) (hn : Nat.ble args.length nt = true)
    (h : ∀ (base : Nat) (w : World) (pl : List Pl), base ≤ w.heap.size → hx P base ⟨w, F, pl⟩ (Post X.L rs.toList R) X nt n [.code c] ⟨initFr args 0, F⟩) : MFn P f F args R :=
  MFn_of' hX n hf hb hnt (Nat.le_of_ble_eq_true hn) (by subst hrs; exact fun base w pl hb _ => h base w pl hb)

/-- Objects behind the first k are let go. -/
theorem RelO.take {Z : Nat → Prop} {base : Nat} {h : List Ob} {pl : List Pl} {w : World} (R : RelO Z base h pl w) (k : Nat) (h2 : obsUpto k (h.take k)) : RelO Z base (h.take k) (pl.take k) w := by
  have hpl : ∀ (l : Nat) (p : Pl), (pl.take k)[l]? = some p → pl[l]? = some p := fun l p e => by
    rw [List.getElem?_take] at e; split at e
    · exact e
    · cases e
  have hh : ∀ (l : Nat) (o : Ob), (h.take k)[l]? = some o → h[l]? = some o := fun l o e => by
    rw [List.getElem?_take] at e; split at e
    · exact e
    · cases e
  refine ⟨by simp [R.len], fun l l' b q q' e1 e2 => R.inj l l' b q q' (hpl _ _ e1) (hpl _ _ e2), fun l o ho hp => R.noRow l o (hh _ _ ho) (hpl _ _ hp), fun l o b q ho hp => ?_⟩
  obtain ⟨g1, x⟩ := R.at_ l o b q (hh _ _ ho) (hpl _ _ hp)
  exact ⟨g1, x.to rfl rfl rfl rfl (fun _ _ => rfl) fun i j v hi hj hr => hr.take (uptoL_nth (obsUpto_get h2 l o ho i hi) j hj)⟩
def Kept (k : Nat) (R : D → List Ob → Prop) (d : D) (h : List Ob) : Prop := d.upto k = true ∧ obsUpto k (h.take k) ∧ R d (h.take k)
theorem take_away {pl : List Pl} {k b : Nat} (h : away pl b) : away (pl.take k) b := fun l q e => by
  rw [List.getElem?_take] at e; split at e
  · exact h l q e
  · cases e
theorem MFn.take {P : Program} {f : FuncId} {F : List Ob} {args : List D} {R : D → List Ob → Prop} (k : Nat) (hk : F.length ≤ k) (h : MFn P f F args (Kept k R)) : MFn P f F args R := fun Z base w pl vs h1 h2 h3 hl hc =>
  (h Z base w pl vs h1 h2 h3 hl hc).mono fun _ _ ⟨v, d, hh, pl', k1, ⟨a1, a2, a3⟩, k3, k4, k5, k6⟩ => ⟨v, d, hh.take k, pl'.take k, k1, a3, k3.take k a2, k4.take a1,
    k5.keep hk ⟨fun _ hb => take_away hb, fun l o p hl ho hp => ⟨o, by rw [List.getElem?_take, if_pos hl]; exact ho, by rw [List.getElem?_take, if_pos hl]; exact hp, rfl, rfl, rfl⟩⟩, k6⟩
theorem AFn_hxk (k : Nat) {P : Program} {X : Cx} (hX : CxOk P X) {f : FuncId} {fn : Func} {c : Code} (n : Nat) (hf : P.funcs[f]? = some fn) (hb : fn.body = some c) {args : List D} {R : D → List Ob → Prop} {nt : Nat} {rs : Array ResultVar} (hnt : fn.ntmps = nt) (hrs : fn.results = rs) (hn : Nat.ble args.length nt = true)
    (h : ∀ (base : Nat) (w : World), base ≤ w.heap.size → hx P base ⟨w, [], []⟩ (Post X.L rs.toList (Kept k R)) X nt n [.code c] ⟨initFr args 0, []⟩) : AFn P f args R :=
  MFn.take k (Nat.zero_le _) (AFn_hx hX n hf hb hnt hrs hn h)
attribute [go_sem] Kept

/-- Slots told or forgotten, objects told otherwise, objects behind the first k let go. -/
theorem obsUpto_le {k : Nat} : ∀ {h h' : List Ob}, obsLe h h' → obsUpto k h' → obsUpto k h
  | [], [], _, _ => trivial
  | [], _ :: _, h, _ => h.elim
  | _ :: _, [], h, _ => h.elim
  | _ :: _, _ :: _, h, h2 => ⟨fun i hi => by rw [← h.1.2.2.2.2 i hi]; exact h2.1 i (by rw [h.1.2.2.1]; exact hi), obsUpto_le h.2 h2.2⟩
theorem Wk.to {m : Nat} (k : Nat) {fr fr' : List (Nat × D)} {h h' : List Ob} (hw : frLe fr fr' ∧ frUpto k fr' = true ∧ obsUpto k h' ∧ obsLe (h.take k) h') (hm : m ≤ k := by exact Nat.le_of_ble_eq_true rfl) : Wk m ⟨fr, h⟩ ⟨fr', h'⟩ :=
  Wk.trans (Wk.frame hw.1) (Wk.trans (Wk.drop k hm hw.2.1 (obsUpto_le hw.2.2.2 hw.2.2.1)) (Wk.obs hw.2.2.2))
theorem Weak.to {w0 : Start} (k : Nat) {fr fr' : List (Nat × D)} {h h' : List Ob} (hw : frLe fr fr' ∧ frUpto k fr' = true ∧ obsUpto k h' ∧ obsLe (h.take k) h') (hm : w0.F.length ≤ k := by exact Nat.le_of_ble_eq_true rfl) : Weak w0 ⟨fr, h⟩ ⟨fr', h'⟩ := (Wk.to k hw hm).up
theorem Weak.frame {w0 : Start} {fr fr' : List (Nat × D)} {h : List Ob} (hf : frLe fr fr') : Weak w0 ⟨fr, h⟩ ⟨fr', h⟩ := (Wk.frame hf).up
theorem Weak.phantom {w0 : Start} {fr : List (Nat × D)} {h : List Ob} (t sz : Nat) (row : Nat → List D) (ht : get fr t = .nil) : Weak w0 ⟨fr, h⟩ ⟨put fr t (.ref h.length 0 0 0), h ++ [⟨.arr, 0, sz, 0, row⟩]⟩ := (Wk.phantom t sz row ht).up
/-- A slice that the call made, ens a list. -/
def RetL {α : Type} [Inhabited α] (sz : Nat) (enc : α → List D) (l : List α) (d : D) (h : List Ob) : Prop := ∃ g, d = .ref 0 g 0 l.length ∧ h = [⟨.arr, g, sz, l.length, fun i => enc (l.getD i default)⟩]
theorem RetL.flat {α : Type} [Inhabited α] {sz : Nat} {enc : α → List D} {l : List α} (he : ∀ x, flatL (enc x) = true) : ∀ d h, RetL sz enc l d h → d.flat = true ∧ ∀ o ∈ h, o.flat := by
  rintro d h ⟨g, rfl, rfl⟩
  exact ⟨rfl, fun o ho => by simp at ho; subst ho; exact fun i _ => he _⟩

/-! Regions that draw. -/
def hKont (P : Program) (base : Nat) (w0 : Start) (Q : Exit → St → Prop) (X : Cx) (nt n : Nat) (k : List Item) (s : St) : Prop := hx P base w0 Q X nt n k s
def hax (P : Program) (base : Nat) (w0 : Start) (X : Cx) (nt : Nat) (K : St → Prop) (l : List (Bool × Oper × G)) (s : St) : Prop := haxK P base w0 X nt K l s
def haz (P : Program) (base : Nat) (w0 : Start) (X : Cx) (nt : Nat) (K : St → Prop) (l : List (Bool × Oper × G)) (s : St) : Prop := hax P base w0 X nt K l s
section
variable {nc : List Nat} {P : Program} {base : Nat} {w0 : Start} {Q : Exit → St → Prop} {X : Cx} {nt n : Nat} {k : List Item} {s : St} {l : List (Bool × Oper × G)} {K : St → Prop}
@[go_sem ↓] theorem hite_at {B : Prop} : hite true (haz P base w0 X nt K l s) B = hax P base w0 X nt K l s := by simp [hite, haz]
@[go_sem ↓] theorem hite_af {A : Prop} : hite false A (haz P base w0 X nt K l s) = hax P base w0 X nt K l s := by simp [hite, haz]
theorem hite_intro' {b : Bool} {l' : List (Bool × Oper × G)} {s' : St} (h1 : b = true → hax P base w0 X nt K l s) (h2 : b = false → hax P base w0 X nt K l' s') : hite b (haz P base w0 X nt K l s) (haz P base w0 X nt K l' s') := ⟨h1, h2⟩
@[go_sem] theorem hax_nil : hax P base w0 X nt K [] s = K s := eqOf rfl
@[go_sem] theorem hKont_hx : hKont P base w0 Q X nt n k s = hx P base w0 Q X nt n k s := eqOf rfl
@[go_sem] theorem hax_pure {o : Oper} {r : List (Bool × Oper × G)} : hax P base w0 X nt K ((true, o, none) :: r) s = (match pstep X s o.op with
    | some (p, d) => p ∧ (match okO nt o.dst with | true => hax P base w0 X nt K r ⟨putO s.fr o.dst d, s.h⟩ | false => False)
    | none => False) := by
  simp only [hax, haxK, haxO]
  generalize pstep X s o.op = r1
  cases r1 with
  | some pd => cases okO nt o.dst <;> simp
  | none => rfl
@[go_sem] theorem hax_eff {o : Oper} {r : List (Bool × Oper × G)} : hax P base w0 X nt K ((false, o, none) :: r) s = (match pstep X s o.op with
    | some (p, d) => p ∧ (match okO nt o.dst with | true => hax P base w0 X nt K r ⟨putO s.fr o.dst d, s.h⟩ | false => False)
    | none => match estep X s o.op with
      | some (p, h, d) => p ∧ (match okO nt o.dst with | true => hax P base w0 X nt K r ⟨putO s.fr o.dst d, h⟩ | false => False)
      | none => AX P base nt w0 K ((false, o, none) :: r) s) := by
  simp only [hax, haxK, haxO]
  generalize pstep X s o.op = r1
  generalize estep X s o.op = r2
  cases r1 with
  | some pd => cases okO nt o.dst <;> simp
  | none => cases r2 with
    | some phd => cases okO nt o.dst <;> simp
    | none => rfl
theorem hax_g {pu : Bool} {o : Oper} {t : Nat} {b : Bool} {r : List (Bool × Oper × G)} (ht : okO nt o.dst = true) : hax P base w0 X nt K ((pu, o, some (some t, b)) :: r) s = (match get s.fr t with
    | .raw (.bool x) => hite (beqB b x) (haz P base w0 X nt K ((pu, o, none) :: r) ⟨put s.fr t (.raw (.bool b)), s.h⟩) (haz P base w0 X nt K r ⟨putO (put s.fr t (.raw (.bool (!b)))) o.dst (.raw Go.undef), s.h⟩)
    | .raw (.tuple _) => hax P base w0 X nt K r ⟨putO s.fr o.dst (.raw Go.undef), s.h⟩
    | _ => False) := by
  simp only [hax, haz, haxK]
  generalize get s.fr t = d
  cases d with
  | raw v =>
    cases v with
    | bool x => simp [hite, ht]
    | tuple vs => simp [ht]
    | _ => rfl
  | _ => rfl
@[go_sem] theorem hax_gt {pu : Bool} {o : Oper} {t : Nat} {r : List (Bool × Oper × G)} (ht : okO nt o.dst = true) : hax P base w0 X nt K ((pu, o, some (some t, true)) :: r) s = (match get s.fr t with
    | .raw (.bool x) => hite x (haz P base w0 X nt K ((pu, o, none) :: r) ⟨put s.fr t (.raw (.bool true)), s.h⟩) (haz P base w0 X nt K r ⟨putO (put s.fr t (.raw (.bool false))) o.dst (.raw Go.undef), s.h⟩)
    | .raw (.tuple _) => hax P base w0 X nt K r ⟨putO s.fr o.dst (.raw Go.undef), s.h⟩
    | _ => False) := hax_g ht
@[go_sem] theorem hax_gf {pu : Bool} {o : Oper} {t : Nat} {r : List (Bool × Oper × G)} (ht : okO nt o.dst = true) : hax P base w0 X nt K ((pu, o, some (some t, false)) :: r) s = (match get s.fr t with
    | .raw (.bool x) => hite x (haz P base w0 X nt K r ⟨putO (put s.fr t (.raw (.bool true))) o.dst (.raw Go.undef), s.h⟩) (haz P base w0 X nt K ((pu, o, none) :: r) ⟨put s.fr t (.raw (.bool false)), s.h⟩)
    | .raw (.tuple _) => hax P base w0 X nt K r ⟨putO s.fr o.dst (.raw Go.undef), s.h⟩
    | _ => False) := by
  rw [hax_g ht]
  generalize get s.fr t = d
  cases d with
  | raw v =>
    cases v with
    | bool x => cases x <;> simp [hite, beqB]
    | _ => rfl
  | _ => rfl
theorem kont_hax {id : Nat} {ops : Array Oper} (hX : CxOk P X) (hb : base ≤ w0.w.heap.size) (n : Nat) (hm : P.follows .mixedOrders = true) (l : List (Nat × Bool)) (hB : orderN X.L ops l = true) (hU : undB ops s.fr = true) (h : hax P base w0 X nt (hKont P base w0 Q X nt n k) (pickO [] ops l) s) : kont P base nt w0 Q (.code (.region id ops true) :: k) .normal s :=
  kont_any hX.L hb hm l hB hU (AX.mono (fun s hs => kont_of_hx hX hb n hs) _ _ (haxK_ok hX hb _ _ h))
theorem AX_of_hax (hX : CxOk P X) (hb : base ≤ w0.w.heap.size) (h : hax P base w0 X nt K l s) : AX P base nt w0 K l s := haxK_ok hX hb _ _ h
/-- What is left, entry by entry: number, operation, guard, and what it waits for. -/
abbrev REn := Nat × Oper × G × List Nat
def waitsN : List Edge → List Nat
  | [] => []
  | e :: r => bif Region.binds .any e then e.on :: waitsN r else waitsN r
def pickR (nc : List Nat) (ops : Array Oper) : List Nat → List REn
  | [] => []
  | i :: r => match ops[i]? with
    | some o => (i, stripN (memB i nc) o, guardOf ops o, waitsN o.after.toList) :: pickR nc ops r
    | none => pickR nc ops r
def remE (i : Nat) : List REn → List REn
  | [] => []
  | e :: r => bif Nat.beq e.1 i then remE i r else e :: remE i r
def allIn (done : List Nat) : List Nat → Bool
  | [] => true
  | i :: r => memB i done && allIn done r
def hfAll (F : REn → Prop) : List REn → Prop
  | [] => True
  | e :: r => F e ∧ hfAll F r
def hxF (P : Program) (base : Nat) (w0 : Start) (X : Cx) (nt : Nat) (K : St → Prop) : Nat → List REn → List Nat → St → Prop
  | 0, _, _, s => K s
  | m + 1, es, done, s => hfAll (fun e => match allIn done e.2.2.2 with
    | true => hax P base w0 X nt (hxF P base w0 X nt K m (remE e.1 es) (e.1 :: done)) [(false, e.2.1, e.2.2.1)] s
    | false => True) es
theorem waitsN_ok {done : List Nat} : ∀ {l : List Edge}, heldB done l = false → allIn done (waitsN l) = true
  | [], _ => rfl
  | e :: r, h => by
    simp only [heldB, Bool.or_eq_false_iff, Bool.and_eq_false_iff, Bool.not_eq_false'] at h
    simp only [waitsN]
    cases hb : Region.binds .any e
    · exact waitsN_ok h.2
    · simp only [cond_true, allIn, Bool.and_eq_true]
      refine ⟨h.1.resolve_left (by rw [hb]; simp), waitsN_ok h.2⟩
theorem hfAll_mem {F : REn → Prop} : ∀ {l : List REn}, hfAll F l → ∀ e ∈ l, F e
  | [], _, e, he => by cases he
  | x :: r, h, e, he => by
    rcases List.mem_cons.1 he with rfl | he
    · exact h.1
    · exact hfAll_mem h.2 e he
theorem pickR_mem {ops : Array Oper} {i : Nat} {o : Oper} (ho : ops[i]? = some o) : ∀ {R : List Nat}, i ∈ R → (i, stripN (memB i nc) o, guardOf ops o, waitsN o.after.toList) ∈ pickR nc ops R
  | [], h => by cases h
  | j :: r, h => by
    simp only [pickR]
    rcases List.mem_cons.1 h with rfl | h
    · rw [ho]; exact List.mem_cons_self ..
    · split
      · exact List.mem_cons_of_mem _ (pickR_mem ho h)
      · exact pickR_mem ho h
theorem remE_none {ops : Array Oper} {i : Nat} : ∀ {R : List Nat}, i ∉ R → remE i (pickR nc ops R) = pickR nc ops R
  | [], _ => rfl
  | j :: r, h => by
    simp only [List.mem_cons, not_or] at h
    simp only [pickR]
    split
    · simp only [remE]
      have : Nat.beq j i = false := by rw [← Bool.not_eq_true, Nat.beq_eq]; exact fun e => h.1 e.symm
      rw [this, cond_false, remE_none h.2]
    · exact remE_none h.2
theorem remE_ok {ops : Array Oper} {i : Nat} : ∀ {R : List Nat}, R.Nodup → remE i (pickR nc ops R) = pickR nc ops (R.erase i)
  | [], _ => rfl
  | j :: r, h => by
    obtain ⟨h1, h2⟩ := List.nodup_cons.1 h
    by_cases hij : j = i
    · subst hij
      rw [List.erase_cons_head]
      simp only [pickR]
      split
      · simp only [remE, Nat.beq_refl, cond_true]; exact remE_none h1
      · exact remE_none h1
    · rw [List.erase_cons_tail (by simpa using hij)]
      have hb : Nat.beq j i = false := by rw [← Bool.not_eq_true, Nat.beq_eq]; exact hij
      simp only [pickR]
      cases ho : ops[j]? with
      | some o => simp only [remE, hb, cond_false, remE_ok h2]
      | none => simp only [remE_ok h2]
theorem hxF_ok (hX : CxOk P X) (hb : base ≤ w0.w.heap.size) {ops : Array Oper} {K' : St → Prop} (hK : ∀ s, K s → K' s) : ∀ (m : Nat) (R done : List Nat) (s : St), R.Nodup → hxF P base w0 X nt K m (pickR nc ops R) done s → AXF nc P base nt w0 ops K' m R done s
  | 0, _, _, s, _, h => hK s h
  | m + 1, R, done, s, hd, h => by
    intro i hi o ho hh
    have h1 := hfAll_mem h _ (pickR_mem ho hi)
    simp only [waitsN_ok hh] at h1
    refine AX.mono (fun s hs => hxF_ok hX hb hK m (R.erase i) (i :: done) s (hd.erase _) ?_) _ _ (haxK_ok hX hb _ _ h1)
    rw [← remE_ok hd]; exact hs
theorem kont_haxNC (nc : List Nat) {id : Nat} {ops : Array Oper} (hX : CxOk P X) (hb : base ≤ w0.w.heap.size) (n : Nat) (hm : P.follows .mixedOrders = true) (l : List (Nat × Bool)) (R : List Nat) (hB : orderF nc X.L ops l R = true) (hU : undB ops s.fr = true)
    (h : hax P base w0 X nt (hxF P base w0 X nt (hKont P base w0 Q X nt n k) R.length (pickR nc ops R) (l.map (·.1))) (pickO nc ops l) s) : kont P base nt w0 Q (.code (.region id ops true) :: k) .normal s := by
  have hR : R.Nodup := by
    simp only [orderF, Bool.and_eq_true] at hB
    exact (leftB_ok hB.1.2).1
  exact kont_anyF hX.L hb hm l R hB hU (AX.mono (fun s hs => hxF_ok hX hb (fun s hs => kont_of_hx hX hb n hs) _ _ _ s hR hs) _ _ (haxK_ok hX hb _ _ h))
theorem kont_haxF {id : Nat} {ops : Array Oper} (hX : CxOk P X) (hb : base ≤ w0.w.heap.size) (n : Nat) (hm : P.follows .mixedOrders = true) (l : List (Nat × Bool)) (R : List Nat) (hB : orderF [] X.L ops l R = true) (hU : undB ops s.fr = true)
    (h : hax P base w0 X nt (hxF P base w0 X nt (hKont P base w0 Q X nt n k) R.length (pickR [] ops R) (l.map (·.1))) (pickO [] ops l) s) : kont P base nt w0 Q (.code (.region id ops true) :: k) .normal s := kont_haxNC [] hX hb n hm l R hB hU h
@[go_sem] theorem binds_data {i : Nat} : Region.binds .any ⟨i, .data⟩ = true := rfl
@[go_sem] theorem binds_chain {i : Nat} : Region.binds .any ⟨i, .chain⟩ = true := rfl
@[go_sem] theorem binds_guard {i : Nat} : Region.binds .any ⟨i, .guard⟩ = true := rfl
@[go_sem] theorem binds_phase {i : Nat} : Region.binds .any ⟨i, .phase⟩ = true := rfl
@[go_sem] theorem binds_text {i : Nat} {d : Departure} : Region.binds .any ⟨i, .textOnly d⟩ = false := rfl
@[go_sem] theorem binds_gc {i : Nat} {d : Departure} : Region.binds .any ⟨i, .gcOnly d⟩ = false := rfl
@[go_sem] theorem hxF_zero {es : List REn} {d : List Nat} : hxF P base w0 X nt K 0 es d s = K s := eqOf rfl
@[go_sem] theorem hxF_succ {m : Nat} {es : List REn} {d : List Nat} : hxF P base w0 X nt K (m + 1) es d s = hfAll (fun e => match allIn d e.2.2.2 with
    | true => hax P base w0 X nt (hxF P base w0 X nt K m (remE e.1 es) (e.1 :: d)) [(false, e.2.1, e.2.2.1)] s
    | false => True) es := eqOf rfl
end

/-! Counted loops. -/
def ForQ (P : Program) (base nt : Nat) (w0 : Start) (Q : Exit → St → Prop) (k : List Item) (S : Nat → St → Prop) (N i : Nat) : Exit → St → Prop
  | .normal, s => i < N ∧ ∃ s', Weak w0 s s' ∧ S (i + 1) s'
  | e, s => kont P base nt w0 Q k e s
section
variable {P : Program} {base nt : Nat} {w0 : Start} {Q : Exit → St → Prop} {k : List Item} {s : St}
@[go_sem] theorem ForQ_normal {S : Nat → St → Prop} {N i : Nat} : ForQ P base nt w0 Q k S N i .normal s = (i < N ∧ ∃ s', Weak w0 s s' ∧ S (i + 1) s') := eqOf rfl
@[go_sem] theorem ForQ_exit {S : Nat → St → Prop} {N i j : Nat} : ForQ P base nt w0 Q k S N i (.exit j) s = kont P base nt w0 Q k (.exit j) s := eqOf rfl
@[go_sem] theorem ForQ_ret {S : Nat → St → Prop} {N i : Nat} : ForQ P base nt w0 Q k S N i .ret s = kont P base nt w0 Q k .ret s := eqOf rfl
theorem kont_for {c : Code} (S : Nat → St → Prop) (N : Nat) {s0 : St} (hw : Weak w0 s s0) (h0 : S 0 s0) (round : ∀ i s, i ≤ N → S i s → kont P base nt w0 (ForQ P base nt w0 Q k S N i) [.code c] .normal s) : kont P base nt w0 Q (.code (.loop c) :: k) .normal s := by
  refine kont_loop (fun m s => ∃ i, i + m = N ∧ S i s) N hw ⟨0, by omega, h0⟩ ?_
  rintro m s ⟨i, hi, hs⟩
  have := round i s (by omega) hs
  simp only [kont] at this ⊢
  refine this.mono fun e s' he => ?_
  cases e with
  | normal => obtain ⟨h1, s'', h2, h3⟩ := he; exact ⟨m - 1, s'', by omega, h2, i + 1, by omega, h3⟩
  | _ => exact he
end
theorem kont_weak_ops {P : Program} {base nt : Nat} {w0 : Start} {Q : Exit → St → Prop} {l : List (Oper × G)} {k : List Item} {s s' : St} (h : Weak w0 s s') (hk : kont P base nt w0 Q (.ops l :: k) .normal s') : kont P base nt w0 Q (.ops l :: k) .normal s := by
  simp only [kont] at hk ⊢; exact hk.weak h
attribute [go_sem] stripN pickR waitsN remE allIn memB hfAll pickO argsEq false_implies imp_self ne_eq not_false_eq_true not_true_eq_false Nat.one_ne_zero
@[go_sem] theorem oneCell_raw (v : Value) : D.oneCell (.raw v) = oneV v := rfl
@[go_sem] theorem oneCell_nil  : D.oneCell (.nil) = true := rfl
@[go_sem] theorem oneCell_undef  : D.oneCell (.undef) = false := rfl
@[go_sem] theorem oneCell_imm (z n : Nat) (r : Nat → List D) : D.oneCell (.imm z n r) = true := rfl
@[go_sem] theorem oneCell_ip (c : List D) : D.oneCell (.ip c) = true := rfl
@[go_sem] theorem oneCell_ref (l g o n : Nat) : D.oneCell (.ref l g o n) = true := rfl
@[go_sem] theorem oneCell_ptr (l g i j : Nat) : D.oneCell (.ptr l g i j) = true := rfl
@[go_sem] theorem oneCell_mref (l g : Nat) : D.oneCell (.mref l g) = true := rfl
@[go_sem] theorem oneCell_clo (f : FuncId) (n : Nat) (c : List D) : D.oneCell (.clo f n c) = true := rfl
@[go_sem] theorem oneCell_agg (c : List D) : D.oneCell (.agg c) = false := rfl
@[go_sem] theorem oneCell_tup (c : List D) : D.oneCell (.tup c) = false := rfl
@[go_sem] theorem cellsD_raw (v : Value) : cellsD (.raw v) = bif D.oneCell (.raw v) then some [.raw v] else none := rfl
@[go_sem] theorem cellsD_nil  : cellsD (.nil) = bif D.oneCell (.nil) then some [.nil] else none := rfl
@[go_sem] theorem cellsD_undef  : cellsD (.undef) = bif D.oneCell (.undef) then some [.undef] else none := rfl
@[go_sem] theorem cellsD_imm (z n : Nat) (r : Nat → List D) : cellsD (.imm z n r) = bif D.oneCell (.imm z n r) then some [.imm z n r] else none := rfl
@[go_sem] theorem cellsD_ip (c : List D) : cellsD (.ip c) = bif D.oneCell (.ip c) then some [.ip c] else none := rfl
@[go_sem] theorem cellsD_ref (l g o n : Nat) : cellsD (.ref l g o n) = bif D.oneCell (.ref l g o n) then some [.ref l g o n] else none := rfl
@[go_sem] theorem cellsD_ptr (l g i j : Nat) : cellsD (.ptr l g i j) = bif D.oneCell (.ptr l g i j) then some [.ptr l g i j] else none := rfl
@[go_sem] theorem cellsD_mref (l g : Nat) : cellsD (.mref l g) = bif D.oneCell (.mref l g) then some [.mref l g] else none := rfl
@[go_sem] theorem cellsD_clo (f : FuncId) (n : Nat) (c : List D) : cellsD (.clo f n c) = bif D.oneCell (.clo f n c) then some [.clo f n c] else none := rfl
@[go_sem] theorem cellsD_agg (c : List D) : cellsD (.agg c) = bif c.all D.oneCell then some c else none := rfl
@[go_sem] theorem cellsD_tup (c : List D) : cellsD (.tup c) = bif D.oneCell (.tup c) then some [.tup c] else none := rfl
@[go_sem] theorem argEq_raw (d' : D) (v : Value) : argEq d' (.raw v) = (d' = .raw v) := rfl
@[go_sem] theorem argEq_nil (d' : D)  : argEq d' (.nil) = (d' = .nil) := rfl
@[go_sem] theorem argEq_undef (d' : D)  : argEq d' (.undef) = (d' = .undef) := rfl
@[go_sem] theorem argEq_imm (z' n' z n : Nat) (r' r : Nat → List D) : argEq (.imm z' n' r') (.imm z n r) = (z' = z ∧ n' = n ∧ ∀ i, i < n → r' i = r i) := rfl
@[go_sem] theorem argEq_ip (d' : D) (c : List D) : argEq d' (.ip c) = (d' = .ip c) := rfl
@[go_sem] theorem argEq_ref (d' : D) (l g o n : Nat) : argEq d' (.ref l g o n) = (d' = .ref l g o n) := rfl
@[go_sem] theorem argEq_ptr (d' : D) (l g i j : Nat) : argEq d' (.ptr l g i j) = (d' = .ptr l g i j) := rfl
@[go_sem] theorem argEq_mref (d' : D) (l g : Nat) : argEq d' (.mref l g) = (d' = .mref l g) := rfl
@[go_sem] theorem argEq_clo (d' : D) (f : FuncId) (n : Nat) (c : List D) : argEq d' (.clo f n c) = (d' = .clo f n c) := rfl
@[go_sem] theorem argEq_agg (d' : D) (c : List D) : argEq d' (.agg c) = (d' = .agg c) := rfl
@[go_sem] theorem argEq_tup (d' : D) (c : List D) : argEq d' (.tup c) = (d' = .tup c) := rfl
end Go.Fg
namespace Go.Fg
set_option linter.unusedSimpArgs false
set_option linter.unusedVariables false
open Go.RowKit (Below)

def pos (l : Nat) : List Nat → Nat
  | [] => 0
  | k :: r => bif Nat.beq k l then 0 else pos l r + 1
mutual
def D.ren (sel : List Nat) : D → D
  | .ref l g off len => .ref (pos l sel) g off len
  | .ptr l g i j => .ptr (pos l sel) g i j
  | .mref l g => .mref (pos l sel) g
  | .clo f nf cs => .clo f nf (renL sel cs)
  | .agg cs => .agg (renL sel cs)
  | .tup cs => .tup (renL sel cs)
  | d => d
def renL (sel : List Nat) : List D → List D
  | [] => []
  | c :: cs => c.ren sel :: renL sel cs
end
mutual
def D.among (sel : List Nat) : D → Bool
  | .ref l _ _ _ => memB l sel
  | .ptr l _ _ _ => memB l sel
  | .mref l _ => memB l sel
  | .clo _ _ cs => amongL sel cs
  | .agg cs => amongL sel cs
  | .tup cs => amongL sel cs
  | _ => true
def amongL (sel : List Nat) : List D → Bool
  | [] => true
  | c :: cs => c.among sel && amongL sel cs
end
theorem pos_get {l : Nat} : ∀ {sel : List Nat}, memB l sel = true → sel[pos l sel]? = some l
  | [], h => by cases h
  | k :: r, h => by
    simp only [pos]
    by_cases e : k = l
    · subst e; simp
    · have h1 : Nat.beq k l = false := by rw [← Bool.not_eq_true, Nat.beq_eq]; exact e
      have h2 : Nat.beq l k = false := by rw [← Bool.not_eq_true, Nat.beq_eq]; exact fun x => e x.symm
      simp only [memB, h2, Bool.false_or] at h
      simp [h1, pos_get h]
theorem renL_length (sel : List Nat) : ∀ cs : List D, (renL sel cs).length = cs.length
  | [] => rfl
  | _ :: cs => by simp [renL, renL_length sel cs]
theorem nth_renL (sel : List Nat) : ∀ (cs : List D) (i : Nat), i < cs.length → nth (renL sel cs) i = (nth cs i).ren sel
  | [], i, h => by simp at h
  | c :: cs, 0, _ => by simp [renL, nth]
  | c :: cs, i + 1, h => by
    have := nth_renL sel cs i (by simpa using h)
    simpa [renL, nth] using this
theorem amongL_nth {sel : List Nat} : ∀ {cs : List D}, amongL sel cs = true → ∀ i, i < cs.length → (nth cs i).among sel = true
  | [], _, i, h => by simp at h
  | d :: r, hf, i, h => by
    simp only [amongL, Bool.and_eq_true] at hf
    cases i with
    | zero => exact hf.1
    | succ i => have := amongL_nth hf.2 i (by simpa using h); simpa [nth] using this
def Ob.ren (sel : List Nat) (o : Ob) : Ob := ⟨o.kd, o.gen, o.sz, o.n, fun i => renL sel (o.row i)⟩
/-- The objects of these numbers, in this order. -/
def pickObs (h : List Ob) : List Nat → List Ob
  | [] => []
  | i :: r => match h[i]? with
    | some o => o :: pickObs h r
    | none => []
def pickPl (pl : List Pl) : List Nat → List Pl
  | [] => []
  | i :: r => match pl[i]? with
    | some o => o :: pickPl pl r
    | none => []
def inB (n : Nat) : List Nat → Bool
  | [] => true
  | i :: r => Nat.blt i n && inB n r
def nodupB : List Nat → Bool
  | [] => true
  | i :: r => !memB i r && nodupB r
theorem inB_ok {n : Nat} : ∀ {l : List Nat}, inB n l = true → ∀ i ∈ l, i < n
  | [], _, i, h => by cases h
  | k :: r, h, i, hi => by
    simp only [inB, Bool.and_eq_true, Nat.blt_eq] at h
    rcases List.mem_cons.1 hi with e | e
    · subst e; exact h.1
    · exact inB_ok h.2 i e
theorem nodupB_ok : ∀ {l : List Nat}, nodupB l = true → ∀ (i j x : Nat), l[i]? = some x → l[j]? = some x → i = j
  | [], _, i, j, x, h, _ => by simp at h
  | k :: r, h, i, j, x, h1, h2 => by
    simp only [nodupB, Bool.and_eq_true, Bool.not_eq_true'] at h
    have hk : k ∉ r := fun hm => by rw [memB_iff.2 hm] at h; cases h.1
    cases i with
    | zero =>
      simp at h1; subst h1
      cases j with
      | zero => rfl
      | succ j => simp at h2; exact absurd (List.mem_of_getElem? h2) hk
    | succ i =>
      simp at h1
      cases j with
      | zero => simp at h2; subst h2; exact absurd (List.mem_of_getElem? h1) hk
      | succ j => simp at h2; rw [nodupB_ok h.2 i j x h1 h2]
theorem pickObs_get {h : List Ob} : ∀ {sel : List Nat}, inB h.length sel = true → ∀ (i l : Nat), sel[i]? = some l → (pickObs h sel)[i]? = h[l]?
  | [], _, i, l, e => by simp at e
  | k :: r, hb, i, l, e => by
    simp only [inB, Bool.and_eq_true, Nat.blt_eq] at hb
    simp only [pickObs, List.getElem?_eq_getElem hb.1]
    cases i with
    | zero => simp at e; subst e; simp [List.getElem?_eq_getElem hb.1]
    | succ i => simp at e; simpa using pickObs_get hb.2 i l e
theorem pickPl_get {h : List Pl} : ∀ {sel : List Nat}, inB h.length sel = true → ∀ (i l : Nat), sel[i]? = some l → (pickPl h sel)[i]? = h[l]?
  | [], _, i, l, e => by simp at e
  | k :: r, hb, i, l, e => by
    simp only [inB, Bool.and_eq_true, Nat.blt_eq] at hb
    simp only [pickPl, List.getElem?_eq_getElem hb.1]
    cases i with
    | zero => simp at e; subst e; simp [List.getElem?_eq_getElem hb.1]
    | succ i => simp at e; simpa using pickPl_get hb.2 i l e
theorem pickObs_length {h : List Ob} : ∀ {sel : List Nat}, inB h.length sel = true → (pickObs h sel).length = sel.length
  | [], _ => rfl
  | k :: r, hb => by
    simp only [inB, Bool.and_eq_true, Nat.blt_eq] at hb
    simp [pickObs, List.getElem?_eq_getElem hb.1, pickObs_length hb.2]
theorem pickPl_length {h : List Pl} : ∀ {sel : List Nat}, inB h.length sel = true → (pickPl h sel).length = sel.length
  | [], _ => rfl
  | k :: r, hb => by
    simp only [inB, Bool.and_eq_true, Nat.blt_eq] at hb
    simp [pickPl, List.getElem?_eq_getElem hb.1, pickPl_length hb.2]

theorem RelV.sel {Z Z' : Nat → Prop} {h : List Ob} {pl : List Pl} {w : World} {sel : List Nat} (hz : ∀ b, free Z pl b → Z' b) (hl : pl.length = h.length) (hb : inB h.length sel = true) {d : D} {v : Value} (r : RelV Z h pl w d v) (hk : d.among sel = true) :
    RelV Z' ((pickObs h sel).map (Ob.ren sel)) (pickPl pl sel) w (d.ren sel) v := by
  have hbp : inB pl.length sel = true := by rw [hl]; exact hb
  have hfr : ∀ b, free Z pl b → free Z' (pickPl pl sel) b := fun b hf => ⟨hz b hf, fun l q e => by
    have hlt : l < sel.length := by rw [← pickPl_length hbp]; exact ltp_of_some e
    rw [pickPl_get hbp l (sel[l]) (List.getElem?_eq_getElem hlt)] at e
    exact hf.2 _ q e⟩
  have hcl : ∀ (d : D) (v : Value), Cl (free Z pl) w d v → RelV Z' ((pickObs h sel).map (Ob.ren sel)) (pickPl pl sel) w (d.ren sel) v := by
    intro d v hc
    have hc2 := hc.mono (N' := free Z' (pickPl pl sel)) (w' := w) (fun b hb _ => ⟨hfr b hb, rfl⟩)
    clear hc
    induction hc2 with
    | raw v => exact .cl _ _ (.raw v)
    | undef v => exact .cl _ _ (.undef v)
    | nil a => exact .cl _ _ (.nil a)
    | imm sz n row a cap b o vs ha hl hs hc hr ih => exact .cl _ _ (.imm sz n row a cap b o vs ha hl hs hc hr)
    | ip cells b o vs hc hr ih => exact .cl _ _ (.ip cells b o vs hc hr)
    | clo f nf cs vs hl hr ih => exact .clo f nf _ vs (by rw [renL_length]; exact hl) (fun i hi => by rw [renL_length] at hi; rw [nth_renL _ _ _ hi]; exact ih i hi)
    | agg cs vs hl hr ih => exact .agg _ vs (by rw [renL_length]; exact hl) (fun i hi => by rw [renL_length] at hi; rw [nth_renL _ _ _ hi]; exact ih i hi)
    | tup cs vs hl hr ih => exact .tup _ vs (by rw [renL_length]; exact hl) (fun i hi => by rw [renL_length] at hi; rw [nth_renL _ _ _ hi]; exact ih i hi)
  induction r with
  | cl d v hc => exact hcl d v hc
  | ref l g off len o p a cap ho hp hkk hg hs =>
    have hm : memB l sel = true := by simpa [D.among] using hk
    exact .ref _ g off len (o.ren sel) p a cap (by rw [List.getElem?_map, pickObs_get hb _ l (pos_get hm), ho]; rfl) (by rw [pickPl_get hbp _ l (pos_get hm), hp]) hkk hg hs
  | ptr l g i j o p a ho hp hkk hg hs =>
    have hm : memB l sel = true := by simpa [D.among] using hk
    exact .ptr _ g i j (o.ren sel) p a (by rw [List.getElem?_map, pickObs_get hb _ l (pos_get hm), ho]; rfl) (by rw [pickPl_get hbp _ l (pos_get hm), hp]) hkk hg hs
  | mref l g o p b ho hp hkk hg hs =>
    have hm : memB l sel = true := by simpa [D.among] using hk
    exact .mref _ g (o.ren sel) p b (by rw [List.getElem?_map, pickObs_get hb _ l (pos_get hm), ho]; rfl) (by rw [pickPl_get hbp _ l (pos_get hm), hp]) hkk hg hs
  | clo f nf cs vs hl hr ih => exact .clo f nf _ vs (by rw [renL_length]; exact hl) fun i hi => by rw [renL_length] at hi; rw [nth_renL _ _ _ hi]; exact ih i hi (amongL_nth (by simpa [D.among] using hk) i hi)
  | agg cs vs hl hr ih => exact .agg _ vs (by rw [renL_length]; exact hl) fun i hi => by rw [renL_length] at hi; rw [nth_renL _ _ _ hi]; exact ih i hi (amongL_nth (by simpa [D.among] using hk) i hi)
  | tup cs vs hl hr ih => exact .tup _ vs (by rw [renL_length]; exact hl) fun i hi => by rw [renL_length] at hi; rw [nth_renL _ _ _ hi]; exact ih i hi (amongL_nth (by simpa [D.among] using hk) i hi)

def obsAmong (sel : List Nat) : List Ob → Prop
  | [] => True
  | o :: r => (∀ i, i < o.n → amongL sel (o.row i) = true) ∧ obsAmong sel r
theorem obsAmong_get {sel : List Nat} : ∀ {h : List Ob}, obsAmong sel h → ∀ (l : Nat) (o : Ob), h[l]? = some o → ∀ i, i < o.n → amongL sel (o.row i) = true
  | [], _, l, o, e => by simp at e
  | o :: r, h, l, u, e => by
    cases l with
    | zero => simp at e; subst e; exact h.1
    | succ l => simp at e; exact obsAmong_get h.2 l u e
theorem RelO.sel {Z Z' : Nat → Prop} {base : Nat} {h : List Ob} {pl : List Pl} {w : World} {sel : List Nat} (R : RelO Z base h pl w) (hz : ∀ b, free Z pl b → Z' b) (hb : inB h.length sel = true) (hd : nodupB sel = true) (h2 : obsAmong sel (pickObs h sel)) :
    RelO Z' base ((pickObs h sel).map (Ob.ren sel)) (pickPl pl sel) w := by
  have hbp : inB pl.length sel = true := by rw [R.len]; exact hb
  have hpl : ∀ (i : Nat) (p : Pl), (pickPl pl sel)[i]? = some p → ∃ l, sel[i]? = some l ∧ pl[l]? = some p := fun i p e => by
    have hlt : i < sel.length := by rw [← pickPl_length hbp]; exact ltp_of_some e
    exact ⟨sel[i], List.getElem?_eq_getElem hlt, by rw [← pickPl_get hbp i _ (List.getElem?_eq_getElem hlt)]; exact e⟩
  have hob : ∀ (i : Nat) (o : Ob), ((pickObs h sel).map (Ob.ren sel))[i]? = some o → ∃ l u, sel[i]? = some l ∧ h[l]? = some u ∧ o = u.ren sel ∧ (pickObs h sel)[i]? = some u := fun i o e => by
    rw [List.getElem?_map, Option.map_eq_some_iff] at e
    obtain ⟨u, hu, rfl⟩ := e
    have hlt : i < sel.length := by rw [← pickObs_length hb]; exact lt_of_some hu
    exact ⟨sel[i], u, List.getElem?_eq_getElem hlt, by rw [← pickObs_get hb i _ (List.getElem?_eq_getElem hlt)]; exact hu, rfl, hu⟩
  refine ⟨by rw [pickPl_length hbp, List.length_map, pickObs_length hb], fun i i' b q q' e1 e2 => ?_, fun i o ho hp => ?_, fun i o b q ho hp => ?_⟩
  · obtain ⟨l, s1, p1⟩ := hpl _ _ e1
    obtain ⟨l', s2, p2⟩ := hpl _ _ e2
    have := R.inj l l' b q q' p1 p2
    subst this
    exact nodupB_ok hd i i' l s1 s2
  · obtain ⟨l, u, s1, hu, rfl, _⟩ := hob _ _ ho
    obtain ⟨l', s2, p2⟩ := hpl _ _ hp
    rw [s1] at s2; cases s2
    exact R.noRow l u hu p2
  · obtain ⟨l, u, s1, hu, rfl, hu2⟩ := hob _ _ ho
    obtain ⟨l', s2, p2⟩ := hpl _ _ hp
    rw [s1] at s2; cases s2
    obtain ⟨g1, x⟩ := R.at_ l u b q hu p2
    refine ⟨g1, x.to rfl rfl rfl rfl (fun k _ => renL_length _ _) fun k j v hk hj hr => ?_⟩
    show RelV _ _ _ _ (nth (renL sel (u.row k)) j) v
    rw [nth_renL _ _ _ hj]
    exact hr.sel hz R.len hb (amongL_nth (obsAmong_get h2 i u hu2 k hk) j hj)

theorem pickPl_away {pl : List Pl} {sel : List Nat} (hb : inB pl.length sel = true) {b : Nat} (h : away pl b) : away (pickPl pl sel) b := fun l q e => by
  have hlt : l < sel.length := by rw [← pickPl_length hb]; exact ltp_of_some e
  rw [pickPl_get hb l (sel[l]) (List.getElem?_eq_getElem hlt)] at e
  exact h _ q e
/-- The result, with these objects alone, in this order. -/
def KeptSel (sel : List Nat) (R : D → List Ob → Prop) (d : D) (h : List Ob) : Prop := d.among sel = true ∧ inB h.length sel = true ∧ obsAmong sel (pickObs h sel) ∧ R (d.ren sel) ((pickObs h sel).map (Ob.ren sel))
/-- The list begins 0, 1, .. up to m. -/
def startsB : Nat → Nat → List Nat → Bool
  | 0, _, _ => true
  | _ + 1, _, [] => false
  | m + 1, i, k :: r => Nat.beq k i && startsB m (i + 1) r
theorem startsB_ok : ∀ {m i : Nat} {sel : List Nat}, startsB m i sel = true → ∀ l, l < m → sel[l]? = some (i + l)
  | 0, _, _, _, l, hl => by omega
  | m + 1, i, [], h, _, _ => by cases h
  | m + 1, i, k :: r, h, l, hl => by
    simp only [startsB, Bool.and_eq_true] at h
    obtain rfl := Nat.eq_of_beq_eq_true h.1
    cases l with
    | zero => simp
    | succ l => rw [List.getElem?_cons_succ, startsB_ok h.2 l (by omega)]; congr 1; omega
theorem MFn.sel {P : Program} {f : FuncId} {F : List Ob} {args : List D} {R : D → List Ob → Prop} (sel : List Nat) (hd : nodupB sel = true) (hs : startsB F.length 0 sel = true) (h : MFn P f F args (KeptSel sel R)) : MFn P f F args R := fun Z base w pl vs h1 h2 h3 hl hc =>
  (h Z base w pl vs h1 h2 h3 hl hc).mono fun _ _ ⟨v, d, hh, pl', k1, ⟨a1, a2, a3, a4⟩, k3, k4, k5, k6⟩ => ⟨v, d.ren sel, _, pickPl pl' sel, k1, a4, k3.sel (fun _ h => h.1) a2 hd a3, k4.sel (fun _ h => h.1) k3.len a2 a1,
    k5.keep (Nat.le_refl _) ⟨fun _ hb => pickPl_away (by rw [k3.len]; exact a2) hb, fun l o p hl ho hp => by
      have e := startsB_ok hs l hl
      rw [Nat.zero_add] at e
      exact ⟨o.ren sel, by rw [List.getElem?_map, pickObs_get a2 l l e, ho]; rfl, by rw [pickPl_get (by rw [k3.len]; exact a2) l l e, hp], rfl, rfl, rfl⟩⟩, k6⟩
theorem AFn_hxs (sel : List Nat) (hd : nodupB sel = true) {P : Program} {X : Cx} (hX : CxOk P X) {f : FuncId} {fn : Func} {c : Code} (n : Nat) (hf : P.funcs[f]? = some fn) (hb : fn.body = some c) {args : List D} {R : D → List Ob → Prop} {nt : Nat} {rs : Array ResultVar} (hnt : fn.ntmps = nt) (hrs : fn.results = rs) (hn : Nat.ble args.length nt = true)
    (h : ∀ (base : Nat) (w : World), base ≤ w.heap.size → hx P base ⟨w, [], []⟩ (Post X.L rs.toList (KeptSel sel R)) X nt n [.code c] ⟨initFr args 0, []⟩) : AFn P f args R :=
  MFn.sel sel hd rfl (AFn_hx hX n hf hb hnt hrs hn h)
attribute [go_sem] KeptSel pos D.ren renL D.among amongL Ob.ren pickObs inB obsAmong memB

/-! A call with objects lent. -/
mutual
def D.idx (φ : Nat → Nat) : D → D
  | .ref l g off len => .ref (φ l) g off len
  | .ptr l g i j => .ptr (φ l) g i j
  | .mref l g => .mref (φ l) g
  | .clo f nf cs => .clo f nf (idxL φ cs)
  | .agg cs => .agg (idxL φ cs)
  | .tup cs => .tup (idxL φ cs)
  | d => d
def idxL (φ : Nat → Nat) : List D → List D
  | [] => []
  | c :: cs => c.idx φ :: idxL φ cs
end
theorem idxL_length (φ : Nat → Nat) : ∀ cs : List D, (idxL φ cs).length = cs.length
  | [] => rfl
  | _ :: cs => by simp [idxL, idxL_length φ cs]
theorem nth_idxL (φ : Nat → Nat) : ∀ (cs : List D) (i : Nat), i < cs.length → nth (idxL φ cs) i = (nth cs i).idx φ
  | [], i, h => by simp at h
  | c :: cs, 0, _ => by simp [idxL, nth]
  | c :: cs, i + 1, h => by
    have := nth_idxL φ cs i (by simpa using h)
    simpa [idxL, nth] using this
def Ob.idx (φ : Nat → Nat) (o : Ob) : Ob := ⟨o.kd, o.gen, o.sz, o.n, fun i => idxL φ (o.row i)⟩
theorem RelV.idx {Z Z' : Nat → Prop} {h h' : List Ob} {pl pl' : List Pl} {w : World} (φ : Nat → Nat) (hf : ∀ b, free Z pl b → free Z' pl' b)
    (hob : ∀ (l : Nat) (o : Ob) (p : Pl), h[l]? = some o → pl[l]? = some p → ∃ o', h'[φ l]? = some o' ∧ pl'[φ l]? = some p ∧ o'.gen = o.gen ∧ o'.sz = o.sz ∧ o'.kd.ty = o.kd.ty) {d : D} {v : Value} (r : RelV Z h pl w d v) : RelV Z' h' pl' w (d.idx φ) v := by
  have hcl : ∀ (d : D) (v : Value), Cl (free Z pl) w d v → RelV Z' h' pl' w (d.idx φ) v := by
    intro d v hc
    have hc2 := hc.mono (N' := free Z' pl') (w' := w) (fun b hb _ => ⟨hf b hb, rfl⟩)
    clear hc
    induction hc2 with
    | raw v => exact .cl _ _ (.raw v)
    | undef v => exact .cl _ _ (.undef v)
    | nil a => exact .cl _ _ (.nil a)
    | imm sz n row a cap b o vs ha hl hs hc hr ih => exact .cl _ _ (.imm sz n row a cap b o vs ha hl hs hc hr)
    | ip cells b o vs hc hr ih => exact .cl _ _ (.ip cells b o vs hc hr)
    | clo f nf cs vs hl hr ih => exact .clo f nf _ vs (by rw [idxL_length]; exact hl) (fun i hi => by rw [idxL_length] at hi; rw [nth_idxL _ _ _ hi]; exact ih i hi)
    | agg cs vs hl hr ih => exact .agg _ vs (by rw [idxL_length]; exact hl) (fun i hi => by rw [idxL_length] at hi; rw [nth_idxL _ _ _ hi]; exact ih i hi)
    | tup cs vs hl hr ih => exact .tup _ vs (by rw [idxL_length]; exact hl) (fun i hi => by rw [idxL_length] at hi; rw [nth_idxL _ _ _ hi]; exact ih i hi)
  induction r with
  | cl d v hc => exact hcl d v hc
  | ref l g off len o p a cap ho hp hk hg hs =>
    obtain ⟨o', h1, h2, h3, h4, h5⟩ := hob l o p ho hp
    exact .ref _ g off len o' p a cap h1 h2 (by rw [h5]; exact hk) (by rw [h3]; exact hg) (by rw [h3, h4]; exact hs)
  | ptr l g i j o p a ho hp hk hg hs =>
    obtain ⟨o', h1, h2, h3, h4, h5⟩ := hob l o p ho hp
    exact .ptr _ g i j o' p a h1 h2 (by rw [h5]; exact hk) (by rw [h3]; exact hg) (by rw [h3, h4]; exact hs)
  | mref l g o p b ho hp hk hg hs =>
    obtain ⟨o', h1, h2, h3, h4, h5⟩ := hob l o p ho hp
    exact .mref _ g o' p b h1 h2 (by rw [h5]; exact hk) (by rw [h3]; exact hg) (by rw [h3]; exact hs)
  | clo f nf cs vs hl hr ih => exact .clo f nf _ vs (by rw [idxL_length]; exact hl) (fun i hi => by rw [idxL_length] at hi; rw [nth_idxL _ _ _ hi]; exact ih i hi)
  | agg cs vs hl hr ih => exact .agg _ vs (by rw [idxL_length]; exact hl) (fun i hi => by rw [idxL_length] at hi; rw [nth_idxL _ _ _ hi]; exact ih i hi)
  | tup cs vs hl hr ih => exact .tup _ vs (by rw [idxL_length]; exact hl) (fun i hi => by rw [idxL_length] at hi; rw [nth_idxL _ _ _ hi]; exact ih i hi)

/-- The callee's numbers, ens the caller's. -/
def backN (n : Nat) : List Nat → Nat → Nat
  | [], i => n + i
  | k :: _, 0 => k
  | _ :: r, i + 1 => backN n r i
def putBack {α : Type} (h : List α) : List Nat → List α → List α
  | [], xs => h ++ xs
  | k :: r, x :: xs => putBack (h.set k x) r xs
  | _ :: _, [] => h
theorem backN_lt {n : Nat} : ∀ {sel : List Nat} {i l : Nat}, sel[i]? = some l → backN n sel i = l
  | [], i, l, h => by simp at h
  | k :: r, 0, l, h => by simp at h; simp [backN, h]
  | k :: r, i + 1, l, h => by simp at h; simp [backN, backN_lt h]
theorem backN_ge {n : Nat} : ∀ {sel : List Nat} {i : Nat}, backN n sel (sel.length + i) = n + i
  | [], i => by simp [backN]
  | k :: r, i => by
    rw [show (k :: r).length + i = (r.length + i) + 1 by simp; omega]
    simp only [backN]; exact backN_ge
theorem putBack_get {α : Type} : ∀ {sel : List Nat} {h xs : List α}, inB h.length sel = true → nodupB sel = true → sel.length ≤ xs.length → ∀ (i : Nat), i < xs.length → (putBack h sel xs)[backN h.length sel i]? = xs[i]?
  | [], h, xs, _, _, _, i, hi => by
    simp only [putBack, backN]
    rw [List.getElem?_append_right (by omega)]; congr 1; omega
  | k :: r, h, [], _, _, hl, i, hi => by simp at hi
  | k :: r, h, x :: xs, hb, hd, hl, i, hi => by
    simp only [inB, Bool.and_eq_true, Nat.blt_eq] at hb
    simp only [nodupB, Bool.and_eq_true, Bool.not_eq_true'] at hd
    simp only [putBack]
    have hlen : (h.set k x).length = h.length := by simp
    cases i with
    | zero =>
      have hk : k ∉ r := fun hm => by rw [memB_iff.2 hm] at hd; cases hd.1
      have key : ∀ (r : List Nat) (h' xs : List α), k ∉ r → k < h'.length → (putBack h' r xs)[k]? = h'[k]? := by
        intro r
        induction r with
        | nil => intro h' xs _ hlt; simp only [putBack]; rw [List.getElem?_append_left hlt]
        | cons j r ih =>
          intro h' xs hm hlt
          cases xs with
          | nil => rfl
          | cons y ys =>
            simp only [putBack]
            rw [ih (h'.set j y) ys (fun hh => hm (List.mem_cons_of_mem _ hh)) (by simpa using hlt), List.getElem?_set_ne (fun e => hm (by rw [e]; exact List.mem_cons_self))]
      simp only [backN]
      rw [key r (h.set k x) xs hk (by simpa using hb.1)]
      simp [hb.1]
    | succ i =>
      simp only [backN]
      rw [← hlen]
      exact putBack_get (by rw [hlen]; exact hb.2) hd.2 (by simpa using hl) i (by simpa using hi)
theorem putBack_other {α : Type} : ∀ {sel : List Nat} {h xs : List α} {l : Nat}, l < h.length → l ∉ sel → (putBack h sel xs)[l]? = h[l]?
  | [], h, xs, l, hl, _ => by simp only [putBack]; rw [List.getElem?_append_left hl]
  | k :: r, h, [], l, hl, _ => rfl
  | k :: r, h, x :: xs, l, hl, hm => by
    simp only [putBack]
    rw [putBack_other (by simpa using hl) (fun hh => hm (List.mem_cons_of_mem _ hh)), List.getElem?_set_ne (fun e => hm (by rw [e]; exact List.mem_cons_self))]
theorem putBack_length {α : Type} : ∀ {sel : List Nat} {h xs : List α}, sel.length ≤ xs.length → (putBack h sel xs).length = h.length + (xs.length - sel.length)
  | [], h, xs, _ => by simp [putBack]
  | k :: r, h, [], hl => by simp at hl
  | k :: r, h, x :: xs, hl => by
    simp only [putBack]
    rw [putBack_length (by simpa using hl)]; simp
/-- Each place is one of the callee's, or one of the caller's that was not lent. -/
theorem putBack_cases {α : Type} {sel : List Nat} {h xs : List α} (hb : inB h.length sel = true) (hl : sel.length ≤ xs.length) {l : Nat} (h1 : l < h.length + (xs.length - sel.length)) :
    (∃ i, i < xs.length ∧ l = backN h.length sel i) ∨ (l < h.length ∧ l ∉ sel) := by
  by_cases hlt : l < h.length
  · by_cases hm : l ∈ sel
    · obtain ⟨i, hi, e⟩ := List.getElem_of_mem hm
      exact .inl ⟨i, by omega, (backN_lt (by rw [List.getElem?_eq_getElem hi, e])).symm⟩
    · exact .inr ⟨hlt, hm⟩
  · refine .inl ⟨sel.length + (l - h.length), by omega, ?_⟩
    rw [backN_ge]; omega
section
variable {P : Program} {base nt : Nat} {w0 : Start} {Q : Exit → St → Prop}
def backObs (h : List Ob) (sel : List Nat) (h' : List Ob) : List Ob := putBack h sel (h'.map (Ob.idx (backN h.length sel)))

/-- What a call with objects lent leaves. -/
theorem foot_join {Z : Nat → Prop} {s : St} {pl : List Pl} {w w' : World} {sel : List Nat} (R : RelO Z base s.h pl w) (hbase : base ≤ w.heap.size) (hz : ∀ b, w.heap.size ≤ b → Z b) (hb : inB s.h.length sel = true) (hd : nodupB sel = true)
    {h' : List Ob} {pl' : List Pl} {d : D} {v : Value} {F : List Ob} (hF : F.length = sel.length) (hFk : ∀ (i : Nat) (o u : Ob), F[i]? = some o → (∃ l, sel[i]? = some l ∧ s.h[l]? = some u) → o.gen = u.gen ∧ o.sz = u.sz ∧ o.kd.ty = u.kd.ty)
    (O' : RelO (fun b => Z b ∧ ∀ l q, pl[l]? = some (some (b, q)) → l ∈ sel) base h' pl' w') (V' : RelV (fun b => Z b ∧ ∀ l q, pl[l]? = some (some (b, q)) → l ∈ sel) h' pl' w' d v)
    (T : Tr F (pickPl pl sel) w h' pl' w') (B : Below base w w') :
    Tr s.h pl w (backObs s.h sel h') (putBack pl sel pl') w' ∧ RelO Z base (backObs s.h sel h') (putBack pl sel pl') w' ∧ RelV Z (backObs s.h sel h') (putBack pl sel pl') w' (d.idx (backN s.h.length sel)) v := by
  have hbp : inB pl.length sel = true := by rw [R.len]; exact hb
  have hpl' : pl'.length = h'.length := O'.len
  -- the callee keeps what it was lent
  have hkeep : ∀ (i l : Nat), sel[i]? = some l → ∃ u p o' p', s.h[l]? = some u ∧ pl[l]? = some p ∧ h'[i]? = some o' ∧ pl'[i]? = some p' ∧ u.gen ≤ o'.gen ∧ o'.kd.ty = u.kd.ty ∧ (o'.gen = u.gen → o'.sz = u.sz ∧ p' = p) := by
    intro i l e
    have hi : i < sel.length := (List.getElem?_eq_some_iff.1 e).1
    have hl : l < s.h.length := inB_ok hb l (List.mem_of_getElem? e)
    have e1 : F[i]? = some (F[i]'(by omega)) := List.getElem?_eq_getElem _
    have e2 : s.h[l]? = some s.h[l] := List.getElem?_eq_getElem hl
    have hl2 : l < pl.length := by rw [R.len]; exact hl
    have e3 : pl[l]? = some pl[l] := List.getElem?_eq_getElem hl2
    obtain ⟨k1, k2, k3⟩ := hFk i _ _ e1 ⟨l, e, e2⟩
    obtain ⟨o', p', t1, t2, t3, t4, t5⟩ := T.obj i _ pl[l] e1 (by rw [pickPl_get hbp i l e, e3])
    exact ⟨_, _, o', p', e2, e3, t1, t2, by omega, by rw [t4, k3], fun x => by obtain ⟨y, z⟩ := t5 (by omega); exact ⟨by rw [y, k2], z⟩⟩
  have hsl : sel.length ≤ h'.length := by
    rcases Nat.eq_zero_or_pos sel.length with h0 | h0
    · omega
    · obtain ⟨_, _, o', _, _, _, h3, _⟩ := hkeep (sel.length - 1) _ (List.getElem?_eq_getElem (by omega))
      have := lt_of_some h3; omega
  have hslp : sel.length ≤ pl'.length := by omega
  have hN : s.h.length = pl.length := R.len.symm
  have getP : ∀ i, i < pl'.length → (putBack pl sel pl')[backN s.h.length sel i]? = pl'[i]? := fun i hi => by rw [hN]; exact putBack_get hbp hd hslp i hi
  have getH : ∀ i, i < h'.length → (backObs s.h sel h')[backN s.h.length sel i]? = (h'[i]?).map (Ob.idx (backN s.h.length sel)) := fun i hi => by
    unfold backObs
    rw [putBack_get hb hd (by simpa using hsl) i (by simpa using hi), List.getElem?_map]
  -- the blocks of what was not lent
  have other : ∀ (l b q : Nat), l ∉ sel → pl[l]? = some (some (b, q)) → away pl' b ∧ w'.heap[b]? = w.heap[b]? := fun l b q hm e => by
    refine T.old b (fun i q' e' => ?_) (R.lt e).1
    have hi : i < sel.length := by rw [← pickPl_length hbp]; exact ltp_of_some e'
    have e2 : sel[i]? = some sel[i] := List.getElem?_eq_getElem hi
    rw [pickPl_get hbp i _ e2] at e'
    have := R.inj _ _ _ _ _ e e'
    exact hm (by rw [this]; exact List.getElem_mem hi)
  have casesP : ∀ (l : Nat) (p : Pl), (putBack pl sel pl')[l]? = some p → (∃ i, i < pl'.length ∧ l = backN s.h.length sel i ∧ pl'[i]? = some p) ∨ (l < pl.length ∧ l ∉ sel ∧ pl[l]? = some p) := fun l p e => by
    have hlt := ltp_of_some e
    rw [putBack_length hslp] at hlt
    rcases putBack_cases hbp hslp hlt with ⟨i, hi, rfl⟩ | ⟨h1, h2⟩
    · rw [hN] at getP ⊢
      exact .inl ⟨i, hi, rfl, by rw [← getP i hi]; exact e⟩
    · exact .inr ⟨h1, h2, by rw [putBack_other h1 h2] at e; exact e⟩
  have hfree : ∀ b, free (fun b => Z b ∧ ∀ l q, pl[l]? = some (some (b, q)) → l ∈ sel) pl' b → free Z (putBack pl sel pl') b := fun b hf => ⟨hf.1.1, fun l q e => by
    rcases casesP l _ e with ⟨i, _, _, e2⟩ | ⟨_, h2, e2⟩
    · exact hf.2 i q e2
    · exact h2 (hf.1.2 l q e2)⟩
  have hob : ∀ (l : Nat) (o : Ob) (p : Pl), h'[l]? = some o → pl'[l]? = some p → ∃ o', (backObs s.h sel h')[backN s.h.length sel l]? = some o' ∧ (putBack pl sel pl')[backN s.h.length sel l]? = some p ∧ o'.gen = o.gen ∧ o'.sz = o.sz ∧ o'.kd.ty = o.kd.ty := fun l o p ho hp =>
    ⟨o.idx (backN s.h.length sel), by rw [getH l (lt_of_some ho), ho]; rfl, by rw [getP l (ltp_of_some hp), hp], rfl, rfl, rfl⟩
  have T2 : Tr s.h pl w (backObs s.h sel h') (putBack pl sel pl') w' := by
    refine ⟨fun b hbw hlt => ?_, fun l o p ho hp => ?_, fun l o o' b q ho ho' hg hp c el hc => ?_⟩
    · obtain ⟨h1, h2⟩ := T.old b (pickPl_away hbp hbw) hlt
      refine ⟨fun l q e => ?_, h2⟩
      rcases casesP l _ e with ⟨i, _, _, e2⟩ | ⟨_, _, e2⟩
      · exact h1 i q e2
      · exact hbw l q e2
    · by_cases hm : l ∈ sel
      · obtain ⟨i, hi, e⟩ := List.getElem_of_mem hm
        have e2 : sel[i]? = some l := by rw [List.getElem?_eq_getElem hi, e]
        obtain ⟨u, p1, o', p', k1, k2, k3, k4, k5, k6, k7⟩ := hkeep i l e2
        rw [ho] at k1; cases k1
        rw [hp] at k2; cases k2
        have hbk : backN s.h.length sel i = l := backN_lt e2
        refine ⟨o'.idx (backN s.h.length sel), p', by rw [← hbk, getH i (lt_of_some k3), k3]; rfl, by rw [← hbk, getP i (ltp_of_some k4), k4], k5, k6, k7⟩
      · exact ⟨o, p, by unfold backObs; rw [putBack_other (lt_of_some ho) hm]; exact ho, by rw [putBack_other (ltp_of_some hp) hm]; exact hp, Nat.le_refl _, rfl, fun _ => ⟨rfl, rfl⟩⟩
    · by_cases hm : l ∈ sel
      · obtain ⟨i, hi, e⟩ := List.getElem_of_mem hm
        have e2 : sel[i]? = some l := by rw [List.getElem?_eq_getElem hi, e]
        obtain ⟨u, p1, o1, p', k1, k2, k3, k4, k5, k6, k7⟩ := hkeep i l e2
        rw [ho] at k1; cases k1
        have hbk : backN s.h.length sel i = l := backN_lt e2
        rw [← hbk, getH i (lt_of_some k3), k3] at ho'
        cases ho'
        have e1 : F[i]? = some (F[i]'(by omega)) := List.getElem?_eq_getElem _
        obtain ⟨f1, f2, f3⟩ := hFk i _ _ e1 ⟨l, e2, ho⟩
        have hg : o1.gen = o.gen := hg
        exact T.shape i _ o1 b q e1 k3 (by omega) (by rw [pickPl_get hbp i l e2, hp]) c el hc
      · exact ⟨c, by rw [(other l b q hm hp).2]; exact hc, rfl⟩
  refine ⟨T2, ⟨?_, fun l l' b q q' e1 e2 => ?_, fun l o ho hp => ?_, fun l o b q ho hp => ?_⟩, V'.idx _ hfree hob⟩
  · unfold backObs
    rw [putBack_length hslp, putBack_length (by simpa using hsl)]; simp [R.len, hpl']
  · rcases casesP l _ e1 with ⟨i, hi, rfl, e3⟩ | ⟨h1, h2, e3⟩ <;> rcases casesP l' _ e2 with ⟨j, hj, rfl, e4⟩ | ⟨h3, h4, e4⟩
    · rw [O'.inj i j b q q' e3 e4]
    · exact absurd e3 ((other l' b q' h4 e4).1 i q)
    · exact absurd e4 ((other l b q h2 e3).1 j q')
    · exact R.inj l l' b q q' e3 e4
  · rcases casesP l _ hp with ⟨i, hi, rfl, e3⟩ | ⟨h1, h2, e3⟩
    · have hi' : i < h'.length := by omega
      rw [getH i hi', List.getElem?_eq_getElem hi'] at ho
      cases ho
      exact O'.noRow i h'[i] (List.getElem?_eq_getElem hi') e3
    · unfold backObs at ho
      rw [putBack_other (by omega) h2] at ho
      exact R.noRow l o ho e3
  · rcases casesP l _ hp with ⟨i, hi, rfl, e3⟩ | ⟨h1, h2, e3⟩
    · have hi' : i < h'.length := by omega
      rw [getH i hi', List.getElem?_eq_getElem hi'] at ho
      cases ho
      obtain ⟨g1, x⟩ := O'.at_ i _ b q (List.getElem?_eq_getElem hi') e3
      refine ⟨g1, x.to rfl rfl rfl rfl (fun k _ => idxL_length _ _) fun k j v hk hj hr => ?_⟩
      show RelV _ _ _ _ (nth (idxL _ (h'[i].row k)) j) v
      rw [nth_idxL _ _ _ hj]
      exact hr.idx _ hfree hob
    · unfold backObs at ho
      rw [putBack_other (by omega) h2] at ho
      obtain ⟨g1, x⟩ := R.at_ l o b q ho e3
      exact ⟨g1, x.to rfl rfl rfl (other l b q h2 e3).2 (fun _ _ => rfl) fun i j v _ _ hr => hr.tr T2⟩

/-- A call of a function that is lent objects of the caller's. -/
theorem callM_wp (hbase : base ≤ w0.w.heap.size) {o : Oper} {s : St} {x : Operand} {args : Array Operand} {tys : Array TypeId} {f : FuncId} {nf : Nat} {caps : List D} (hf : FnOk P f) (ho : o.op = .call ⟨.value x, args, tys⟩)
    (hx : calleeD (evalO s.fr x) = some (f, nf, caps)) (sel : List Nat) (hb : inB s.h.length sel = true) (hd : nodupB sel = true) (hobs : obsAmong sel (pickObs s.h sel)) (hargs : amongL sel (argsD nf caps (args.toList.map (evalO s.fr))) = true)
    {R : D → List Ob → Prop} (hF : MFn P f ((pickObs s.h sel).map (Ob.ren sel)) (renL sel (argsD nf caps (args.toList.map (evalO s.fr)))) R)
    (ht : okO nt o.dst = true) {Z : Nat → Prop} (z : ZOk w0 Z) (pl : List Pl) (a : Act) (w : World) (r : Rel Z base nt s pl a w) (b : Since Z base w0 s.h pl w) (Q' : Exit → Act → World → Prop) :
    o.wp P a w (fun a' w' => (sel = [] → Ext w w') ∧ ∃ d h pl', R d h ∧ Rel Z base nt ⟨putO s.fr o.dst (d.idx (backN s.h.length sel)), backObs s.h sel h⟩ pl' a' w' ∧ Since Z base w0 (backObs s.h sel h) pl' w' ∧ Tr s.h pl w (backObs s.h sel h) pl' w' ∧ ∃ v, a' = a.put o.dst v) Q' := by
  obtain ⟨vs, hv, hvl, hvr⟩ := callee_ok (r.eval x) hx
  have hsize : base ≤ w.heap.size := Nat.le_trans hbase b.1.size
  have hzw : ∀ b, w.heap.size ≤ b → Z b := b.2.2.new
  have hbp : inB pl.length sel = true := by rw [r.o.len]; exact hb
  have hzz : ∀ b, free Z pl b → (Z b ∧ ∀ l q, pl[l]? = some (some (b, q)) → l ∈ sel) := fun k hk => ⟨hk.1, fun l q e => absurd e (hk.2 l q)⟩
  obtain ⟨q1, hall⟩ := argsD_rel (r := fun d v => RelV Z s.h pl w d v) (nf := nf) hvl hvr (us := args.toList.map a.eval) (args := args.toList.map (evalO s.fr)) (by simp) (fun i hi => by
    have hi' : i < args.toList.length := by simpa using hi
    simp only [nth, nthV, List.getD_eq_getElem?_getD, List.getElem?_map]
    rw [List.getElem?_eq_getElem hi']
    exact r.eval _)
  have hc := hF (fun b => Z b ∧ ∀ l q, pl[l]? = some (some (b, q)) → l ∈ sel) base w (pickPl pl sel) (argsD nf vs (args.toList.map a.eval)) hsize
    (fun k hk => ⟨hzw k hk, fun l q e => by have := (r.o.lt e).1; omega⟩) (r.o.sel hzz hb hd hobs) (by rw [renL_length]; exact q1) (fun i hi => by
      rw [renL_length] at hi
      rw [nth_renL _ _ _ hi]
      exact (hall i hi).sel hzz r.o.len hb (amongL_nth hargs i hi))
  unfold Oper.wp
  rw [run_callop hf ho hv w]
  simp only [Oper.upon_enter]
  refine hc.mono fun e w' he => ?_
  obtain ⟨v, d, h', pl', rfl, hR, hO, hV, hT, hB⟩ := he
  obtain ⟨j1, j2, j3⟩ := foot_join r.o hsize hzw hb hd (F := (pickObs s.h sel).map (Ob.ren sel)) (by rw [List.length_map, pickObs_length hb]) (fun i o u e ⟨l, e1, e2⟩ => by
    rw [List.getElem?_map, pickObs_get hb i l e1, e2] at e
    cases e
    exact ⟨rfl, rfl, rfl⟩) hO hV hT hB
  refine ⟨fun e => by subst e; exact fun k hk => (hT.old k (fun l q e => by simp [pickPl] at e) hk).2, d, h', putBack pl sel pl', hR, ?_, b.step j1 hB, j1, v, rfl⟩
  cases hd : o.dst with
  | none => exact r.to' j1 j2 v
  | some t => rw [hd] at ht; exact r.to j1 j2 (okO_lt ht) j3
/-- The rule: a call with objects lent ('sel': which). -/
theorem kont_callM (hbase : base ≤ w0.w.heap.size) (sel : List Nat) {k : List Item} {dst : Option Nat} {ty : TypeId} {pos : String} {after : Array Edge} {gd : Option (Nat × Bool)} {r : List (Oper × G)} {s : St} {x : Operand} {args : Array Operand} {tys : Array TypeId} {f : FuncId} {nf : Nat} {caps : List D} (hf : FnOk P f)
    (hx : calleeD (evalO s.fr x) = some (f, nf, caps)) {F : List Ob} {cs : List D} (hok : inB s.h.length sel = true ∧ nodupB sel = true ∧ obsAmong sel (pickObs s.h sel) ∧ amongL sel (argsD nf caps (args.toList.map (evalO s.fr))) = true ∧ argsEq (renL sel (argsD nf caps (args.toList.map (evalO s.fr)))) cs ∧ obsLe ((pickObs s.h sel).map (Ob.ren sel)) F)
    {R : D → List Ob → Prop} (hF : MFn P f F cs R) (ht : okO nt dst = true) (hk : ∀ d h, R d h → kont P base nt w0 Q (.ops r :: k) .normal ⟨putO s.fr dst (d.idx (backN s.h.length sel)), backObs s.h sel h⟩) :
    kont P base nt w0 Q (.ops ((⟨dst, .call ⟨.value x, args, tys⟩, ty, pos, after, gd⟩, none) :: r) :: k) .normal s := by
  simp only [kont] at hk ⊢
  obtain ⟨hb, hd, hobs, hargs, he, hle⟩ := hok
  intro Z z pl a w r b
  simp only [wpG, wantedG, if_true]
  have hF2 := hF.args he
  have hF3 : MFn P f ((pickObs s.h sel).map (Ob.ren sel)) (renL sel (argsD nf caps (args.toList.map (evalO s.fr)))) R := by
    intro Z base w pl vs h1 h2 h3 hl hc
    have hw := Wk.obs (m := F.length) (fr := []) hle
    obtain ⟨pl', r', K⟩ := hw Z base 0 pl { tmps := #[], defers := [] } w ⟨rfl, rfl, fun t => .cl _ _ (.undef _), h3⟩
    obtain ⟨e1, e2⟩ := obsLe_get hle
    refine (hF2 Z base w pl vs h1 h2 ?_ hl (fun i hi => (hc i hi).obs hle)).mono fun e w' ⟨v, d, h, pl', k1, k2, k3, k4, k5, k6⟩ => ⟨v, d, h, pl', k1, k2, k3, k4, ?_, k6⟩
    · refine ⟨by rw [e1]; exact h3.len, h3.inj, fun l o' ho hp => ?_, fun l o' b q ho hp => ?_⟩
      · obtain ⟨o, g3, g4⟩ := e2 l o' ho
        rw [g4.2.2.1]; exact h3.noRow l o g3 hp
      · obtain ⟨o, g3, g4, g5, g6, g8, g7⟩ := e2 l o' ho
        obtain ⟨g1, x⟩ := h3.at_ l o b q g3 hp
        exact ⟨fun hr => g1 (by rw [← g8.2, hr]), x.to g8.1 g5 g6 rfl (fun i hi => by rw [g7 i hi]) fun i j v hi _ hr => by rw [g7 i hi]; exact hr.obs hle⟩
    · have key : ∀ (l : Nat) (o : Ob), ((pickObs s.h sel).map (Ob.ren sel))[l]? = some o → ∃ o', F[l]? = some o' ∧ obLe o o' := fun l o e => by
        have : l < F.length := by rw [e1]; exact lt_of_some e
        obtain ⟨o2, g3, g4⟩ := e2 l _ (List.getElem?_eq_getElem this)
        rw [e] at g3; cases g3
        exact ⟨_, List.getElem?_eq_getElem this, g4⟩
      refine ⟨k5.old, fun l o p ho hp => ?_, fun l o o'' b q ho ho'' hg hp c el hc => ?_⟩
      · obtain ⟨o1, g1, g2, g3, g4, g5, g6⟩ := key l o ho
        obtain ⟨o', p', t1, t2, t3, t4, t5⟩ := k5.obj l o1 p g1 hp
        exact ⟨o', p', t1, t2, by omega, by rw [t4, g5.1], fun x => by obtain ⟨y1, y2⟩ := t5 (by omega); exact ⟨by rw [y1, g3], y2⟩⟩
      · obtain ⟨o1, g1, g2, g3, g4, g5, g6⟩ := key l o ho
        exact k5.shape l o1 o'' b q g1 ho'' (by omega) hp c el hc
  exact Oper.wp_mono (fun a' w' ⟨_, d, h, pl', hR, r', b', _⟩ => hk d h hR Z z pl' a' w' r' b') (callM_wp hbase hf rfl hx sel hb hd hobs hargs hF3 ht z pl a w r b _)
end
attribute [go_sem] D.idx idxL Ob.idx backN putBack backObs nodupB startsB
end Go.Fg
namespace Go.Fg
set_option linter.unusedSimpArgs false
set_option linter.unusedVariables false
/-- These slots of a frame. -/
def pickFr (fr : List (Nat × D)) : List Nat → List (Nat × D)
  | [] => []
  | t :: r => (t, get fr t) :: pickFr fr r
attribute [go_sem] pickFr
/-- A loop's states: the slots V, the slots that stay, the objects H; G: what is free in it. -/
def ForS {G : Type} (R : Nat → Prop) (V : Nat → G → List (Nat × D)) (H : Nat → G → List Ob) (rest : List (Nat × D)) (i : Nat) (s : St) : Prop := R i ∧ ∃ γ, s = ⟨V i γ ++ rest, H i γ⟩
theorem ForS.mk {G : Type} {R : Nat → Prop} {V : Nat → G → List (Nat × D)} {H : Nat → G → List Ob} {rest : List (Nat × D)} {i : Nat} (γ : G) (h : R i) : ForS R V H rest i ⟨V i γ ++ rest, H i γ⟩ := ⟨h, γ, rfl⟩
section
variable {P : Program} {base nt : Nat} {w0 : Start} {Q : Exit → St → Prop} {k : List Item}
theorem kont_forF {G : Type} (keep : List Nat) (R : Nat → Prop) (V : Nat → G → List (Nat × D)) (H : Nat → G → List Ob) (N : Nat) (γ0 : G) {c : Code} {fr : List (Nat × D)} {h : List Ob} {rest : List (Nat × D)} (hr : pickFr fr keep = rest)
    (hw : Weak w0 ⟨fr, h⟩ ⟨V 0 γ0 ++ rest, H 0 γ0⟩) (hR : R 0)
    (round : ∀ i γ, i ≤ N → R i → kont P base nt w0 (ForQ P base nt w0 Q k (ForS R V H rest) N i) [.code c] .normal ⟨V i γ ++ rest, H i γ⟩) : kont P base nt w0 Q (.code (.loop c) :: k) .normal ⟨fr, h⟩ :=
  kont_for (ForS R V H rest) N hw ⟨hR, γ0, rfl⟩ fun i s hi ⟨hRi, γ, e⟩ => by subst e; exact round i γ hi hRi
end
section
variable {P : Program} {base : Nat} {w0 : Start} {Q : Exit → St → Prop} {X : Cx} {nt n : Nat} {k k' : List Item} {s s' : St}
theorem hite_lt {i N : Nat} (hi : i ≤ N) (h1 : i < N → hx P base w0 Q X nt n k s) (h2 : i = N → hx P base w0 Q X nt n k' s') : hite (decide (i < N)) (hz P base w0 Q X nt n k s) (hz P base w0 Q X nt n k' s') :=
  ⟨fun h => h1 (by simpa using h), fun h => h2 (by simp at h; omega)⟩
theorem hite_ltI {i N : Nat} (hi : i ≤ N) (h1 : i < N → hx P base w0 Q X nt n k s) (h2 : i = N → hx P base w0 Q X nt n k' s') : hite (decide ((i : Int) < (N : Int))) (hz P base w0 Q X nt n k s) (hz P base w0 Q X nt n k' s') :=
  ⟨fun h => h1 (by simpa using h), fun h => h2 (by simp at h; omega)⟩
/-- A test that compares numbers. -/
theorem hite_dec {p : Prop} [Decidable p] (h1 : p → hx P base w0 Q X nt n k s) (h2 : ¬ p → hx P base w0 Q X nt n k' s') : hite (decide p) (hz P base w0 Q X nt n k s) (hz P base w0 Q X nt n k' s') :=
  ⟨fun h => h1 (of_decide_eq_true h), fun h => h2 (of_decide_eq_false h)⟩
theorem hite_beq {α : Type} [BEq α] [LawfulBEq α] {a b : α} (h1 : a = b → hx P base w0 Q X nt n k s) (h2 : a ≠ b → hx P base w0 Q X nt n k' s') : hite (a == b) (hz P base w0 Q X nt n k s) (hz P base w0 Q X nt n k' s') :=
  ⟨fun h => h1 (by simpa using h), fun h => h2 (by simpa using h)⟩
theorem hite_bne {α : Type} [BEq α] [LawfulBEq α] {a b : α} (h1 : a ≠ b → hx P base w0 Q X nt n k s) (h2 : a = b → hx P base w0 Q X nt n k' s') : hite (a != b) (hz P base w0 Q X nt n k s) (hz P base w0 Q X nt n k' s') :=
  ⟨fun h => h1 (by simpa using h), fun h => h2 (by simpa using h)⟩
theorem hite_decA {K K' : St → Prop} {l l' : List (Bool × Oper × G)} {p : Prop} [Decidable p] (h1 : p → hax P base w0 X nt K l s) (h2 : ¬ p → hax P base w0 X nt K' l' s') : hite (decide p) (haz P base w0 X nt K l s) (haz P base w0 X nt K' l' s') :=
  ⟨fun h => h1 (of_decide_eq_true h), fun h => h2 (of_decide_eq_false h)⟩
theorem hite_beqA {K K' : St → Prop} {l l' : List (Bool × Oper × G)} {α : Type} [BEq α] [LawfulBEq α] {a b : α} (h1 : a = b → hax P base w0 X nt K l s) (h2 : a ≠ b → hax P base w0 X nt K' l' s') : hite (a == b) (haz P base w0 X nt K l s) (haz P base w0 X nt K' l' s') :=
  ⟨fun h => h1 (by simpa using h), fun h => h2 (by simpa using h)⟩
theorem hite_bneA {K K' : St → Prop} {l l' : List (Bool × Oper × G)} {α : Type} [BEq α] [LawfulBEq α] {a b : α} (h1 : a ≠ b → hax P base w0 X nt K l s) (h2 : a = b → hax P base w0 X nt K' l' s') : hite (a != b) (haz P base w0 X nt K l s) (haz P base w0 X nt K' l' s') :=
  ⟨fun h => h1 (by simpa using h), fun h => h2 (by simpa using h)⟩
end
end Go.Fg
namespace Go.Fg
set_option linter.unusedSimpArgs false
set_option linter.unusedVariables false
open Go.RowKit (Below)
/-- Rows from one on. -/
def rowFrom (off : Nat) (row : Nat → List D) : Nat → List D := fun i => row (off + i)
theorem rowFrom_zero (row : Nat → List D) : rowFrom 0 row = row := by funext i; simp [rowFrom]
theorem rowFrom_at (off : Nat) (row : Nat → List D) (i : Nat) : rowFrom off row i = row (off + i) := rfl
mutual
/-- A value, with the object l (generation g0, n rows of sz cells) told ens what it holds. -/
def D.fz (l g0 n sz : Nat) (row : Nat → List D) : D → D
  | .ref l' g off len => bif Nat.beq l' l then (bif Nat.beq g g0 && Nat.ble (off + len) n then .imm sz len (rowFrom off row) else .undef) else .ref l' g off len
  | .ptr l' g i j => bif Nat.beq l' l then (bif Nat.beq g g0 && Nat.blt i n && Nat.ble j sz then .ip ((row i).drop j) else .undef) else .ptr l' g i j
  | .mref l' g => bif Nat.beq l' l then .undef else .mref l' g
  | .clo f nf cs => .clo f nf (fzL l g0 n sz row cs)
  | .agg cs => .agg (fzL l g0 n sz row cs)
  | .tup cs => .tup (fzL l g0 n sz row cs)
  | d => d
def fzL (l g0 n sz : Nat) (row : Nat → List D) : List D → List D
  | [] => []
  | c :: cs => c.fz l g0 n sz row :: fzL l g0 n sz row cs
end
theorem fzL_length (l g0 n sz : Nat) (row : Nat → List D) : ∀ cs : List D, (fzL l g0 n sz row cs).length = cs.length
  | [] => rfl
  | _ :: cs => by simp [fzL, fzL_length l g0 n sz row cs]
theorem nth_fzL (l g0 n sz : Nat) (row : Nat → List D) : ∀ (cs : List D) (i : Nat), i < cs.length → nth (fzL l g0 n sz row cs) i = (nth cs i).fz l g0 n sz row
  | [], i, h => by simp at h
  | c :: cs, 0, _ => by simp [fzL, nth]
  | c :: cs, i + 1, h => by
    have := nth_fzL l g0 n sz row cs i (by simpa using h)
    simpa [fzL, nth] using this
theorem fzL_cond (l g0 n sz : Nat) (row : Nat → List D) (c : Bool) (a b : List D) : fzL l g0 n sz row (bif c then a else b) = bif c then fzL l g0 n sz row a else fzL l g0 n sz row b := by cases c <;> rfl
def fzFr (l g0 n sz : Nat) (row : Nat → List D) : List (Nat × D) → List (Nat × D)
  | [] => []
  | (t, d) :: r => (t, d.fz l g0 n sz row) :: fzFr l g0 n sz row r
theorem get_fzFr (l g0 n sz : Nat) (row : Nat → List D) : ∀ (fr : List (Nat × D)) (t : Nat), get (fzFr l g0 n sz row fr) t = (get fr t).fz l g0 n sz row
  | [], t => rfl
  | (u, d) :: r, t => by
    simp only [fzFr, get]
    cases Nat.beq u t
    · exact get_fzFr l g0 n sz row r t
    · rfl
def Ob.fz (l g0 n sz : Nat) (row : Nat → List D) (o : Ob) : Ob := ⟨o.kd, o.gen, o.sz, o.n, fun i => fzL l g0 n sz row (o.row i)⟩
def fzObs (l g0 n sz : Nat) (row : Nat → List D) : List Ob → List Ob
  | [] => []
  | o :: r => o.fz l g0 n sz row :: fzObs l g0 n sz row r
theorem fzObs_map (l g0 n sz : Nat) (row : Nat → List D) : ∀ h : List Ob, fzObs l g0 n sz row h = h.map (Ob.fz l g0 n sz row)
  | [] => rfl
  | o :: r => by simp [fzObs, fzObs_map l g0 n sz row r]
/-- What is left of an object that is told ens a value. -/
def Ob.gone (o : Ob) : Ob := ⟨.arr, o.gen + 1, o.sz, 0, fun _ => []⟩

section
variable {Z : Nat → Prop}
theorem fz_cl {N : Nat → Prop} {w : World} (l g0 n sz : Nat) (row : Nat → List D) {d : D} {v : Value} (c : Cl N w d v) : Cl N w (d.fz l g0 n sz row) v := by
  induction c with
  | raw v => exact .raw v
  | undef v => exact .undef v
  | nil a => exact .nil a
  | imm s m r a cap b o vs ha hl hs hc hr ih => exact .imm s m r a cap b o vs ha hl hs hc hr
  | ip cells b o vs hc hr ih => exact .ip cells b o vs hc hr
  | clo f nf cs vs hl hr ih => exact .clo f nf _ vs (by rw [fzL_length]; exact hl) (fun i hi => by rw [fzL_length] at hi; rw [nth_fzL _ _ _ _ _ _ _ hi]; exact ih i hi)
  | agg cs vs hl hr ih => exact .agg _ vs (by rw [fzL_length]; exact hl) (fun i hi => by rw [fzL_length] at hi; rw [nth_fzL _ _ _ _ _ _ _ hi]; exact ih i hi)
  | tup cs vs hl hr ih => exact .tup _ vs (by rw [fzL_length]; exact hl) (fun i hi => by rw [fzL_length] at hi; rw [nth_fzL _ _ _ _ _ _ _ hi]; exact ih i hi)

/-- The object l, all of whose cells are closed, in a block of Z, is told ens a value. -/
theorem RelV.fz {h : List Ob} {pl : List Pl} {w : World} {l : Nat} {o : Ob} {p : Pl} (ho : h[l]? = some o) (hp : pl[l]? = some p) (hk : o.kd.ty = 0) (hb : ∀ b q, p = some (b, q) → Z b ∧ (∀ l' q', pl[l']? = some (some (b, q')) → l' = l) ∧ CellsAt Z h pl w o b q)
    (hcl : ∀ i, i < o.n → (o.row i).all D.cl1 = true) {h' : List Ob} (hh : ∀ (l' : Nat) (o' : Ob), l' ≠ l → h[l']? = some o' → ∃ u, h'[l']? = some u ∧ u.gen = o'.gen ∧ u.sz = o'.sz ∧ u.kd.ty = o'.kd.ty) {d : D} {v : Value} (r : RelV Z h pl w d v) :
    RelV Z h' (pl.set l none) w (d.fz l o.gen o.n o.sz o.row) v := by
  have hpl : ∀ (l' : Nat), l' ≠ l → (pl.set l none)[l']? = pl[l']? := fun l' hl' => by rw [List.getElem?_set_ne (Ne.symm hl')]
  have haw : ∀ b, away pl b → away (pl.set l none) b := fun b hb l' q e => by
    by_cases e1 : l' = l
    · subst e1; rw [List.getElem?_set_self (ltp_of_some hp)] at e; cases e
    · rw [hpl l' e1] at e; exact hb l' q e
  have hfr : ∀ b, free Z pl b → free Z (pl.set l none) b := fun b hb => ⟨hb.1, haw b hb.2⟩
  have hown : ∀ b q, p = some (b, q) → free Z (pl.set l none) b := fun b q e => ⟨(hb b q e).1, fun l' q' e' => by
    by_cases e1 : l' = l
    · subst e1; rw [List.getElem?_set_self (ltp_of_some hp)] at e'; cases e'
    · rw [hpl l' e1] at e'; exact e1 ((hb b q e).2.1 l' q' e')⟩
  have hcell : ∀ b q, p = some (b, q) → ∃ c el, w.heap[b]? = some (.cells c el (0, 0)) ∧ (∀ i, i < o.n → (o.row i).length = o.sz) ∧ ∃ vs : Nat → Nat → Value, ∀ i j, i < o.n → j < o.sz → w.cell? ⟨b, q + (i * o.sz + j), none⟩ = some (vs i j) ∧ Cl (free Z (pl.set l none)) w (nth (o.row i) j) (vs i j) := fun b q e => by
    obtain ⟨c, el, h1, _, h3, h4⟩ := (hb b q e).2.2
    refine ⟨c, el, h1, h3, fun i j => (c[q + (i * o.sz + j)]?).getD Go.undef, fun i j hi hj => ?_⟩
    obtain ⟨u, hu, hr⟩ := h4 i j hi hj
    refine ⟨by rw [cell_of_row w b _ c el (0, 0) h1, hu]; simp [hu], ?_⟩
    simp only [hu, Option.getD_some]
    have h5 := hcl i hi
    rw [List.all_eq_true] at h5
    have h6 : j < (o.row i).length := by rw [h3 i hi]; exact hj
    have h7 : (nth (o.row i) j).cl1 = true := h5 _ (by simp only [nth, List.getD_eq_getElem?_getD, List.getElem?_eq_getElem h6, Option.getD_some]; exact List.getElem_mem h6)
    exact (cl1_ok hr h7).mono fun x hx _ => ⟨hfr x hx, rfl⟩
  induction r with
  | cl d v hc => exact .cl _ _ (fz_cl l o.gen o.n o.sz o.row (hc.mono fun b hb _ => ⟨hfr b hb, rfl⟩))
  | ref l' g off len o' p' a cap ho' hp' hk' hg hs =>
    by_cases e : l' = l
    · subst e
      rw [ho] at ho'; cases ho'
      rw [hp] at hp'; cases hp'
      simp only [D.fz, Nat.beq_refl, cond_true]
      cases hc : (Nat.beq g o.gen && Nat.ble (off + len) o.n)
      · exact .cl _ _ (.undef _)
      · simp only [cond_true, Bool.and_eq_true, Nat.beq_eq, Nat.ble_eq] at hc ⊢
        rcases hs hc.1 with ⟨h1, h2⟩ | ⟨b, q, c, el, hpp, ha, hbk, hcs, hlc⟩
        · subst h1; subst h2
          exact .cl _ _ (.imm _ _ _ _ _ 0 0 (fun _ _ => Go.undef) (fun h => by omega) (by omega) (fun i hi => by omega) (fun i j hi => by omega) (fun i j hi => by omega))
        · obtain ⟨c', el', k1, k2, vs, k3⟩ := hcell b q hpp
          refine .cl _ _ (.imm _ _ _ _ _ b (q + off * o.sz) (fun i j => vs (off + i) j) (fun _ => ha) hlc (fun i hi => k2 _ (by omega)) (fun i j hi hj => ⟨hown b q hpp, ?_⟩) (fun i j hi hj => (k3 (off + i) j (by omega) hj).2))
          rw [← (k3 (off + i) j (by omega) hj).1, Nat.add_mul, show q + off * o.sz + (i * o.sz + j) = q + (off * o.sz + i * o.sz + j) by omega]
    · have hne : Nat.beq l' l = false := by rw [← Bool.not_eq_true, Nat.beq_eq]; exact e
      simp only [D.fz, hne, cond_false]
      obtain ⟨u, u1, u2, u3, u4⟩ := hh l' o' e ho'
      exact .ref l' g off len u p' a cap u1 (by rw [hpl l' e]; exact hp') (by rw [u4]; exact hk') (by rw [u2]; exact hg) (by rw [u2, u3]; exact hs)
  | ptr l' g i j o' p' a ho' hp' hk' hg hs =>
    by_cases e : l' = l
    · subst e
      rw [ho] at ho'; cases ho'
      rw [hp] at hp'; cases hp'
      simp only [D.fz, Nat.beq_refl, cond_true]
      cases hc : (Nat.beq g o.gen && Nat.blt i o.n && Nat.ble j o.sz)
      · exact .cl _ _ (.undef _)
      · simp only [cond_true, Bool.and_eq_true, Nat.beq_eq, Nat.ble_eq, Nat.blt_eq] at hc ⊢
        obtain ⟨b, q, hpp, ha⟩ := hs hc.1.1
        obtain ⟨c', el', k1, k2, vs, k3⟩ := hcell b q hpp
        subst ha
        have hlen : ((o.row i).drop j).length = o.sz - j := by rw [List.length_drop, k2 i hc.1.2]
        refine .cl _ _ (.ip _ b _ (fun k => vs i (j + k)) (fun k hk => ⟨hown b q hpp, ?_⟩) (fun k hk => ?_))
        · rw [← (k3 i (j + k) hc.1.2 (by omega)).1]; congr 1; simp
        · rw [nth_drop]; exact (k3 i (j + k) hc.1.2 (by omega)).2
    · have hne : Nat.beq l' l = false := by rw [← Bool.not_eq_true, Nat.beq_eq]; exact e
      simp only [D.fz, hne, cond_false]
      obtain ⟨u, u1, u2, u3, u4⟩ := hh l' o' e ho'
      exact .ptr l' g i j u p' a u1 (by rw [hpl l' e]; exact hp') (by rw [u4]; exact hk') (by rw [u2]; exact hg) (by rw [u2, u3]; exact hs)
  | mref l' g o' p' b ho' hp' hk' hg hs =>
    by_cases e : l' = l
    · subst e
      rw [ho] at ho'; cases ho'
      exact absurd hk hk'.1
    · have hne : Nat.beq l' l = false := by rw [← Bool.not_eq_true, Nat.beq_eq]; exact e
      simp only [D.fz, hne, cond_false]
      obtain ⟨u, u1, u2, u3, u4⟩ := hh l' o' e ho'
      exact .mref l' g u p' b u1 (by rw [hpl l' e]; exact hp') (by rw [u4]; exact hk') (by rw [u2]; exact hg) (by rw [u2]; exact hs)
  | clo f nf cs vs hl hr ih => exact .clo f nf _ vs (by rw [fzL_length]; exact hl) (fun i hi => by rw [fzL_length] at hi; rw [nth_fzL _ _ _ _ _ _ _ hi]; exact ih i hi)
  | agg cs vs hl hr ih => exact .agg _ vs (by rw [fzL_length]; exact hl) (fun i hi => by rw [fzL_length] at hi; rw [nth_fzL _ _ _ _ _ _ _ hi]; exact ih i hi)
  | tup cs vs hl hr ih => exact .tup _ vs (by rw [fzL_length]; exact hl) (fun i hi => by rw [fzL_length] at hi; rw [nth_fzL _ _ _ _ _ _ _ hi]; exact ih i hi)
end

/-- The rule, where nothing was lent: object l is told ens a value. -/
theorem Weak.freeze {w0 : Start} (hF : w0.pl = []) (l : Nat) {fr : List (Nat × D)} {h : List Ob} {o : Ob} (ho : h[l]? = some o) (hk : o.kd.ty = 0) (hcl : ∀ i, i < o.n → (o.row i).all D.cl1 = true) :
    Weak w0 ⟨fr, h⟩ ⟨fzFr l o.gen o.n o.sz o.row fr, (fzObs l o.gen o.n o.sz o.row h).set l o.gone⟩ := by
  intro Z z base nt pl a w r b
  have hlen : pl.length = h.length := r.o.len
  have hlp : l < pl.length := by have h1 := lt_of_some ho; omega
  have hp : pl[l]? = some pl[l] := List.getElem?_eq_getElem hlp
  generalize hpe : pl[l] = p at hp
  have haway0 : ∀ bb, away w0.pl bb := fun bb i q e => by rw [hF] at e; simp at e
  have hfresh : ∀ l' bb q : Nat, pl[l']? = some (some (bb, q)) → w0.w.heap.size ≤ bb := fun l' bb q e => by
    rcases Nat.lt_or_ge bb w0.w.heap.size with hlt | hge
    · exact absurd e ((b.2.1.old bb (haway0 bb) hlt).1 l' q)
    · exact hge
  have hat : ∀ bb q, p = some (bb, q) → Z bb ∧ (∀ l' q', pl[l']? = some (some (bb, q')) → l' = l) ∧ CellsAt Z h pl w o bb q := fun bb q e => by
    subst e
    exact ⟨b.2.2.own l bb q hp (hfresh l bb q hp), fun l' q' e' => r.o.inj _ _ _ _ _ e' hp, (r.o.at_ l o bb q ho hp).2.cells hk⟩
  have hh : ∀ (l' : Nat) (o' : Ob), l' ≠ l → h[l']? = some o' → ∃ u, ((fzObs l o.gen o.n o.sz o.row h).set l o.gone)[l']? = some u ∧ u.gen = o'.gen ∧ u.sz = o'.sz ∧ u.kd.ty = o'.kd.ty := fun l' o' hne e =>
    ⟨o'.fz l o.gen o.n o.sz o.row, by rw [List.getElem?_set_ne (Ne.symm hne), fzObs_map, List.getElem?_map, e]; rfl, rfl, rfl, rfl⟩
  have hpl : ∀ (l' : Nat), l' ≠ l → (pl.set l none)[l']? = pl[l']? := fun l' hl' => by rw [List.getElem?_set_ne (Ne.symm hl')]
  have hself : (pl.set l none)[l]? = some none := List.getElem?_set_self hlp
  have hsub : ∀ l' bb q : Nat, (pl.set l none)[l']? = some (some (bb, q)) → l' ≠ l ∧ pl[l']? = some (some (bb, q)) := fun l' bb q e => by
    by_cases e1 : l' = l
    · subst e1; rw [hself] at e; cases e
    · exact ⟨e1, by rw [← hpl l' e1]; exact e⟩
  refine ⟨pl.set l none, ⟨r.nt, r.defers, fun t => ?_, ⟨?_, fun l1 l2 bb q q' e1 e2 => ?_, fun l1 o1 h1 e1 => ?_, fun l1 o1 bb q h1 e1 => ?_⟩⟩, b.1, ⟨fun bb hb hlt => ?_, fun l1 o1 p1 h1 e1 => ?_, fun l1 o1 o2 bb q h1 h2 hg e1 => ?_⟩, b.2.2.new, fun l1 bb q e h0 => b.2.2.own l1 bb q (hsub _ _ _ e).2 h0⟩
  · show RelV Z _ _ w (get (fzFr l o.gen o.n o.sz o.row fr) t) _
    rw [get_fzFr]
    exact (r.fr t).fz ho hp hk hat hcl hh
  · simp [fzObs_map, hlen]
  · exact r.o.inj l1 l2 bb q q' (hsub _ _ _ e1).2 (hsub _ _ _ e2).2
  · by_cases e2 : l1 = l
    · subst e2
      rw [List.getElem?_set_self (by rw [fzObs_map]; simp; omega)] at h1
      cases h1; rfl
    · rw [List.getElem?_set_ne (Ne.symm e2), fzObs_map, List.getElem?_map] at h1
      rw [hpl l1 e2] at e1
      obtain ⟨u, hu, rfl⟩ := Option.map_eq_some_iff.1 h1
      exact r.o.noRow l1 u hu e1
  · obtain ⟨hne, e2⟩ := hsub _ _ _ e1
    rw [List.getElem?_set_ne (Ne.symm hne), fzObs_map, List.getElem?_map] at h1
    obtain ⟨u, hu, rfl⟩ := Option.map_eq_some_iff.1 h1
    obtain ⟨g1, x⟩ := r.o.at_ l1 u bb q hu e2
    refine ⟨g1, x.to rfl rfl rfl rfl (fun i _ => fzL_length _ _ _ _ _ _) fun i j v hi hj hr => ?_⟩
    show RelV Z _ _ w (nth (fzL _ _ _ _ _ (u.row i)) j) v
    rw [nth_fzL _ _ _ _ _ _ _ hj]
    exact hr.fz ho hp hk hat hcl hh
  · obtain ⟨k1, k2⟩ := b.2.1.old bb hb hlt
    exact ⟨fun l' q e => k1 l' q (hsub _ _ _ e).2, k2⟩
  · rw [hF] at e1; simp at e1
  · rw [hF] at e1; simp at e1
attribute [go_sem] rowFrom_zero rowFrom_at D.fz fzL fzL_cond fzFr Ob.fz fzObs Ob.gone
end Go.Fg
