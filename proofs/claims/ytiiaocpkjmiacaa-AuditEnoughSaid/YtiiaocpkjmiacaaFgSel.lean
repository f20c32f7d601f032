/- Objects chosen and set in another order. No conditions: laws. -/
import Derived.Test.YtiiaocpkjmiacaaFgSimp
namespace Go.Fg
set_option linter.unusedSimpArgs false
set_option linter.unusedVariables false
open Go.RowKit (Below)

def pos (l : Nat) : List Nat → Nat
  | [] => 0
  | k :: r => bif Nat.beq k l then 0 else pos l r + 1
mutual
def D.ren (sel : List Nat) : D → D
  | .ref l g off len => .ref (pos l sel) g off len
  | .ptr l g i j => .ptr (pos l sel) g i j
  | .mref l g => .mref (pos l sel) g
  | .clo f nf cs => .clo f nf (renL sel cs)
  | .agg cs => .agg (renL sel cs)
  | .tup cs => .tup (renL sel cs)
  | d => d
def renL (sel : List Nat) : List D → List D
  | [] => []
  | c :: cs => c.ren sel :: renL sel cs
end
mutual
def D.among (sel : List Nat) : D → Bool
  | .ref l _ _ _ => memB l sel
  | .ptr l _ _ _ => memB l sel
  | .mref l _ => memB l sel
  | .clo _ _ cs => amongL sel cs
  | .agg cs => amongL sel cs
  | .tup cs => amongL sel cs
  | _ => true
def amongL (sel : List Nat) : List D → Bool
  | [] => true
  | c :: cs => c.among sel && amongL sel cs
end
theorem pos_get {l : Nat} : ∀ {sel : List Nat}, memB l sel = true → sel[pos l sel]? = some l
  | [], h => by cases h
  | k :: r, h => by
    simp only [pos]
    by_cases e : k = l
    · subst e; simp
    · have h1 : Nat.beq k l = false := by rw [← Bool.not_eq_true, Nat.beq_eq]; exact e
      have h2 : Nat.beq l k = false := by rw [← Bool.not_eq_true, Nat.beq_eq]; exact fun x => e x.symm
      simp only [memB, h2, Bool.false_or] at h
      simp [h1, pos_get h]
theorem renL_length (sel : List Nat) : ∀ cs : List D, (renL sel cs).length = cs.length
  | [] => rfl
  | _ :: cs => by simp [renL, renL_length sel cs]
theorem nth_renL (sel : List Nat) : ∀ (cs : List D) (i : Nat), i < cs.length → nth (renL sel cs) i = (nth cs i).ren sel
  | [], i, h => by simp at h
  | c :: cs, 0, _ => by simp [renL, nth]
  | c :: cs, i + 1, h => by
    have := nth_renL sel cs i (by simpa using h)
    simpa [renL, nth] using this
theorem amongL_nth {sel : List Nat} : ∀ {cs : List D}, amongL sel cs = true → ∀ i, i < cs.length → (nth cs i).among sel = true
  | [], _, i, h => by simp at h
  | d :: r, hf, i, h => by
    simp only [amongL, Bool.and_eq_true] at hf
    cases i with
    | zero => exact hf.1
    | succ i => have := amongL_nth hf.2 i (by simpa using h); simpa [nth] using this
def Ob.ren (sel : List Nat) (o : Ob) : Ob := ⟨o.kd, o.gen, o.sz, o.n, fun i => renL sel (o.row i)⟩
/-- The objects of these numbers, in this order. -/
def pickObs (h : List Ob) : List Nat → List Ob
  | [] => []
  | i :: r => match h[i]? with
    | some o => o :: pickObs h r
    | none => []
def pickPl (pl : List Pl) : List Nat → List Pl
  | [] => []
  | i :: r => match pl[i]? with
    | some o => o :: pickPl pl r
    | none => []
def inB (n : Nat) : List Nat → Bool
  | [] => true
  | i :: r => Nat.blt i n && inB n r
def nodupB : List Nat → Bool
  | [] => true
  | i :: r => !memB i r && nodupB r
theorem inB_ok {n : Nat} : ∀ {l : List Nat}, inB n l = true → ∀ i ∈ l, i < n
  | [], _, i, h => by cases h
  | k :: r, h, i, hi => by
    simp only [inB, Bool.and_eq_true, Nat.blt_eq] at h
    rcases List.mem_cons.1 hi with e | e
    · subst e; exact h.1
    · exact inB_ok h.2 i e
theorem nodupB_ok : ∀ {l : List Nat}, nodupB l = true → ∀ (i j x : Nat), l[i]? = some x → l[j]? = some x → i = j
  | [], _, i, j, x, h, _ => by simp at h
  | k :: r, h, i, j, x, h1, h2 => by
    simp only [nodupB, Bool.and_eq_true, Bool.not_eq_true'] at h
    have hk : k ∉ r := fun hm => by rw [memB_iff.2 hm] at h; cases h.1
    cases i with
    | zero =>
      simp at h1; subst h1
      cases j with
      | zero => rfl
      | succ j => simp at h2; exact absurd (List.mem_of_getElem? h2) hk
    | succ i =>
      simp at h1
      cases j with
      | zero => simp at h2; subst h2; exact absurd (List.mem_of_getElem? h1) hk
      | succ j => simp at h2; rw [nodupB_ok h.2 i j x h1 h2]
theorem pickObs_get {h : List Ob} : ∀ {sel : List Nat}, inB h.length sel = true → ∀ (i l : Nat), sel[i]? = some l → (pickObs h sel)[i]? = h[l]?
  | [], _, i, l, e => by simp at e
  | k :: r, hb, i, l, e => by
    simp only [inB, Bool.and_eq_true, Nat.blt_eq] at hb
    simp only [pickObs, List.getElem?_eq_getElem hb.1]
    cases i with
    | zero => simp at e; subst e; simp [List.getElem?_eq_getElem hb.1]
    | succ i => simp at e; simpa using pickObs_get hb.2 i l e
theorem pickPl_get {h : List Pl} : ∀ {sel : List Nat}, inB h.length sel = true → ∀ (i l : Nat), sel[i]? = some l → (pickPl h sel)[i]? = h[l]?
  | [], _, i, l, e => by simp at e
  | k :: r, hb, i, l, e => by
    simp only [inB, Bool.and_eq_true, Nat.blt_eq] at hb
    simp only [pickPl, List.getElem?_eq_getElem hb.1]
    cases i with
    | zero => simp at e; subst e; simp [List.getElem?_eq_getElem hb.1]
    | succ i => simp at e; simpa using pickPl_get hb.2 i l e
theorem pickObs_length {h : List Ob} : ∀ {sel : List Nat}, inB h.length sel = true → (pickObs h sel).length = sel.length
  | [], _ => rfl
  | k :: r, hb => by
    simp only [inB, Bool.and_eq_true, Nat.blt_eq] at hb
    simp [pickObs, List.getElem?_eq_getElem hb.1, pickObs_length hb.2]
theorem pickPl_length {h : List Pl} : ∀ {sel : List Nat}, inB h.length sel = true → (pickPl h sel).length = sel.length
  | [], _ => rfl
  | k :: r, hb => by
    simp only [inB, Bool.and_eq_true, Nat.blt_eq] at hb
    simp [pickPl, List.getElem?_eq_getElem hb.1, pickPl_length hb.2]

theorem RelV.sel {Z Z' : Nat → Prop} {h : List Ob} {pl : List Pl} {w : World} {sel : List Nat} (hz : ∀ b, free Z pl b → Z' b) (hl : pl.length = h.length) (hb : inB h.length sel = true) {d : D} {v : Value} (r : RelV Z h pl w d v) (hk : d.among sel = true) :
    RelV Z' ((pickObs h sel).map (Ob.ren sel)) (pickPl pl sel) w (d.ren sel) v := by
  have hbp : inB pl.length sel = true := by rw [hl]; exact hb
  have hfr : ∀ b, free Z pl b → free Z' (pickPl pl sel) b := fun b hf => ⟨hz b hf, fun l q e => by
    have hlt : l < sel.length := by rw [← pickPl_length hbp]; exact ltp_of_some e
    rw [pickPl_get hbp l (sel[l]) (List.getElem?_eq_getElem hlt)] at e
    exact hf.2 _ q e⟩
  have hcl : ∀ (d : D) (v : Value), Cl (free Z pl) w d v → RelV Z' ((pickObs h sel).map (Ob.ren sel)) (pickPl pl sel) w (d.ren sel) v := by
    intro d v hc
    have hc2 := hc.mono (N' := free Z' (pickPl pl sel)) (w' := w) (fun b hb _ => ⟨hfr b hb, rfl⟩)
    clear hc
    induction hc2 with
    | raw v => exact .cl _ _ (.raw v)
    | undef v => exact .cl _ _ (.undef v)
    | nil a => exact .cl _ _ (.nil a)
    | imm sz n row a cap b o vs ha hl hs hc hr ih => exact .cl _ _ (.imm sz n row a cap b o vs ha hl hs hc hr)
    | ip cells b o vs hc hr ih => exact .cl _ _ (.ip cells b o vs hc hr)
    | clo f nf cs vs hl hr ih => exact .clo f nf _ vs (by rw [renL_length]; exact hl) (fun i hi => by rw [renL_length] at hi; rw [nth_renL _ _ _ hi]; exact ih i hi)
    | agg cs vs hl hr ih => exact .agg _ vs (by rw [renL_length]; exact hl) (fun i hi => by rw [renL_length] at hi; rw [nth_renL _ _ _ hi]; exact ih i hi)
    | tup cs vs hl hr ih => exact .tup _ vs (by rw [renL_length]; exact hl) (fun i hi => by rw [renL_length] at hi; rw [nth_renL _ _ _ hi]; exact ih i hi)
  induction r with
  | cl d v hc => exact hcl d v hc
  | ref l g off len o p a cap ho hp hkk hg hs =>
    have hm : memB l sel = true := by simpa [D.among] using hk
    exact .ref _ g off len (o.ren sel) p a cap (by rw [List.getElem?_map, pickObs_get hb _ l (pos_get hm), ho]; rfl) (by rw [pickPl_get hbp _ l (pos_get hm), hp]) hkk hg hs
  | ptr l g i j o p a ho hp hkk hg hs =>
    have hm : memB l sel = true := by simpa [D.among] using hk
    exact .ptr _ g i j (o.ren sel) p a (by rw [List.getElem?_map, pickObs_get hb _ l (pos_get hm), ho]; rfl) (by rw [pickPl_get hbp _ l (pos_get hm), hp]) hkk hg hs
  | mref l g o p b ho hp hkk hg hs =>
    have hm : memB l sel = true := by simpa [D.among] using hk
    exact .mref _ g (o.ren sel) p b (by rw [List.getElem?_map, pickObs_get hb _ l (pos_get hm), ho]; rfl) (by rw [pickPl_get hbp _ l (pos_get hm), hp]) hkk hg hs
  | clo f nf cs vs hl hr ih => exact .clo f nf _ vs (by rw [renL_length]; exact hl) fun i hi => by rw [renL_length] at hi; rw [nth_renL _ _ _ hi]; exact ih i hi (amongL_nth (by simpa [D.among] using hk) i hi)
  | agg cs vs hl hr ih => exact .agg _ vs (by rw [renL_length]; exact hl) fun i hi => by rw [renL_length] at hi; rw [nth_renL _ _ _ hi]; exact ih i hi (amongL_nth (by simpa [D.among] using hk) i hi)
  | tup cs vs hl hr ih => exact .tup _ vs (by rw [renL_length]; exact hl) fun i hi => by rw [renL_length] at hi; rw [nth_renL _ _ _ hi]; exact ih i hi (amongL_nth (by simpa [D.among] using hk) i hi)

def obsAmong (sel : List Nat) : List Ob → Prop
  | [] => True
  | o :: r => (∀ i, i < o.n → amongL sel (o.row i) = true) ∧ obsAmong sel r
theorem obsAmong_get {sel : List Nat} : ∀ {h : List Ob}, obsAmong sel h → ∀ (l : Nat) (o : Ob), h[l]? = some o → ∀ i, i < o.n → amongL sel (o.row i) = true
  | [], _, l, o, e => by simp at e
  | o :: r, h, l, u, e => by
    cases l with
    | zero => simp at e; subst e; exact h.1
    | succ l => simp at e; exact obsAmong_get h.2 l u e
theorem RelO.sel {Z Z' : Nat → Prop} {base : Nat} {h : List Ob} {pl : List Pl} {w : World} {sel : List Nat} (R : RelO Z base h pl w) (hz : ∀ b, free Z pl b → Z' b) (hb : inB h.length sel = true) (hd : nodupB sel = true) (h2 : obsAmong sel (pickObs h sel)) :
    RelO Z' base ((pickObs h sel).map (Ob.ren sel)) (pickPl pl sel) w := by
  have hbp : inB pl.length sel = true := by rw [R.len]; exact hb
  have hpl : ∀ (i : Nat) (p : Pl), (pickPl pl sel)[i]? = some p → ∃ l, sel[i]? = some l ∧ pl[l]? = some p := fun i p e => by
    have hlt : i < sel.length := by rw [← pickPl_length hbp]; exact ltp_of_some e
    exact ⟨sel[i], List.getElem?_eq_getElem hlt, by rw [← pickPl_get hbp i _ (List.getElem?_eq_getElem hlt)]; exact e⟩
  have hob : ∀ (i : Nat) (o : Ob), ((pickObs h sel).map (Ob.ren sel))[i]? = some o → ∃ l u, sel[i]? = some l ∧ h[l]? = some u ∧ o = u.ren sel ∧ (pickObs h sel)[i]? = some u := fun i o e => by
    rw [List.getElem?_map, Option.map_eq_some_iff] at e
    obtain ⟨u, hu, rfl⟩ := e
    have hlt : i < sel.length := by rw [← pickObs_length hb]; exact lt_of_some hu
    exact ⟨sel[i], u, List.getElem?_eq_getElem hlt, by rw [← pickObs_get hb i _ (List.getElem?_eq_getElem hlt)]; exact hu, rfl, hu⟩
  refine ⟨by rw [pickPl_length hbp, List.length_map, pickObs_length hb], fun i i' b q q' e1 e2 => ?_, fun i o ho hp => ?_, fun i o b q ho hp => ?_⟩
  · obtain ⟨l, s1, p1⟩ := hpl _ _ e1
    obtain ⟨l', s2, p2⟩ := hpl _ _ e2
    have := R.inj l l' b q q' p1 p2
    subst this
    exact nodupB_ok hd i i' l s1 s2
  · obtain ⟨l, u, s1, hu, rfl, _⟩ := hob _ _ ho
    obtain ⟨l', s2, p2⟩ := hpl _ _ hp
    rw [s1] at s2; cases s2
    exact R.noRow l u hu p2
  · obtain ⟨l, u, s1, hu, rfl, hu2⟩ := hob _ _ ho
    obtain ⟨l', s2, p2⟩ := hpl _ _ hp
    rw [s1] at s2; cases s2
    obtain ⟨g1, x⟩ := R.at_ l u b q hu p2
    refine ⟨g1, x.to rfl rfl rfl rfl (fun k _ => renL_length _ _) fun k j v hk hj hr => ?_⟩
    show RelV _ _ _ _ (nth (renL sel (u.row k)) j) v
    rw [nth_renL _ _ _ hj]
    exact hr.sel hz R.len hb (amongL_nth (obsAmong_get h2 i u hu2 k hk) j hj)

theorem pickPl_away {pl : List Pl} {sel : List Nat} (hb : inB pl.length sel = true) {b : Nat} (h : away pl b) : away (pickPl pl sel) b := fun l q e => by
  have hlt : l < sel.length := by rw [← pickPl_length hb]; exact ltp_of_some e
  rw [pickPl_get hb l (sel[l]) (List.getElem?_eq_getElem hlt)] at e
  exact h _ q e
/-- The result, with these objects alone, in this order. -/
def KeptSel (sel : List Nat) (R : D → List Ob → Prop) (d : D) (h : List Ob) : Prop := d.among sel = true ∧ inB h.length sel = true ∧ obsAmong sel (pickObs h sel) ∧ R (d.ren sel) ((pickObs h sel).map (Ob.ren sel))
/-- The list begins 0, 1, .. up to m. -/
def startsB : Nat → Nat → List Nat → Bool
  | 0, _, _ => true
  | _ + 1, _, [] => false
  | m + 1, i, k :: r => Nat.beq k i && startsB m (i + 1) r
theorem startsB_ok : ∀ {m i : Nat} {sel : List Nat}, startsB m i sel = true → ∀ l, l < m → sel[l]? = some (i + l)
  | 0, _, _, _, l, hl => by omega
  | m + 1, i, [], h, _, _ => by cases h
  | m + 1, i, k :: r, h, l, hl => by
    simp only [startsB, Bool.and_eq_true] at h
    obtain rfl := Nat.eq_of_beq_eq_true h.1
    cases l with
    | zero => simp
    | succ l => rw [List.getElem?_cons_succ, startsB_ok h.2 l (by omega)]; congr 1; omega
theorem MFn.sel {P : Program} {f : FuncId} {F : List Ob} {args : List D} {R : D → List Ob → Prop} (sel : List Nat) (hd : nodupB sel = true) (hs : startsB F.length 0 sel = true) (h : MFn P f F args (KeptSel sel R)) : MFn P f F args R := fun Z base w pl vs h1 h2 h3 hl hc =>
  (h Z base w pl vs h1 h2 h3 hl hc).mono fun _ _ ⟨v, d, hh, pl', k1, ⟨a1, a2, a3, a4⟩, k3, k4, k5, k6⟩ => ⟨v, d.ren sel, _, pickPl pl' sel, k1, a4, k3.sel (fun _ h => h.1) a2 hd a3, k4.sel (fun _ h => h.1) k3.len a2 a1,
    k5.keep (Nat.le_refl _) ⟨fun _ hb => pickPl_away (by rw [k3.len]; exact a2) hb, fun l o p hl ho hp => by
      have e := startsB_ok hs l hl
      rw [Nat.zero_add] at e
      exact ⟨o.ren sel, by rw [List.getElem?_map, pickObs_get a2 l l e, ho]; rfl, by rw [pickPl_get (by rw [k3.len]; exact a2) l l e, hp], rfl, rfl, rfl⟩⟩, k6⟩
theorem AFn_hxs (sel : List Nat) (hd : nodupB sel = true) {P : Program} {X : Cx} (hX : CxOk P X) {f : FuncId} {fn : Func} {c : Code} (n : Nat) (hf : P.funcs[f]? = some fn) (hb : fn.body = some c) {args : List D} {R : D → List Ob → Prop} {nt : Nat} {rs : Array ResultVar} (hnt : fn.ntmps = nt) (hrs : fn.results = rs) (hn : Nat.ble args.length nt = true)
    (h : ∀ (base : Nat) (w : World), base ≤ w.heap.size → hx P base ⟨w, [], []⟩ (Post X.L rs.toList (KeptSel sel R)) X nt n [.code c] ⟨initFr args 0, []⟩) : AFn P f args R :=
  MFn.sel sel hd rfl (AFn_hx hX n hf hb hnt hrs hn h)
theorem MFn_hxs (sel : List Nat) (hd : nodupB sel = true) {P : Program} {X : Cx} (hX : CxOk P X) {f : FuncId} {fn : Func} {c : Code} (n : Nat) (hf : P.funcs[f]? = some fn) (hb : fn.body = some c) {F : List Ob} (hs : startsB F.length 0 sel = true) {args : List D} {R : D → List Ob → Prop} {nt : Nat} {rs : Array ResultVar} (hnt : fn.ntmps = nt) (hrs : fn.results = rs) (hn : Nat.ble args.length nt = true)
    (h : ∀ (base : Nat) (w : World) (pl : List Pl), base ≤ w.heap.size → hx P base ⟨w, F, pl⟩ (Post X.L rs.toList (KeptSel sel R)) X nt n [.code c] ⟨initFr args 0, F⟩) : MFn P f F args R :=
  MFn.sel sel hd hs (MFn_hx hX n hf hb hnt hrs hn h)
attribute [go_sem] KeptSel pos D.ren renL D.among amongL Ob.ren pickObs inB obsAmong memB

/-! A call with objects lent. -/
mutual
def D.idx (φ : Nat → Nat) : D → D
  | .ref l g off len => .ref (φ l) g off len
  | .ptr l g i j => .ptr (φ l) g i j
  | .mref l g => .mref (φ l) g
  | .clo f nf cs => .clo f nf (idxL φ cs)
  | .agg cs => .agg (idxL φ cs)
  | .tup cs => .tup (idxL φ cs)
  | d => d
def idxL (φ : Nat → Nat) : List D → List D
  | [] => []
  | c :: cs => c.idx φ :: idxL φ cs
end
theorem idxL_length (φ : Nat → Nat) : ∀ cs : List D, (idxL φ cs).length = cs.length
  | [] => rfl
  | _ :: cs => by simp [idxL, idxL_length φ cs]
theorem nth_idxL (φ : Nat → Nat) : ∀ (cs : List D) (i : Nat), i < cs.length → nth (idxL φ cs) i = (nth cs i).idx φ
  | [], i, h => by simp at h
  | c :: cs, 0, _ => by simp [idxL, nth]
  | c :: cs, i + 1, h => by
    have := nth_idxL φ cs i (by simpa using h)
    simpa [idxL, nth] using this
def Ob.idx (φ : Nat → Nat) (o : Ob) : Ob := ⟨o.kd, o.gen, o.sz, o.n, fun i => idxL φ (o.row i)⟩
theorem RelV.idx {Z Z' : Nat → Prop} {h h' : List Ob} {pl pl' : List Pl} {w : World} (φ : Nat → Nat) (hf : ∀ b, free Z pl b → free Z' pl' b)
    (hob : ∀ (l : Nat) (o : Ob) (p : Pl), h[l]? = some o → pl[l]? = some p → ∃ o', h'[φ l]? = some o' ∧ pl'[φ l]? = some p ∧ o'.gen = o.gen ∧ o'.sz = o.sz ∧ o'.kd.ty = o.kd.ty) {d : D} {v : Value} (r : RelV Z h pl w d v) : RelV Z' h' pl' w (d.idx φ) v := by
  have hcl : ∀ (d : D) (v : Value), Cl (free Z pl) w d v → RelV Z' h' pl' w (d.idx φ) v := by
    intro d v hc
    have hc2 := hc.mono (N' := free Z' pl') (w' := w) (fun b hb _ => ⟨hf b hb, rfl⟩)
    clear hc
    induction hc2 with
    | raw v => exact .cl _ _ (.raw v)
    | undef v => exact .cl _ _ (.undef v)
    | nil a => exact .cl _ _ (.nil a)
    | imm sz n row a cap b o vs ha hl hs hc hr ih => exact .cl _ _ (.imm sz n row a cap b o vs ha hl hs hc hr)
    | ip cells b o vs hc hr ih => exact .cl _ _ (.ip cells b o vs hc hr)
    | clo f nf cs vs hl hr ih => exact .clo f nf _ vs (by rw [idxL_length]; exact hl) (fun i hi => by rw [idxL_length] at hi; rw [nth_idxL _ _ _ hi]; exact ih i hi)
    | agg cs vs hl hr ih => exact .agg _ vs (by rw [idxL_length]; exact hl) (fun i hi => by rw [idxL_length] at hi; rw [nth_idxL _ _ _ hi]; exact ih i hi)
    | tup cs vs hl hr ih => exact .tup _ vs (by rw [idxL_length]; exact hl) (fun i hi => by rw [idxL_length] at hi; rw [nth_idxL _ _ _ hi]; exact ih i hi)
  induction r with
  | cl d v hc => exact hcl d v hc
  | ref l g off len o p a cap ho hp hk hg hs =>
    obtain ⟨o', h1, h2, h3, h4, h5⟩ := hob l o p ho hp
    exact .ref _ g off len o' p a cap h1 h2 (by rw [h5]; exact hk) (by rw [h3]; exact hg) (by rw [h3, h4]; exact hs)
  | ptr l g i j o p a ho hp hk hg hs =>
    obtain ⟨o', h1, h2, h3, h4, h5⟩ := hob l o p ho hp
    exact .ptr _ g i j o' p a h1 h2 (by rw [h5]; exact hk) (by rw [h3]; exact hg) (by rw [h3, h4]; exact hs)
  | mref l g o p b ho hp hk hg hs =>
    obtain ⟨o', h1, h2, h3, h4, h5⟩ := hob l o p ho hp
    exact .mref _ g o' p b h1 h2 (by rw [h5]; exact hk) (by rw [h3]; exact hg) (by rw [h3]; exact hs)
  | clo f nf cs vs hl hr ih => exact .clo f nf _ vs (by rw [idxL_length]; exact hl) (fun i hi => by rw [idxL_length] at hi; rw [nth_idxL _ _ _ hi]; exact ih i hi)
  | agg cs vs hl hr ih => exact .agg _ vs (by rw [idxL_length]; exact hl) (fun i hi => by rw [idxL_length] at hi; rw [nth_idxL _ _ _ hi]; exact ih i hi)
  | tup cs vs hl hr ih => exact .tup _ vs (by rw [idxL_length]; exact hl) (fun i hi => by rw [idxL_length] at hi; rw [nth_idxL _ _ _ hi]; exact ih i hi)

/-- The callee's numbers, as the caller's. -/
def backN (n : Nat) : List Nat → Nat → Nat
  | [], i => n + i
  | k :: _, 0 => k
  | _ :: r, i + 1 => backN n r i
def putBack {α : Type} (h : List α) : List Nat → List α → List α
  | [], xs => h ++ xs
  | k :: r, x :: xs => putBack (h.set k x) r xs
  | _ :: _, [] => h
theorem backN_lt {n : Nat} : ∀ {sel : List Nat} {i l : Nat}, sel[i]? = some l → backN n sel i = l
  | [], i, l, h => by simp at h
  | k :: r, 0, l, h => by simp at h; simp [backN, h]
  | k :: r, i + 1, l, h => by simp at h; simp [backN, backN_lt h]
theorem backN_ge {n : Nat} : ∀ {sel : List Nat} {i : Nat}, backN n sel (sel.length + i) = n + i
  | [], i => by simp [backN]
  | k :: r, i => by
    rw [show (k :: r).length + i = (r.length + i) + 1 by simp; omega]
    simp only [backN]; exact backN_ge
theorem putBack_get {α : Type} : ∀ {sel : List Nat} {h xs : List α}, inB h.length sel = true → nodupB sel = true → sel.length ≤ xs.length → ∀ (i : Nat), i < xs.length → (putBack h sel xs)[backN h.length sel i]? = xs[i]?
  | [], h, xs, _, _, _, i, hi => by
    simp only [putBack, backN]
    rw [List.getElem?_append_right (by omega)]; congr 1; omega
  | k :: r, h, [], _, _, hl, i, hi => by simp at hi
  | k :: r, h, x :: xs, hb, hd, hl, i, hi => by
    simp only [inB, Bool.and_eq_true, Nat.blt_eq] at hb
    simp only [nodupB, Bool.and_eq_true, Bool.not_eq_true'] at hd
    simp only [putBack]
    have hlen : (h.set k x).length = h.length := by simp
    cases i with
    | zero =>
      have hk : k ∉ r := fun hm => by rw [memB_iff.2 hm] at hd; cases hd.1
      have key : ∀ (r : List Nat) (h' xs : List α), k ∉ r → k < h'.length → (putBack h' r xs)[k]? = h'[k]? := by
        intro r
        induction r with
        | nil => intro h' xs _ hlt; simp only [putBack]; rw [List.getElem?_append_left hlt]
        | cons j r ih =>
          intro h' xs hm hlt
          cases xs with
          | nil => rfl
          | cons y ys =>
            simp only [putBack]
            rw [ih (h'.set j y) ys (fun hh => hm (List.mem_cons_of_mem _ hh)) (by simpa using hlt), List.getElem?_set_ne (fun e => hm (by rw [e]; exact List.mem_cons_self))]
      simp only [backN]
      rw [key r (h.set k x) xs hk (by simpa using hb.1)]
      simp [hb.1]
    | succ i =>
      simp only [backN]
      rw [← hlen]
      exact putBack_get (by rw [hlen]; exact hb.2) hd.2 (by simpa using hl) i (by simpa using hi)
theorem putBack_other {α : Type} : ∀ {sel : List Nat} {h xs : List α} {l : Nat}, l < h.length → l ∉ sel → (putBack h sel xs)[l]? = h[l]?
  | [], h, xs, l, hl, _ => by simp only [putBack]; rw [List.getElem?_append_left hl]
  | k :: r, h, [], l, hl, _ => rfl
  | k :: r, h, x :: xs, l, hl, hm => by
    simp only [putBack]
    rw [putBack_other (by simpa using hl) (fun hh => hm (List.mem_cons_of_mem _ hh)), List.getElem?_set_ne (fun e => hm (by rw [e]; exact List.mem_cons_self))]
theorem putBack_length {α : Type} : ∀ {sel : List Nat} {h xs : List α}, sel.length ≤ xs.length → (putBack h sel xs).length = h.length + (xs.length - sel.length)
  | [], h, xs, _ => by simp [putBack]
  | k :: r, h, [], hl => by simp at hl
  | k :: r, h, x :: xs, hl => by
    simp only [putBack]
    rw [putBack_length (by simpa using hl)]; simp
/-- Each place is one of the callee's, or one of the caller's that was not lent. -/
theorem putBack_cases {α : Type} {sel : List Nat} {h xs : List α} (hb : inB h.length sel = true) (hl : sel.length ≤ xs.length) {l : Nat} (h1 : l < h.length + (xs.length - sel.length)) :
    (∃ i, i < xs.length ∧ l = backN h.length sel i) ∨ (l < h.length ∧ l ∉ sel) := by
  by_cases hlt : l < h.length
  · by_cases hm : l ∈ sel
    · obtain ⟨i, hi, e⟩ := List.getElem_of_mem hm
      exact .inl ⟨i, by omega, (backN_lt (by rw [List.getElem?_eq_getElem hi, e])).symm⟩
    · exact .inr ⟨hlt, hm⟩
  · refine .inl ⟨sel.length + (l - h.length), by omega, ?_⟩
    rw [backN_ge]; omega
section
variable {P : Program} {base nt : Nat} {w0 : Start} {Q : Exit → St → Prop}
def backObs (h : List Ob) (sel : List Nat) (h' : List Ob) : List Ob := putBack h sel (h'.map (Ob.idx (backN h.length sel)))

/-- What a call with objects lent leaves. -/
theorem foot_join {Z : Nat → Prop} {s : St} {pl : List Pl} {w w' : World} {sel : List Nat} (R : RelO Z base s.h pl w) (hbase : base ≤ w.heap.size) (hz : ∀ b, w.heap.size ≤ b → Z b) (hb : inB s.h.length sel = true) (hd : nodupB sel = true)
    {h' : List Ob} {pl' : List Pl} {d : D} {v : Value} {F : List Ob} (hF : F.length = sel.length) (hFk : ∀ (i : Nat) (o u : Ob), F[i]? = some o → (∃ l, sel[i]? = some l ∧ s.h[l]? = some u) → o.gen = u.gen ∧ o.sz = u.sz ∧ o.kd.ty = u.kd.ty)
    (O' : RelO (fun b => Z b ∧ ∀ l q, pl[l]? = some (some (b, q)) → l ∈ sel) base h' pl' w') (V' : RelV (fun b => Z b ∧ ∀ l q, pl[l]? = some (some (b, q)) → l ∈ sel) h' pl' w' d v)
    (T : Tr F (pickPl pl sel) w h' pl' w') (B : Below base w w') :
    Tr s.h pl w (backObs s.h sel h') (putBack pl sel pl') w' ∧ RelO Z base (backObs s.h sel h') (putBack pl sel pl') w' ∧ RelV Z (backObs s.h sel h') (putBack pl sel pl') w' (d.idx (backN s.h.length sel)) v := by
  have hbp : inB pl.length sel = true := by rw [R.len]; exact hb
  have hpl' : pl'.length = h'.length := O'.len
  -- the callee keeps what it was lent
  have hkeep : ∀ (i l : Nat), sel[i]? = some l → ∃ u p o' p', s.h[l]? = some u ∧ pl[l]? = some p ∧ h'[i]? = some o' ∧ pl'[i]? = some p' ∧ u.gen ≤ o'.gen ∧ o'.kd.ty = u.kd.ty ∧ (o'.gen = u.gen → o'.sz = u.sz ∧ p' = p) := by
    intro i l e
    have hi : i < sel.length := (List.getElem?_eq_some_iff.1 e).1
    have hl : l < s.h.length := inB_ok hb l (List.mem_of_getElem? e)
    have e1 : F[i]? = some (F[i]'(by omega)) := List.getElem?_eq_getElem _
    have e2 : s.h[l]? = some s.h[l] := List.getElem?_eq_getElem hl
    have hl2 : l < pl.length := by rw [R.len]; exact hl
    have e3 : pl[l]? = some pl[l] := List.getElem?_eq_getElem hl2
    obtain ⟨k1, k2, k3⟩ := hFk i _ _ e1 ⟨l, e, e2⟩
    obtain ⟨o', p', t1, t2, t3, t4, t5⟩ := T.obj i _ pl[l] e1 (by rw [pickPl_get hbp i l e, e3])
    exact ⟨_, _, o', p', e2, e3, t1, t2, by omega, by rw [t4, k3], fun x => by obtain ⟨y, z⟩ := t5 (by omega); exact ⟨by rw [y, k2], z⟩⟩
  have hsl : sel.length ≤ h'.length := by
    rcases Nat.eq_zero_or_pos sel.length with h0 | h0
    · omega
    · obtain ⟨_, _, o', _, _, _, h3, _⟩ := hkeep (sel.length - 1) _ (List.getElem?_eq_getElem (by omega))
      have := lt_of_some h3; omega
  have hslp : sel.length ≤ pl'.length := by omega
  have hN : s.h.length = pl.length := R.len.symm
  have getP : ∀ i, i < pl'.length → (putBack pl sel pl')[backN s.h.length sel i]? = pl'[i]? := fun i hi => by rw [hN]; exact putBack_get hbp hd hslp i hi
  have getH : ∀ i, i < h'.length → (backObs s.h sel h')[backN s.h.length sel i]? = (h'[i]?).map (Ob.idx (backN s.h.length sel)) := fun i hi => by
    unfold backObs
    rw [putBack_get hb hd (by simpa using hsl) i (by simpa using hi), List.getElem?_map]
  -- the blocks of what was not lent
  have other : ∀ (l b q : Nat), l ∉ sel → pl[l]? = some (some (b, q)) → away pl' b ∧ w'.heap[b]? = w.heap[b]? := fun l b q hm e => by
    refine T.old b (fun i q' e' => ?_) (R.lt e).1
    have hi : i < sel.length := by rw [← pickPl_length hbp]; exact ltp_of_some e'
    have e2 : sel[i]? = some sel[i] := List.getElem?_eq_getElem hi
    rw [pickPl_get hbp i _ e2] at e'
    have := R.inj _ _ _ _ _ e e'
    exact hm (by rw [this]; exact List.getElem_mem hi)
  have casesP : ∀ (l : Nat) (p : Pl), (putBack pl sel pl')[l]? = some p → (∃ i, i < pl'.length ∧ l = backN s.h.length sel i ∧ pl'[i]? = some p) ∨ (l < pl.length ∧ l ∉ sel ∧ pl[l]? = some p) := fun l p e => by
    have hlt := ltp_of_some e
    rw [putBack_length hslp] at hlt
    rcases putBack_cases hbp hslp hlt with ⟨i, hi, rfl⟩ | ⟨h1, h2⟩
    · rw [hN] at getP ⊢
      exact .inl ⟨i, hi, rfl, by rw [← getP i hi]; exact e⟩
    · exact .inr ⟨h1, h2, by rw [putBack_other h1 h2] at e; exact e⟩
  have hfree : ∀ b, free (fun b => Z b ∧ ∀ l q, pl[l]? = some (some (b, q)) → l ∈ sel) pl' b → free Z (putBack pl sel pl') b := fun b hf => ⟨hf.1.1, fun l q e => by
    rcases casesP l _ e with ⟨i, _, _, e2⟩ | ⟨_, h2, e2⟩
    · exact hf.2 i q e2
    · exact h2 (hf.1.2 l q e2)⟩
  have hob : ∀ (l : Nat) (o : Ob) (p : Pl), h'[l]? = some o → pl'[l]? = some p → ∃ o', (backObs s.h sel h')[backN s.h.length sel l]? = some o' ∧ (putBack pl sel pl')[backN s.h.length sel l]? = some p ∧ o'.gen = o.gen ∧ o'.sz = o.sz ∧ o'.kd.ty = o.kd.ty := fun l o p ho hp =>
    ⟨o.idx (backN s.h.length sel), by rw [getH l (lt_of_some ho), ho]; rfl, by rw [getP l (ltp_of_some hp), hp], rfl, rfl, rfl⟩
  have T2 : Tr s.h pl w (backObs s.h sel h') (putBack pl sel pl') w' := by
    refine ⟨fun b hbw hlt => ?_, fun l o p ho hp => ?_, fun l o o' b q ho ho' hg hp c el hc => ?_⟩
    · obtain ⟨h1, h2⟩ := T.old b (pickPl_away hbp hbw) hlt
      refine ⟨fun l q e => ?_, h2⟩
      rcases casesP l _ e with ⟨i, _, _, e2⟩ | ⟨_, _, e2⟩
      · exact h1 i q e2
      · exact hbw l q e2
    · by_cases hm : l ∈ sel
      · obtain ⟨i, hi, e⟩ := List.getElem_of_mem hm
        have e2 : sel[i]? = some l := by rw [List.getElem?_eq_getElem hi, e]
        obtain ⟨u, p1, o', p', k1, k2, k3, k4, k5, k6, k7⟩ := hkeep i l e2
        rw [ho] at k1; cases k1
        rw [hp] at k2; cases k2
        have hbk : backN s.h.length sel i = l := backN_lt e2
        refine ⟨o'.idx (backN s.h.length sel), p', by rw [← hbk, getH i (lt_of_some k3), k3]; rfl, by rw [← hbk, getP i (ltp_of_some k4), k4], k5, k6, k7⟩
      · exact ⟨o, p, by unfold backObs; rw [putBack_other (lt_of_some ho) hm]; exact ho, by rw [putBack_other (ltp_of_some hp) hm]; exact hp, Nat.le_refl _, rfl, fun _ => ⟨rfl, rfl⟩⟩
    · by_cases hm : l ∈ sel
      · obtain ⟨i, hi, e⟩ := List.getElem_of_mem hm
        have e2 : sel[i]? = some l := by rw [List.getElem?_eq_getElem hi, e]
        obtain ⟨u, p1, o1, p', k1, k2, k3, k4, k5, k6, k7⟩ := hkeep i l e2
        rw [ho] at k1; cases k1
        have hbk : backN s.h.length sel i = l := backN_lt e2
        rw [← hbk, getH i (lt_of_some k3), k3] at ho'
        cases ho'
        have e1 : F[i]? = some (F[i]'(by omega)) := List.getElem?_eq_getElem _
        obtain ⟨f1, f2, f3⟩ := hFk i _ _ e1 ⟨l, e2, ho⟩
        have hg : o1.gen = o.gen := hg
        exact T.shape i _ o1 b q e1 k3 (by omega) (by rw [pickPl_get hbp i l e2, hp]) c el hc
      · exact ⟨c, by rw [(other l b q hm hp).2]; exact hc, rfl⟩
  refine ⟨T2, ⟨?_, fun l l' b q q' e1 e2 => ?_, fun l o ho hp => ?_, fun l o b q ho hp => ?_⟩, V'.idx _ hfree hob⟩
  · unfold backObs
    rw [putBack_length hslp, putBack_length (by simpa using hsl)]; simp [R.len, hpl']
  · rcases casesP l _ e1 with ⟨i, hi, rfl, e3⟩ | ⟨h1, h2, e3⟩ <;> rcases casesP l' _ e2 with ⟨j, hj, rfl, e4⟩ | ⟨h3, h4, e4⟩
    · rw [O'.inj i j b q q' e3 e4]
    · exact absurd e3 ((other l' b q' h4 e4).1 i q)
    · exact absurd e4 ((other l b q h2 e3).1 j q')
    · exact R.inj l l' b q q' e3 e4
  · rcases casesP l _ hp with ⟨i, hi, rfl, e3⟩ | ⟨h1, h2, e3⟩
    · have hi' : i < h'.length := by omega
      rw [getH i hi', List.getElem?_eq_getElem hi'] at ho
      cases ho
      exact O'.noRow i h'[i] (List.getElem?_eq_getElem hi') e3
    · unfold backObs at ho
      rw [putBack_other (by omega) h2] at ho
      exact R.noRow l o ho e3
  · rcases casesP l _ hp with ⟨i, hi, rfl, e3⟩ | ⟨h1, h2, e3⟩
    · have hi' : i < h'.length := by omega
      rw [getH i hi', List.getElem?_eq_getElem hi'] at ho
      cases ho
      obtain ⟨g1, x⟩ := O'.at_ i _ b q (List.getElem?_eq_getElem hi') e3
      refine ⟨g1, x.to rfl rfl rfl rfl (fun k _ => idxL_length _ _) fun k j v hk hj hr => ?_⟩
      show RelV _ _ _ _ (nth (idxL _ (h'[i].row k)) j) v
      rw [nth_idxL _ _ _ hj]
      exact hr.idx _ hfree hob
    · unfold backObs at ho
      rw [putBack_other (by omega) h2] at ho
      obtain ⟨g1, x⟩ := R.at_ l o b q ho e3
      exact ⟨g1, x.to rfl rfl rfl (other l b q h2 e3).2 (fun _ _ => rfl) fun i j v _ _ hr => hr.tr T2⟩

/-- A call of a function that is lent objects of the caller's. -/
theorem callM_wp (hbase : base ≤ w0.w.heap.size) {o : Oper} {s : St} {x : Operand} {args : Array Operand} {tys : Array TypeId} {f : FuncId} {nf : Nat} {caps : List D} (hf : FnOk P f) (ho : o.op = .call ⟨.value x, args, tys⟩)
    (hx : calleeD (evalO s.fr x) = some (f, nf, caps)) (sel : List Nat) (hb : inB s.h.length sel = true) (hd : nodupB sel = true) (hobs : obsAmong sel (pickObs s.h sel)) (hargs : amongL sel (argsD nf caps (args.toList.map (evalO s.fr))) = true)
    {R : D → List Ob → Prop} (hF : MFn P f ((pickObs s.h sel).map (Ob.ren sel)) (renL sel (argsD nf caps (args.toList.map (evalO s.fr)))) R)
    (ht : okO nt o.dst = true) {Z : Nat → Prop} (z : ZOk w0 Z) (pl : List Pl) (a : Act) (w : World) (r : Rel Z base nt s pl a w) (b : Since Z base w0 s.h pl w) (Q' : Exit → Act → World → Prop) :
    o.wp P a w (fun a' w' => (sel = [] → Ext w w') ∧ ∃ d h pl', R d h ∧ Rel Z base nt ⟨putO s.fr o.dst (d.idx (backN s.h.length sel)), backObs s.h sel h⟩ pl' a' w' ∧ Since Z base w0 (backObs s.h sel h) pl' w' ∧ Tr s.h pl w (backObs s.h sel h) pl' w' ∧ ∃ v, a' = a.put o.dst v) Q' := by
  obtain ⟨vs, hv, hvl, hvr⟩ := callee_ok (r.eval x) hx
  have hsize : base ≤ w.heap.size := Nat.le_trans hbase b.1.size
  have hzw : ∀ b, w.heap.size ≤ b → Z b := b.2.2.new
  have hbp : inB pl.length sel = true := by rw [r.o.len]; exact hb
  have hzz : ∀ b, free Z pl b → (Z b ∧ ∀ l q, pl[l]? = some (some (b, q)) → l ∈ sel) := fun k hk => ⟨hk.1, fun l q e => absurd e (hk.2 l q)⟩
  obtain ⟨q1, hall⟩ := argsD_rel (r := fun d v => RelV Z s.h pl w d v) (nf := nf) hvl hvr (us := args.toList.map a.eval) (args := args.toList.map (evalO s.fr)) (by simp) (fun i hi => by
    have hi' : i < args.toList.length := by simpa using hi
    simp only [nth, nthV, List.getD_eq_getElem?_getD, List.getElem?_map]
    rw [List.getElem?_eq_getElem hi']
    exact r.eval _)
  have hc := hF (fun b => Z b ∧ ∀ l q, pl[l]? = some (some (b, q)) → l ∈ sel) base w (pickPl pl sel) (argsD nf vs (args.toList.map a.eval)) hsize
    (fun k hk => ⟨hzw k hk, fun l q e => by have := (r.o.lt e).1; omega⟩) (r.o.sel hzz hb hd hobs) (by rw [renL_length]; exact q1) (fun i hi => by
      rw [renL_length] at hi
      rw [nth_renL _ _ _ hi]
      exact (hall i hi).sel hzz r.o.len hb (amongL_nth hargs i hi))
  unfold Oper.wp
  rw [run_callop hf ho hv w]
  simp only [Oper.upon_enter]
  refine hc.mono fun e w' he => ?_
  obtain ⟨v, d, h', pl', rfl, hR, hO, hV, hT, hB⟩ := he
  obtain ⟨j1, j2, j3⟩ := foot_join r.o hsize hzw hb hd (F := (pickObs s.h sel).map (Ob.ren sel)) (by rw [List.length_map, pickObs_length hb]) (fun i o u e ⟨l, e1, e2⟩ => by
    rw [List.getElem?_map, pickObs_get hb i l e1, e2] at e
    cases e
    exact ⟨rfl, rfl, rfl⟩) hO hV hT hB
  refine ⟨fun e => by subst e; exact fun k hk => (hT.old k (fun l q e => by simp [pickPl] at e) hk).2, d, h', putBack pl sel pl', hR, ?_, b.step j1 hB, j1, v, rfl⟩
  cases hd : o.dst with
  | none => exact r.to' j1 j2 v
  | some t => rw [hd] at ht; exact r.to j1 j2 (okO_lt ht) j3
/-- The rule: a call with objects lent ('sel': which). -/
theorem kont_callM (hbase : base ≤ w0.w.heap.size) (sel : List Nat) {k : List Item} {dst : Option Nat} {ty : TypeId} {pos : String} {after : Array Edge} {gd : Option (Nat × Bool)} {r : List (Oper × G)} {s : St} {x : Operand} {args : Array Operand} {tys : Array TypeId} {f : FuncId} {nf : Nat} {caps : List D} (hf : FnOk P f)
    (hx : calleeD (evalO s.fr x) = some (f, nf, caps)) {F : List Ob} {cs : List D} (hok : inB s.h.length sel = true ∧ nodupB sel = true ∧ obsAmong sel (pickObs s.h sel) ∧ amongL sel (argsD nf caps (args.toList.map (evalO s.fr))) = true ∧ argsEq (renL sel (argsD nf caps (args.toList.map (evalO s.fr)))) cs ∧ obsLe ((pickObs s.h sel).map (Ob.ren sel)) F)
    {R : D → List Ob → Prop} (hF : MFn P f F cs R) (ht : okO nt dst = true) (hk : ∀ d h, R d h → kont P base nt w0 Q (.ops r :: k) .normal ⟨putO s.fr dst (d.idx (backN s.h.length sel)), backObs s.h sel h⟩) :
    kont P base nt w0 Q (.ops ((⟨dst, .call ⟨.value x, args, tys⟩, ty, pos, after, gd⟩, none) :: r) :: k) .normal s := by
  simp only [kont] at hk ⊢
  obtain ⟨hb, hd, hobs, hargs, he, hle⟩ := hok
  intro Z z pl a w r b
  simp only [wpG, wantedG, if_true]
  have hF2 := hF.args he
  have hF3 : MFn P f ((pickObs s.h sel).map (Ob.ren sel)) (renL sel (argsD nf caps (args.toList.map (evalO s.fr)))) R := by
    intro Z base w pl vs h1 h2 h3 hl hc
    have hw := Wk.obs (m := F.length) (fr := []) hle
    obtain ⟨pl', r', K⟩ := hw Z base 0 pl { tmps := #[], defers := [] } w ⟨rfl, rfl, fun t => .cl _ _ (.undef _), h3⟩
    obtain ⟨e1, e2⟩ := obsLe_get hle
    refine (hF2 Z base w pl vs h1 h2 ?_ hl (fun i hi => (hc i hi).obs hle)).mono fun e w' ⟨v, d, h, pl', k1, k2, k3, k4, k5, k6⟩ => ⟨v, d, h, pl', k1, k2, k3, k4, ?_, k6⟩
    · refine ⟨by rw [e1]; exact h3.len, h3.inj, fun l o' ho hp => ?_, fun l o' b q ho hp => ?_⟩
      · obtain ⟨o, g3, g4⟩ := e2 l o' ho
        rw [g4.2.2.1]; exact h3.noRow l o g3 hp
      · obtain ⟨o, g3, g4, g5, g6, g8, g7⟩ := e2 l o' ho
        obtain ⟨g1, x⟩ := h3.at_ l o b q g3 hp
        exact ⟨fun hr => g1 (by rw [← g8.2, hr]), x.to g8.1 g5 g6 rfl (fun i hi => by rw [g7 i hi]) fun i j v hi _ hr => by rw [g7 i hi]; exact hr.obs hle⟩
    · have key : ∀ (l : Nat) (o : Ob), ((pickObs s.h sel).map (Ob.ren sel))[l]? = some o → ∃ o', F[l]? = some o' ∧ obLe o o' := fun l o e => by
        have : l < F.length := by rw [e1]; exact lt_of_some e
        obtain ⟨o2, g3, g4⟩ := e2 l _ (List.getElem?_eq_getElem this)
        rw [e] at g3; cases g3
        exact ⟨_, List.getElem?_eq_getElem this, g4⟩
      refine ⟨k5.old, fun l o p ho hp => ?_, fun l o o'' b q ho ho'' hg hp c el hc => ?_⟩
      · obtain ⟨o1, g1, g2, g3, g4, g5, g6⟩ := key l o ho
        obtain ⟨o', p', t1, t2, t3, t4, t5⟩ := k5.obj l o1 p g1 hp
        exact ⟨o', p', t1, t2, by omega, by rw [t4, g5.1], fun x => by obtain ⟨y1, y2⟩ := t5 (by omega); exact ⟨by rw [y1, g3], y2⟩⟩
      · obtain ⟨o1, g1, g2, g3, g4, g5, g6⟩ := key l o ho
        exact k5.shape l o1 o'' b q g1 ho'' (by omega) hp c el hc
  exact Oper.wp_mono (fun a' w' ⟨_, d, h, pl', hR, r', b', _⟩ => hk d h hR Z z pl' a' w' r' b') (callM_wp hbase hf rfl hx sel hb hd hobs hargs hF3 ht z pl a w r b _)
/-- A call with nothing lent within a region that draws: the result may be a closed value. -/
theorem AX_callC (hbase : base ≤ w0.w.heap.size) {K : St → Prop} {dst : Option Nat} {ty : TypeId} {pos : String} {after : Array Edge} {gd : Option (Nat × Bool)} {r : List (Bool × Oper × G)} {s : St} {x : Operand} {args : Array Operand} {tys : Array TypeId} {f : FuncId} {nf : Nat} {caps : List D} (hf : FnOk P f)
    (hx : calleeD (evalO s.fr x) = some (f, nf, caps)) {cs : List D} (hok : amongL [] (argsD nf caps (args.toList.map (evalO s.fr))) = true ∧ argsEq (renL [] (argsD nf caps (args.toList.map (evalO s.fr)))) cs) {R : D → List Ob → Prop} (hF : AFn P f cs R)
    (ht : okO nt dst = true) (hk : ∀ d h, R d h → AX P base nt w0 K r ⟨putO s.fr dst (d.idx (backN s.h.length [])), backObs s.h [] h⟩) :
    AX P base nt w0 K ((false, ⟨dst, .call ⟨.value x, args, tys⟩, ty, pos, after, gd⟩, none) :: r) s := by
  simp only [AX, AXo, lateT]
  intro Z z pl a w rr b
  exact Oper.wp_mono (fun a' w' ⟨he, d, h, pl', hR, r', b', T, v, e⟩ => ⟨fun _ => he rfl, _, _, pl', v, hk d h hR, r', b', T, e⟩) (callM_wp hbase hf rfl hx [] rfl rfl trivial hok.1 (hF.args hok.2) ht z pl a w rr b _)
end
attribute [go_sem] D.idx idxL Ob.idx backN putBack backObs nodupB startsB
end Go.Fg
