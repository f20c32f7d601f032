/- Walks of the functions that the statement reaches. No conditions: contracts and laws. -/
import Derived.Test.YtiiaocpkjmiacaaGreatFgTell
import Derived.Test.YtiiaocpkjmiacaaGreatProg
import Derived.KernelRfl
namespace Go.Fg
set_option linter.unusedSimpArgs false
set_option linter.unusedVariables false
open Go.RowKit (Below)
variable {Z : Nat → Prop}
/-- Only the kinds differ. -/
theorem RelV.kds {h h' : List Ob} {pl : List Pl} {w : World} (key : ∀ (l : Nat) (o : Ob), h[l]? = some o → ∃ o', h'[l]? = some o' ∧ o'.gen = o.gen ∧ o'.sz = o.sz ∧ o'.kd.ty = o.kd.ty) {d : D} {v : Value} (r : RelV Z h pl w d v) : RelV Z h' pl w d v := by
  induction r with
  | cl d v hc => exact .cl d v hc
  | ref l g off len o p a cap ho hp hk hg hs =>
    obtain ⟨o', h3, h4, h5, h6⟩ := key l o ho
    exact .ref l g off len o' p a cap h3 hp (by rw [h6]; exact hk) (by rw [h4]; exact hg) (fun e => by rw [h5]; exact hs (by rw [e, h4]))
  | ptr l g i j o p a ho hp hk hg hs =>
    obtain ⟨o', h3, h4, h5, h6⟩ := key l o ho
    exact .ptr l g i j o' p a h3 hp (by rw [h6]; exact hk) (by rw [h4]; exact hg) (fun e => by rw [h5]; exact hs (by rw [e, h4]))
  | mref l g o p b ho hp hk hg hs =>
    obtain ⟨o', h3, h4, h5, h6⟩ := key l o ho
    exact .mref l g o' p b h3 hp (by rw [h6]; exact hk) (by rw [h4]; exact hg) (fun e => hs (by rw [e, h4]))
  | clo f nf cs vs hl hr ih => exact .clo f nf cs vs hl ih
  | agg cs vs hl hr ih => exact .agg cs vs hl ih
  | tup cs vs hl hr ih => exact .tup cs vs hl ih
theorem ro_get {h : List Ob} {l : Nat} {o : Ob} (e : h[l]? = some o) : (h.map Ob.ro)[l]? = some o.ro := by rw [List.getElem?_map, e]; rfl
theorem ro_get' {h : List Ob} {l : Nat} {o : Ob} (e : (h.map Ob.ro)[l]? = some o) : ∃ o', h[l]? = some o' ∧ o = o'.ro := by
  rw [List.getElem?_map, Option.map_eq_some_iff] at e
  obtain ⟨o', h1, h2⟩ := e
  exact ⟨o', h1, h2.symm⟩
@[go_sem] theorem ro_mk (k : Kd) (g z n : Nat) (r : Nat → List D) : Ob.ro ⟨k, g, z, n, r⟩ = ⟨k.toRo, g, z, n, r⟩ := rfl
theorem ro_ro (o : Ob) : o.ro.ro = o.ro := by
  obtain ⟨k, g, z, n, r⟩ := o
  cases k <;> rfl
/-- Called with the objects h lent to be read alone, function f returns what meets R: a value, and objects of its own. -/
def RFn (P : Program) (f : FuncId) (h : List Ob) (args : List D) (R : D → List Ob → Prop) : Prop :=
  MFn P f (h.map Ob.ro) args fun d h' => ∃ g, h' = h.map Ob.ro ++ g ∧ R d g
theorem RFn.mono {P : Program} {f : FuncId} {h : List Ob} {args : List D} {R R' : D → List Ob → Prop} (hh : RFn P f h args R) (hr : ∀ d g, R d g → R' d g) : RFn P f h args R' := MFn.mono hh fun _ _ ⟨g, h1, h2⟩ => ⟨g, h1, hr _ _ h2⟩
section
variable {P : Program} {base nt : Nat} {w0 : Start} {Q : Exit → St → Prop}
theorem callH_wp (hbase : base ≤ w0.w.heap.size) {o : Oper} {s : St} {x : Operand} {args : Array Operand} {tys : Array TypeId} {f : FuncId} {nf : Nat} {caps : List D} (hf : FnOk P f) (ho : o.op = .call ⟨.value x, args, tys⟩)
    (hx : calleeD (evalO s.fr x) = some (f, nf, caps)) {R : D → List Ob → Prop} (hF : MFn P f s.h (argsD nf caps (args.toList.map (evalO s.fr))) R)
    (ht : okO nt o.dst = true) (pl : List Pl) (a : Act) (w : World) (r : Rel Z base nt s pl a w) (b : Since Z base w0 s.h pl w) (Q' : Exit → Act → World → Prop) :
    o.wp P a w (fun a' w' => ∃ d h pl', R d h ∧ Rel Z base nt ⟨putO s.fr o.dst d, h⟩ pl' a' w' ∧ Since Z base w0 h pl' w' ∧ Tr s.h pl w h pl' w' ∧ ∃ v, a' = a.put o.dst v) Q' := by
  obtain ⟨vs, hv, hvl, hvr⟩ := callee_ok (r.eval x) hx
  have hsize : base ≤ w.heap.size := Nat.le_trans hbase b.1.size
  obtain ⟨q1, hall⟩ := argsD_rel (r := fun d v => RelV Z s.h pl w d v) (nf := nf) hvl hvr (us := args.toList.map a.eval) (args := args.toList.map (evalO s.fr)) (by simp) (fun i hi => by
    have hi' : i < args.toList.length := by simpa using hi
    simp only [nth, nthV, List.getD_eq_getElem?_getD, List.getElem?_map]
    rw [List.getElem?_eq_getElem hi']
    exact r.eval _)
  have hc := hF Z base w pl (argsD nf vs (args.toList.map a.eval)) hsize b.2.2.new r.o q1 hall
  unfold Oper.wp
  rw [run_callop hf ho hv w]
  simp only [Oper.upon_enter]
  refine hc.mono fun e w' he => ?_
  obtain ⟨v, d, h', pl', rfl, hR, hO, hV, hT, hB⟩ := he
  refine ⟨d, h', pl', hR, ?_, b.step hT hB, hT, v, rfl⟩
  cases hd : o.dst with
  | none => exact r.to' hT hO v
  | some t => rw [hd] at ht; exact r.to hT hO (okO_lt ht) hV
/-- The rule: a call that is lent the whole heap. -/
theorem kont_callH (hbase : base ≤ w0.w.heap.size) {k : List Item} {dst : Option Nat} {ty : TypeId} {pos : String} {after : Array Edge} {gd : Option (Nat × Bool)} {r : List (Oper × G)} {s : St} {x : Operand} {args : Array Operand} {tys : Array TypeId} {f : FuncId} {nf : Nat} {caps : List D} (hf : FnOk P f)
    (hx : calleeD (evalO s.fr x) = some (f, nf, caps)) {cs : List D} (he : argsEq (argsD nf caps (args.toList.map (evalO s.fr))) cs)
    {R : D → List Ob → Prop} (hF : MFn P f s.h cs R) (ht : okO nt dst = true) (hk : ∀ d h, R d h → kont P base nt w0 Q (.ops r :: k) .normal ⟨putO s.fr dst d, h⟩) :
    kont P base nt w0 Q (.ops ((⟨dst, .call ⟨.value x, args, tys⟩, ty, pos, after, gd⟩, none) :: r) :: k) .normal s := by
  simp only [kont] at hk ⊢
  intro Z z pl a w rr b
  simp only [wpG, wantedG, if_true]
  exact Oper.wp_mono (fun a' w' ⟨d, h, pl', hR, r', b', _⟩ => hk d h hR Z z pl' a' w' r' b') (callH_wp hbase hf rfl hx (hF.args he) ht pl a w rr b _)
theorem callR_wp (hbase : base ≤ w0.w.heap.size) {o : Oper} {s : St} {x : Operand} {args : Array Operand} {tys : Array TypeId} {f : FuncId} {nf : Nat} {caps : List D} (hf : FnOk P f) (ho : o.op = .call ⟨.value x, args, tys⟩)
    (hx : calleeD (evalO s.fr x) = some (f, nf, caps)) {R : D → List Ob → Prop} (hF : RFn P f s.h (argsD nf caps (args.toList.map (evalO s.fr))) R)
    (ht : okO nt o.dst = true) (pl : List Pl) (a : Act) (w : World) (r : Rel Z base nt s pl a w) (b : Since Z base w0 s.h pl w) (Q' : Exit → Act → World → Prop) :
    o.wp P a w (fun a' w' => Ext w w' ∧ ∃ d g pl', R d g ∧ Rel Z base nt ⟨putO s.fr o.dst d, s.h ++ g⟩ pl' a' w' ∧ Since Z base w0 (s.h ++ g) pl' w' ∧ Tr s.h pl w (s.h ++ g) pl' w' ∧ ∃ v, a' = a.put o.dst v) Q' := by
  obtain ⟨vs, hv, hvl, hvr⟩ := callee_ok (r.eval x) hx
  have hsize : base ≤ w.heap.size := Nat.le_trans hbase b.1.size
  obtain ⟨q1, hall⟩ := argsD_rel (r := fun d v => RelV Z s.h pl w d v) (nf := nf) hvl hvr (us := args.toList.map a.eval) (args := args.toList.map (evalO s.fr)) (by simp) (fun i hi => by
    have hi' : i < args.toList.length := by simpa using hi
    simp only [nth, nthV, List.getD_eq_getElem?_getD, List.getElem?_map]
    rw [List.getElem?_eq_getElem hi']
    exact r.eval _)
  have k1 : ∀ (l : Nat) (o : Ob), s.h[l]? = some o → ∃ o', (s.h.map Ob.ro)[l]? = some o' ∧ o'.gen = o.gen ∧ o'.sz = o.sz ∧ o'.kd.ty = o.kd.ty := fun l o e => ⟨o.ro, ro_get e, rfl, rfl, Kd.toRo_ty _⟩
  have hO0 : RelO Z w.heap.size (s.h.map Ob.ro) pl w := by
    refine ⟨by simp [r.o.len], r.o.inj, fun l o ho hp => ?_, fun l o b q ho hp => ?_⟩
    · obtain ⟨o', h1, rfl⟩ := ro_get' ho
      exact r.o.noRow l o' h1 hp
    · obtain ⟨o', h1, rfl⟩ := ro_get' ho
      obtain ⟨_, x⟩ := r.o.at_ l o' b q h1 hp
      exact ⟨fun hr => (by rw [ro_kd, Kd.toRo_ro] at hr; cases hr), x.to (Kd.toRo_ty _) rfl rfl rfl (fun _ _ => rfl) fun i j v _ _ hr => hr.kds k1⟩
  have hc := hF Z w.heap.size w pl (argsD nf vs (args.toList.map a.eval)) (Nat.le_refl _) b.2.2.new hO0 q1 (fun i hi => (hall i hi).kds k1)
  unfold Oper.wp
  rw [run_callop hf ho hv w]
  simp only [Oper.upon_enter]
  refine hc.mono fun e w' he => ?_
  obtain ⟨v, d, _, pl', rfl, ⟨g, rfl, hR⟩, hO, hV, hT, hB⟩ := he
  have hpl : ∀ (l : Nat) (p : Pl), l < s.h.length → pl'[l]? = some p → pl[l]? = some p := fun l p hl e => by
    have hl2 : l < pl.length := by rw [r.o.len]; exact hl
    obtain ⟨o', p', e1, e2, _, _, e3⟩ := hT.obj l _ _ (ro_get (List.getElem?_eq_getElem hl)) (List.getElem?_eq_getElem hl2)
    rw [List.getElem?_append_left (by simpa using hl), ro_get (List.getElem?_eq_getElem hl)] at e1
    cases e1
    obtain ⟨_, e4⟩ := e3 rfl
    rw [e] at e2; cases e2
    rw [e4]; exact List.getElem?_eq_getElem hl2
  have hpl' : ∀ (l : Nat) (p : Pl), l < s.h.length → pl[l]? = some p → pl'[l]? = some p := fun l p hl e => by
    have hl2 : l < pl'.length := by have := hO.len; simp at this; omega
    have h1 := hpl l _ hl (List.getElem?_eq_getElem hl2)
    rw [e] at h1; cases h1
    exact List.getElem?_eq_getElem hl2
  have T : Tr s.h pl w (s.h ++ g) pl' w' := by
    refine ⟨hT.old, fun l o p ho hp => ⟨o, p, by rw [List.getElem?_append_left (lt_of_some ho)]; exact ho, hpl' l p (lt_of_some ho) hp, Nat.le_refl _, rfl, fun _ => ⟨rfl, rfl⟩⟩, fun l o o' b q ho ho' hg hp c el hc => ⟨c, ?_, rfl⟩⟩
    rw [hB.block b (r.o.lt hp).1]; exact hc
  have k2 : ∀ (l : Nat) (o : Ob), (s.h.map Ob.ro ++ g)[l]? = some o → ∃ o', (s.h ++ g)[l]? = some o' ∧ o'.gen = o.gen ∧ o'.sz = o.sz ∧ o'.kd.ty = o.kd.ty := fun l o e => by
    by_cases hl : l < s.h.length
    · rw [List.getElem?_append_left (by simpa using hl)] at e
      obtain ⟨o', h1, rfl⟩ := ro_get' e
      exact ⟨o', by rw [List.getElem?_append_left hl]; exact h1, rfl, rfl, (Kd.toRo_ty _).symm⟩
    · rw [List.getElem?_append_right (by simpa using hl)] at e
      exact ⟨o, by rw [List.getElem?_append_right (by omega)]; simpa using e, rfl, rfl, rfl⟩
  have hO2 : RelO Z base (s.h ++ g) pl' w' := by
    refine ⟨by have := hO.len; simpa using this, hO.inj, fun l o ho hp => ?_, fun l o b q ho hp => ?_⟩
    · by_cases hl : l < s.h.length
      · rw [List.getElem?_append_left hl] at ho
        exact r.o.noRow l o ho (hpl l _ hl hp)
      · refine hO.noRow l o ?_ hp
        rw [List.getElem?_append_right (by omega)] at ho
        rw [List.getElem?_append_right (by simpa using hl)]; simpa using ho
    · by_cases hl : l < s.h.length
      · rw [List.getElem?_append_left hl] at ho
        have hp0 := hpl l _ hl hp
        obtain ⟨g1, x⟩ := r.o.at_ l o b q ho hp0
        exact ⟨g1, x.to rfl rfl rfl (hB.block b (r.o.lt hp0).1) (fun _ _ => rfl) fun i j v _ _ hr => hr.tr T⟩
      · have e2 : (s.h.map Ob.ro ++ g)[l]? = some o := by
          rw [List.getElem?_append_right (by omega)] at ho
          rw [List.getElem?_append_right (by simpa using hl)]; simpa using ho
        obtain ⟨g1, x⟩ := hO.at_ l o b q e2 hp
        exact ⟨fun hr => Nat.le_trans hsize (g1 hr), x.to rfl rfl rfl rfl (fun _ _ => rfl) fun i j v _ _ hr => hr.kds k2⟩
  refine ⟨fun b hb => hB.block b hb, d, g, pl', hR, ?_, b.step T (hB.mono hsize), T, v, rfl⟩
  cases hd : o.dst with
  | none => exact r.to' T hO2 v
  | some t => rw [hd] at ht; exact r.to T hO2 (okO_lt ht) (hV.kds k2)
theorem RFn.args {f : FuncId} {h : List Ob} {cs' cs : List D} {R : D → List Ob → Prop} (hh : RFn P f h cs R) (e : argsEq cs' cs) : RFn P f h cs' R := MFn.args hh e
/-- The rule: a call that is lent the whole heap to be read. -/
theorem kont_callR (hbase : base ≤ w0.w.heap.size) {k : List Item} {dst : Option Nat} {ty : TypeId} {pos : String} {after : Array Edge} {gd : Option (Nat × Bool)} {r : List (Oper × G)} {s : St} {x : Operand} {args : Array Operand} {tys : Array TypeId} {f : FuncId} {nf : Nat} {caps : List D} (hf : FnOk P f)
    (hx : calleeD (evalO s.fr x) = some (f, nf, caps)) {cs : List D} (he : argsEq (argsD nf caps (args.toList.map (evalO s.fr))) cs)
    {R : D → List Ob → Prop} (hF : RFn P f s.h cs R) (ht : okO nt dst = true) (hk : ∀ d g, R d g → kont P base nt w0 Q (.ops r :: k) .normal ⟨putO s.fr dst d, s.h ++ g⟩) :
    kont P base nt w0 Q (.ops ((⟨dst, .call ⟨.value x, args, tys⟩, ty, pos, after, gd⟩, none) :: r) :: k) .normal s := by
  simp only [kont] at hk ⊢
  intro Z z pl a w rr b
  simp only [wpG, wantedG, if_true]
  exact Oper.wp_mono (fun a' w' ⟨_, d, h, pl', hR, r', b', _⟩ => hk d h hR Z z pl' a' w' r' b') (callR_wp hbase hf rfl hx (hF.args he) ht pl a w rr b _)
theorem AX_callR (hbase : base ≤ w0.w.heap.size) {K : St → Prop} {dst : Option Nat} {ty : TypeId} {pos : String} {after : Array Edge} {gd : Option (Nat × Bool)} {r : List (Bool × Oper × G)} {s : St} {x : Operand} {args : Array Operand} {tys : Array TypeId} {f : FuncId} {nf : Nat} {caps : List D} (hf : FnOk P f)
    (hx : calleeD (evalO s.fr x) = some (f, nf, caps)) {cs : List D} (he : argsEq (argsD nf caps (args.toList.map (evalO s.fr))) cs) {R : D → List Ob → Prop} (hF : RFn P f s.h cs R)
    (ht : okO nt dst = true) (hk : ∀ d g, R d g → AX P base nt w0 K r ⟨putO s.fr dst d, s.h ++ g⟩) :
    AX P base nt w0 K ((false, ⟨dst, .call ⟨.value x, args, tys⟩, ty, pos, after, gd⟩, none) :: r) s := by
  simp only [AX, AXo, lateT]
  intro Z z pl a w rr b
  exact Oper.wp_mono (fun a' w' ⟨hE, d, g, pl', hR, r', b', T, v, e⟩ => ⟨fun _ => hE, _, _, pl', v, hk d g hR, r', b', T, e⟩) (callR_wp hbase hf rfl hx (hF.args he) ht pl a w rr b _)
/-- A step of an iterator over a map. -/
theorem kont_next (hbase : base ≤ w0.w.heap.size) {k : List Item} {dst : Option Nat} {ty : TypeId} {pos : String} {after : Array Edge} {gd : Option (Nat × Bool)} {r : List (Oper × G)} {s : St} {x : Operand} {li l c : Nat} {es : List Ent} {seen : List Nat} {q : IntKind}
    (hx : evalO s.fr x = .mref li 0) (hit : s.h[li]? = some (iterOb l c c seen)) {kd : Kd} (hkd : kd.ty = 1) (hob : s.h[l]? = some (mapObK kd q c es)) (ht : okO nt dst = true)
    (h0 : (∀ e ∈ es, e.b ∈ seen) → kont P base nt w0 Q (.ops r :: k) .normal ⟨putO s.fr dst (.tup [.raw (.bool false)]), s.h⟩)
    (h1 : ∀ e ∈ es, e.b ∉ seen → kont P base nt w0 Q (.ops r :: k) .normal ⟨putO s.fr dst (.tup [.raw (.bool true), .raw (.int q e.k), e.v]), s.h.set li (iterOb l c c (seen ++ [e.b]))⟩) :
    kont P base nt w0 Q (.ops ((⟨dst, .next x false, ty, pos, after, gd⟩, none) :: r) :: k) .normal s := by
  simp only [kont] at h0 h1 ⊢
  intro Z z pl a w rr b
  have hsize : base ≤ w.heap.size := Nat.le_trans hbase b.1.size
  simp only [wpG, wantedG, if_true]
  unfold Oper.wp
  rcases next_run (o := ⟨dst, .next x false, ty, pos, after, gd⟩) rfl rr hsize hx hit hkd hob with ⟨g1, g2⟩ | ⟨e, he, g1, v, w', g2, T, O, V, B⟩
  · rw [g2]
    simp only [Oper.upon_value]
    refine h0 g1 Z z pl _ w ?_ b
    have hv : RelV Z s.h pl w (.tup [.raw (.bool false)]) (.tuple #[.bool false]) := .tup _ [.bool false] rfl fun i hi => match i, hi with
      | 0, _ => .cl _ _ (.raw _)
    cases dst with
    | none => exact rr.to' (Tr.refl _ _ _) rr.o _
    | some t => exact rr.to (Tr.refl _ _ _) rr.o (okO_lt ht) hv
  · rw [g2]
    simp only [Oper.upon_value]
    refine h1 e he g1 Z z pl _ w' ?_ (b.step T B)
    cases dst with
    | none => exact rr.to' T O _
    | some t => exact rr.to T O (okO_lt ht) V
end
/-- The same, of a function that hands back what leans on no object of its own: nothing of it is kept. -/
def RFn0 (P : Program) (f : FuncId) (h : List Ob) (args : List D) (R : D → Prop) : Prop := RFn P f h args fun d _ => d.upto h.length = true ∧ R d
theorem RFn0.mono {P : Program} {f : FuncId} {h : List Ob} {args : List D} {R R' : D → Prop} (hh : RFn0 P f h args R) (hr : ∀ d, R d → R' d) : RFn0 P f h args R' := RFn.mono hh fun _ _ h => ⟨h.1, hr _ h.2⟩
theorem RFn0.args {P : Program} {f : FuncId} {h : List Ob} {cs' cs : List D} {R : D → Prop} (hh : RFn0 P f h cs R) (e : argsEq cs' cs) : RFn0 P f h cs' R := RFn.args hh e
section
variable {P : Program} {base nt : Nat} {w0 : Start} {Q : Exit → St → Prop}
theorem callR0_wp (hbase : base ≤ w0.w.heap.size) {o : Oper} {s : St} {x : Operand} {args : Array Operand} {tys : Array TypeId} {f : FuncId} {nf : Nat} {caps : List D} (hf : FnOk P f) (ho : o.op = .call ⟨.value x, args, tys⟩)
    (hx : calleeD (evalO s.fr x) = some (f, nf, caps)) {R : D → Prop} (hF : RFn0 P f s.h (argsD nf caps (args.toList.map (evalO s.fr))) R)
    (ht : okO nt o.dst = true) (pl : List Pl) (a : Act) (w : World) (r : Rel Z base nt s pl a w) (b : Since Z base w0 s.h pl w) (Q' : Exit → Act → World → Prop) :
    o.wp P a w (fun a' w' => Ext w w' ∧ ∃ d, R d ∧ Rel Z base nt ⟨putO s.fr o.dst d, s.h⟩ pl a' w' ∧ Since Z base w0 s.h pl w' ∧ Tr s.h pl w s.h pl w' ∧ ∃ v, a' = a.put o.dst v) Q' := by
  obtain ⟨vs, hv, hvl, hvr⟩ := callee_ok (r.eval x) hx
  have hsize : base ≤ w.heap.size := Nat.le_trans hbase b.1.size
  obtain ⟨q1, hall⟩ := argsD_rel (r := fun d v => RelV Z s.h pl w d v) (nf := nf) hvl hvr (us := args.toList.map a.eval) (args := args.toList.map (evalO s.fr)) (by simp) (fun i hi => by
    have hi' : i < args.toList.length := by simpa using hi
    simp only [nth, nthV, List.getD_eq_getElem?_getD, List.getElem?_map]
    rw [List.getElem?_eq_getElem hi']
    exact r.eval _)
  have k1 : ∀ (l : Nat) (o : Ob), s.h[l]? = some o → ∃ o', (s.h.map Ob.ro)[l]? = some o' ∧ o'.gen = o.gen ∧ o'.sz = o.sz ∧ o'.kd.ty = o.kd.ty := fun l o e => ⟨o.ro, ro_get e, rfl, rfl, Kd.toRo_ty _⟩
  have k3 : ∀ (g : List Ob) (l : Nat) (o : Ob), (s.h.map Ob.ro ++ g)[l]? = some o → ∃ o', (s.h ++ g)[l]? = some o' ∧ o'.gen = o.gen ∧ o'.sz = o.sz ∧ o'.kd.ty = o.kd.ty := fun g l o e => by
    by_cases hl : l < s.h.length
    · rw [List.getElem?_append_left (by simpa using hl)] at e
      obtain ⟨o', h1, rfl⟩ := ro_get' e
      exact ⟨o', by rw [List.getElem?_append_left hl]; exact h1, rfl, rfl, (Kd.toRo_ty _).symm⟩
    · rw [List.getElem?_append_right (by simpa using hl)] at e
      exact ⟨o, by rw [List.getElem?_append_right (by omega)]; simpa using e, rfl, rfl, rfl⟩
  have hO0 : RelO Z w.heap.size (s.h.map Ob.ro) pl w := by
    refine ⟨by simp [r.o.len], r.o.inj, fun l o ho hp => ?_, fun l o b q ho hp => ?_⟩
    · obtain ⟨o', h1, rfl⟩ := ro_get' ho
      exact r.o.noRow l o' h1 hp
    · obtain ⟨o', h1, rfl⟩ := ro_get' ho
      obtain ⟨_, x⟩ := r.o.at_ l o' b q h1 hp
      exact ⟨fun hr => (by rw [ro_kd, Kd.toRo_ro] at hr; cases hr), x.to (Kd.toRo_ty _) rfl rfl rfl (fun _ _ => rfl) fun i j v _ _ hr => hr.kds k1⟩
  have hc := hF Z w.heap.size w pl (argsD nf vs (args.toList.map a.eval)) (Nat.le_refl _) b.2.2.new hO0 q1 (fun i hi => (hall i hi).kds k1)
  unfold Oper.wp
  rw [run_callop hf ho hv w]
  simp only [Oper.upon_enter]
  refine hc.mono fun e w' he => ?_
  obtain ⟨v, d, _, pl', rfl, ⟨g, rfl, hu, hR⟩, hO, hV, hT, hB⟩ := he
  have hE : Ext w w' := fun b hb => hB.block b hb
  have T0 : Tr s.h pl w s.h pl w' := Tr.ext r.o hE
  have hfin : RelV Z s.h pl w' d v := by
    have h1 := hV.take hu
    have e1 : (s.h.map Ob.ro ++ g).take s.h.length = s.h.map Ob.ro := List.take_left' (by simp)
    have e2 : pl'.take s.h.length = pl := by
      apply List.ext_getElem?
      intro i
      rw [List.getElem?_take]
      by_cases hi : i < s.h.length
      · rw [if_pos hi]
        have hi2 : i < pl.length := by rw [r.o.len]; exact hi
        obtain ⟨o', p', m1, m2, _, _, m3⟩ := hT.obj i _ _ (ro_get (List.getElem?_eq_getElem hi)) (List.getElem?_eq_getElem hi2)
        rw [List.getElem?_append_left (by simpa using hi), ro_get (List.getElem?_eq_getElem hi)] at m1
        cases m1
        obtain ⟨_, rfl⟩ := m3 rfl
        rw [m2, List.getElem?_eq_getElem hi2]
      · rw [if_neg hi, List.getElem?_eq_none (by rw [r.o.len]; omega)]
    rw [e1, e2] at h1
    exact h1.kds fun l o e => by
      obtain ⟨o', h1, rfl⟩ := ro_get' e
      exact ⟨o', h1, rfl, rfl, (Kd.toRo_ty _).symm⟩
  refine ⟨hE, d, hR, ?_, b.step T0 (hB.mono hsize), T0, v, rfl⟩
  have r' := r.ext hE
  cases hd : o.dst with
  | none => exact r'.to' (Tr.refl _ _ _) r'.o v
  | some t => rw [hd] at ht; exact r'.to (Tr.refl _ _ _) r'.o (okO_lt ht) hfin
theorem kont_callR0 (hbase : base ≤ w0.w.heap.size) {k : List Item} {dst : Option Nat} {ty : TypeId} {pos : String} {after : Array Edge} {gd : Option (Nat × Bool)} {r : List (Oper × G)} {s : St} {x : Operand} {args : Array Operand} {tys : Array TypeId} {f : FuncId} {nf : Nat} {caps : List D} (hf : FnOk P f)
    (hx : calleeD (evalO s.fr x) = some (f, nf, caps)) {cs : List D} (he : argsEq (argsD nf caps (args.toList.map (evalO s.fr))) cs)
    {R : D → Prop} (hF : RFn0 P f s.h cs R) (ht : okO nt dst = true) (hk : ∀ d, R d → kont P base nt w0 Q (.ops r :: k) .normal ⟨putO s.fr dst d, s.h⟩) :
    kont P base nt w0 Q (.ops ((⟨dst, .call ⟨.value x, args, tys⟩, ty, pos, after, gd⟩, none) :: r) :: k) .normal s := by
  simp only [kont] at hk ⊢
  intro Z z pl a w rr b
  simp only [wpG, wantedG, if_true]
  exact Oper.wp_mono (fun a' w' ⟨_, d, hR, r', b', _⟩ => hk d hR Z z pl a' w' r' b') (callR0_wp hbase hf rfl hx (hF.args he) ht pl a w rr b _)
theorem AX_callR0 (hbase : base ≤ w0.w.heap.size) {K : St → Prop} {dst : Option Nat} {ty : TypeId} {pos : String} {after : Array Edge} {gd : Option (Nat × Bool)} {r : List (Bool × Oper × G)} {s : St} {x : Operand} {args : Array Operand} {tys : Array TypeId} {f : FuncId} {nf : Nat} {caps : List D} (hf : FnOk P f)
    (hx : calleeD (evalO s.fr x) = some (f, nf, caps)) {cs : List D} (he : argsEq (argsD nf caps (args.toList.map (evalO s.fr))) cs) {R : D → Prop} (hF : RFn0 P f s.h cs R)
    (ht : okO nt dst = true) (hk : ∀ d, R d → AX P base nt w0 K r ⟨putO s.fr dst d, s.h⟩) :
    AX P base nt w0 K ((false, ⟨dst, .call ⟨.value x, args, tys⟩, ty, pos, after, gd⟩, none) :: r) s := by
  simp only [AX, AXo, lateT]
  intro Z z pl a w rr b
  exact Oper.wp_mono (fun a' w' ⟨hE, d, hR, r', b', T, v, e⟩ => ⟨fun _ => hE, _, _, pl, v, hk d hR, r', b', T, e⟩) (callR0_wp hbase hf rfl hx (hF.args he) ht pl a w rr b _)
end
/-! Heaps that are not told object by object. -/
theorem hlt {h : List Ob} {l : Nat} {o : Ob} (e : h[l]? = some o) : l < h.length := lt_of_some e
theorem hgetA {h t : List Ob} {l : Nat} (hl : l < h.length) : (h ++ t)[l]? = h[l]? := List.getElem?_append_left hl
theorem hgetL {h t : List Ob} {n : Nat} (hn : h.length = n) : (h ++ t)[n]? = t[0]? := by rw [← hn, List.getElem?_append_right (Nat.le_refl _), Nat.sub_self]
theorem hgetLk {h t : List Ob} {n k : Nat} (hn : h.length = n) : (h ++ t)[n + k]? = t[k]? := by rw [← hn, List.getElem?_append_right (by omega), Nat.add_sub_cancel_left]
theorem hsetA {h t : List Ob} {l : Nat} {o : Ob} (hl : l < h.length) : (h ++ t).set l o = h.set l o ++ t := List.set_append_left _ _ hl
theorem hsetL {h t : List Ob} {n : Nat} {o : Ob} (hn : h.length = n) : (h ++ t).set n o = h ++ t.set 0 o := by rw [← hn, List.set_append_right _ _ (Nat.le_refl _), Nat.sub_self]
theorem hsetLk {h t : List Ob} {n k : Nat} {o : Ob} (hn : h.length = n) : (h ++ t).set (n + k) o = h ++ t.set k o := by rw [← hn, List.set_append_right _ _ (by omega), Nat.add_sub_cancel_left]
theorem hgetS {h : List Ob} {l : Nat} {o : Ob} (hl : l < h.length) : (h.set l o)[l]? = some o := List.getElem?_set_self hl
theorem hgetN {h : List Ob} {l m : Nat} {o : Ob} (hn : l ≠ m) : (h.set l o)[m]? = h[m]? := List.getElem?_set_ne hn
/-- The walk of a function that is lent a heap to be read. -/
theorem RFn0_hx {P : Program} {X : Cx} (hX : CxOk P X) {f : FuncId} {fn : Func} {c : Code} (n : Nat) (hf : P.funcs[f]? = some fn) (hb : fn.body = some c) {h : List Ob} {args : List D} {R : D → Prop} {nt : Nat} {rs : Array ResultVar} (hnt : fn.ntmps = nt) (hrs : fn.results = rs) (hn : Nat.ble args.length nt = true)
    (hh : ∀ (base : Nat) (w : World) (pl : List Pl) (F : List Ob), F = h.map Ob.ro → F.length = h.length → base ≤ w.heap.size → hx P base ⟨w, F, pl⟩ (Post X.L rs.toList fun d h' => ∃ g, h' = F ++ g ∧ d.upto F.length = true ∧ R d) X nt n [.code c] ⟨initFr args 0, F⟩) : RFn0 P f h args R :=
  (MFn_hx hX n hf hb hnt hrs hn fun base w pl hb => hh base w pl _ rfl (by simp) hb).mono fun d h' ⟨g, h1, h2, h3⟩ => ⟨g, h1, by simpa using h2, h3⟩
theorem RFn_hx {P : Program} {X : Cx} (hX : CxOk P X) {f : FuncId} {fn : Func} {c : Code} (n : Nat) (hf : P.funcs[f]? = some fn) (hb : fn.body = some c) {h : List Ob} {args : List D} {R : D → List Ob → Prop} {nt : Nat} {rs : Array ResultVar} (hnt : fn.ntmps = nt) (hrs : fn.results = rs) (hn : Nat.ble args.length nt = true)
    (hh : ∀ (base : Nat) (w : World) (pl : List Pl) (F : List Ob), F = h.map Ob.ro → F.length = h.length → base ≤ w.heap.size → hx P base ⟨w, F, pl⟩ (Post X.L rs.toList fun d h' => ∃ g, h' = F ++ g ∧ R d g) X nt n [.code c] ⟨initFr args 0, F⟩) : RFn P f h args R :=
  MFn_hx hX n hf hb hnt hrs hn fun base w pl hb => hh base w pl _ rfl (by simp) hb
attribute [go_sem] plook pmlen pmake pupd pdel prange entsOf_map entsOf_mapK clockOf_map clockOf_mapK IsMap_map clockOf_ro entsOf_ro IsMap_ro mapOb_kd mapOb_n mapOb_gen ro_kd ro_n ro_gen ro_ro zeroD
end Go.Fg
namespace Go.Fg.X
set_option linter.unusedSimpArgs false
set_option linter.unusedVariables false
open Go.Proofs Go.Fg
set_option maxRecDepth 100000

theorem ty1 : TyOk Tryz.prog 1 ⟨.fn, 1, 8, [.nilFunc]⟩ := ⟨by kernel_rfl, by kernel_rfl, by kernel_rfl⟩
theorem ty2 : TyOk Tryz.prog 2 ⟨.int .i64, 1, 8, [.int .i64 0]⟩ := ⟨by kernel_rfl, by kernel_rfl, by kernel_rfl⟩
theorem ty3 : TyOk Tryz.prog 3 ⟨.int .i64, 1, 8, [.int .i64 0]⟩ := ⟨by kernel_rfl, by kernel_rfl, by kernel_rfl⟩
theorem ty4 : TyOk Tryz.prog 4 ⟨.bool, 1, 1, [.bool false]⟩ := ⟨by kernel_rfl, by kernel_rfl, by kernel_rfl⟩
theorem ty5 : TyOk Tryz.prog 5 ⟨.int .u8, 1, 1, [.int .u8 0]⟩ := ⟨by kernel_rfl, by kernel_rfl, by kernel_rfl⟩
theorem ty9 : TyOk Tryz.prog 9 ⟨.str, 1, 16, [.string ByteArray.empty]⟩ := ⟨by kernel_rfl, by kernel_rfl, by kernel_rfl⟩
theorem ty12 : TyOk Tryz.prog 12 ⟨.int .u64, 1, 8, [.int .u64 0]⟩ := ⟨by kernel_rfl, by kernel_rfl, by kernel_rfl⟩
theorem ty17 : TyOk Tryz.prog 17 ⟨.ptr 227, 1, 8, [.pointer none]⟩ := ⟨by kernel_rfl, by kernel_rfl, by kernel_rfl⟩
theorem ty20 : TyOk Tryz.prog 20 ⟨.iface, 1, 16, [.nilIface]⟩ := ⟨by kernel_rfl, by kernel_rfl, by kernel_rfl⟩
theorem ty21 : TyOk Tryz.prog 21 ⟨.int .i32, 1, 4, [.int .i32 0]⟩ := ⟨by kernel_rfl, by kernel_rfl, by kernel_rfl⟩
theorem ty22 : TyOk Tryz.prog 22 ⟨.struct [(0, 3), (1, 3)], 2, 16, [.int .i64 0, .int .i64 0]⟩ := ⟨by kernel_rfl, by kernel_rfl, by kernel_rfl⟩
theorem ty23 : TyOk Tryz.prog 23 ⟨.struct [(0, 3), (1, 3)], 2, 16, [.int .i64 0, .int .i64 0]⟩ := ⟨by kernel_rfl, by kernel_rfl, by kernel_rfl⟩
theorem ty24 : TyOk Tryz.prog 24 ⟨.slice 37, 1, 24, [.slice none 0 0]⟩ := ⟨by kernel_rfl, by kernel_rfl, by kernel_rfl⟩
theorem ty25 : TyOk Tryz.prog 25 ⟨.struct [(0, 23), (2, 24)], 3, 40, [.int .i64 0, .int .i64 0, .slice none 0 0]⟩ := ⟨by kernel_rfl, by kernel_rfl, by kernel_rfl⟩
theorem ty26 : TyOk Tryz.prog 26 ⟨.struct [(0, 23), (2, 24)], 3, 40, [.int .i64 0, .int .i64 0, .slice none 0 0]⟩ := ⟨by kernel_rfl, by kernel_rfl, by kernel_rfl⟩
theorem ty27 : TyOk Tryz.prog 27 ⟨.slice 52, 1, 24, [.slice none 0 0]⟩ := ⟨by kernel_rfl, by kernel_rfl, by kernel_rfl⟩
theorem ty28 : TyOk Tryz.prog 28 ⟨.slice 44, 1, 24, [.slice none 0 0]⟩ := ⟨by kernel_rfl, by kernel_rfl, by kernel_rfl⟩
theorem ty29 : TyOk Tryz.prog 29 ⟨.slice 229, 1, 24, [.slice none 0 0]⟩ := ⟨by kernel_rfl, by kernel_rfl, by kernel_rfl⟩
theorem ty30 : TyOk Tryz.prog 30 ⟨.int .u64, 1, 8, [.int .u64 0]⟩ := ⟨by kernel_rfl, by kernel_rfl, by kernel_rfl⟩
theorem ty31 : TyOk Tryz.prog 31 ⟨.int .u16, 1, 2, [.int .u16 0]⟩ := ⟨by kernel_rfl, by kernel_rfl, by kernel_rfl⟩
theorem ty32 : TyOk Tryz.prog 32 ⟨.array 4 31, 4, 8, [.int .u16 0, .int .u16 0, .int .u16 0, .int .u16 0]⟩ := ⟨by kernel_rfl, by kernel_rfl, by kernel_rfl⟩
theorem ty33 : TyOk Tryz.prog 33 ⟨.array 4 31, 4, 8, [.int .u16 0, .int .u16 0, .int .u16 0, .int .u16 0]⟩ := ⟨by kernel_rfl, by kernel_rfl, by kernel_rfl⟩
theorem ty34 : TyOk Tryz.prog 34 ⟨.struct [(0, 30), (1, 3), (2, 33)], 6, 24, [.int .u64 0, .int .i64 0, .int .u16 0, .int .u16 0, .int .u16 0, .int .u16 0]⟩ := ⟨by kernel_rfl, by kernel_rfl, by kernel_rfl⟩
theorem ty35 : TyOk Tryz.prog 35 ⟨.struct [(0, 30), (1, 3), (2, 33)], 6, 24, [.int .u64 0, .int .i64 0, .int .u16 0, .int .u16 0, .int .u16 0, .int .u16 0]⟩ := ⟨by kernel_rfl, by kernel_rfl, by kernel_rfl⟩
theorem ty36 : TyOk Tryz.prog 36 ⟨.struct [(0, 3), (1, 28), (2, 29), (3, 35), (9, 30)], 10, 88, [.int .i64 0, .slice none 0 0, .slice none 0 0, .int .u64 0, .int .i64 0, .int .u16 0, .int .u16 0, .int .u16 0, .int .u16 0, .int .u64 0]⟩ := ⟨by kernel_rfl, by kernel_rfl, by kernel_rfl⟩
theorem ty37 : TyOk Tryz.prog 37 ⟨.struct [(0, 3), (1, 28), (2, 29), (3, 35), (9, 30)], 10, 88, [.int .i64 0, .slice none 0 0, .slice none 0 0, .int .u64 0, .int .i64 0, .int .u16 0, .int .u16 0, .int .u16 0, .int .u16 0, .int .u64 0]⟩ := ⟨by kernel_rfl, by kernel_rfl, by kernel_rfl⟩
theorem ty38 : TyOk Tryz.prog 38 ⟨.fn, 1, 8, [.nilFunc]⟩ := ⟨by kernel_rfl, by kernel_rfl, by kernel_rfl⟩
theorem ty39 : TyOk Tryz.prog 39 ⟨.struct [(0, 30), (1, 30), (2, 30)], 3, 24, [.int .u64 0, .int .u64 0, .int .u64 0]⟩ := ⟨by kernel_rfl, by kernel_rfl, by kernel_rfl⟩
theorem ty40 : TyOk Tryz.prog 40 ⟨.struct [(0, 30), (1, 30), (2, 30)], 3, 24, [.int .u64 0, .int .u64 0, .int .u64 0]⟩ := ⟨by kernel_rfl, by kernel_rfl, by kernel_rfl⟩
theorem ty41 : TyOk Tryz.prog 41 ⟨.struct [(0, 3), (1, 3), (2, 4), (3, 40), (6, 40), (9, 40), (12, 3), (13, 3)], 14, 112, [.int .i64 0, .int .i64 0, .bool false, .int .u64 0, .int .u64 0, .int .u64 0, .int .u64 0, .int .u64 0, .int .u64 0, .int .u64 0, .int .u64 0, .int .u64 0, .int .i64 0, .int .i64 0]⟩ := ⟨by kernel_rfl, by kernel_rfl, by kernel_rfl⟩
theorem ty42 : TyOk Tryz.prog 42 ⟨.struct [(0, 3), (1, 3), (2, 4), (3, 40), (6, 40), (9, 40), (12, 3), (13, 3)], 14, 112, [.int .i64 0, .int .i64 0, .bool false, .int .u64 0, .int .u64 0, .int .u64 0, .int .u64 0, .int .u64 0, .int .u64 0, .int .u64 0, .int .u64 0, .int .u64 0, .int .i64 0, .int .i64 0]⟩ := ⟨by kernel_rfl, by kernel_rfl, by kernel_rfl⟩
theorem ty43 : TyOk Tryz.prog 43 ⟨.struct [(0, 3), (1, 42)], 15, 120, [.int .i64 0, .int .i64 0, .int .i64 0, .bool false, .int .u64 0, .int .u64 0, .int .u64 0, .int .u64 0, .int .u64 0, .int .u64 0, .int .u64 0, .int .u64 0, .int .u64 0, .int .i64 0, .int .i64 0]⟩ := ⟨by kernel_rfl, by kernel_rfl, by kernel_rfl⟩
theorem ty44 : TyOk Tryz.prog 44 ⟨.struct [(0, 3), (1, 42)], 15, 120, [.int .i64 0, .int .i64 0, .int .i64 0, .bool false, .int .u64 0, .int .u64 0, .int .u64 0, .int .u64 0, .int .u64 0, .int .u64 0, .int .u64 0, .int .u64 0, .int .u64 0, .int .i64 0, .int .i64 0]⟩ := ⟨by kernel_rfl, by kernel_rfl, by kernel_rfl⟩
theorem ty45 : TyOk Tryz.prog 45 ⟨.int .i64, 1, 8, [.int .i64 0]⟩ := ⟨by kernel_rfl, by kernel_rfl, by kernel_rfl⟩
theorem ty47 : TyOk Tryz.prog 47 ⟨.fn, 1, 8, [.nilFunc]⟩ := ⟨by kernel_rfl, by kernel_rfl, by kernel_rfl⟩
theorem ty48 : TyOk Tryz.prog 48 ⟨.fn, 1, 8, [.nilFunc]⟩ := ⟨by kernel_rfl, by kernel_rfl, by kernel_rfl⟩
theorem ty49 : TyOk Tryz.prog 49 ⟨.fn, 1, 8, [.nilFunc]⟩ := ⟨by kernel_rfl, by kernel_rfl, by kernel_rfl⟩
theorem ty50 : TyOk Tryz.prog 50 ⟨.fn, 1, 8, [.nilFunc]⟩ := ⟨by kernel_rfl, by kernel_rfl, by kernel_rfl⟩
theorem ty51 : TyOk Tryz.prog 51 ⟨.struct [(0, 3), (1, 4), (2, 4), (3, 30), (4, 30), (5, 3), (6, 35)], 12, 64, [.int .i64 0, .bool false, .bool false, .int .u64 0, .int .u64 0, .int .i64 0, .int .u64 0, .int .i64 0, .int .u16 0, .int .u16 0, .int .u16 0, .int .u16 0]⟩ := ⟨by kernel_rfl, by kernel_rfl, by kernel_rfl⟩
theorem ty52 : TyOk Tryz.prog 52 ⟨.struct [(0, 3), (1, 4), (2, 4), (3, 30), (4, 30), (5, 3), (6, 35)], 12, 64, [.int .i64 0, .bool false, .bool false, .int .u64 0, .int .u64 0, .int .i64 0, .int .u64 0, .int .i64 0, .int .u16 0, .int .u16 0, .int .u16 0, .int .u16 0]⟩ := ⟨by kernel_rfl, by kernel_rfl, by kernel_rfl⟩
theorem ty53 : TyOk Tryz.prog 53 ⟨.fn, 1, 8, [.nilFunc]⟩ := ⟨by kernel_rfl, by kernel_rfl, by kernel_rfl⟩
theorem ty54 : TyOk Tryz.prog 54 ⟨.fn, 1, 8, [.nilFunc]⟩ := ⟨by kernel_rfl, by kernel_rfl, by kernel_rfl⟩
theorem ty55 : TyOk Tryz.prog 55 ⟨.ptr 91, 1, 8, [.pointer none]⟩ := ⟨by kernel_rfl, by kernel_rfl, by kernel_rfl⟩
theorem ty56 : TyOk Tryz.prog 56 ⟨.fn, 1, 8, [.nilFunc]⟩ := ⟨by kernel_rfl, by kernel_rfl, by kernel_rfl⟩
theorem ty57 : TyOk Tryz.prog 57 ⟨.slice 42, 1, 24, [.slice none 0 0]⟩ := ⟨by kernel_rfl, by kernel_rfl, by kernel_rfl⟩
theorem ty58 : TyOk Tryz.prog 58 ⟨.fn, 1, 8, [.nilFunc]⟩ := ⟨by kernel_rfl, by kernel_rfl, by kernel_rfl⟩
theorem ty59 : TyOk Tryz.prog 59 ⟨.fn, 1, 8, [.nilFunc]⟩ := ⟨by kernel_rfl, by kernel_rfl, by kernel_rfl⟩
theorem ty60 : TyOk Tryz.prog 60 ⟨.struct [(0, 57), (1, 3)], 2, 32, [.slice none 0 0, .int .i64 0]⟩ := ⟨by kernel_rfl, by kernel_rfl, by kernel_rfl⟩
theorem ty61 : TyOk Tryz.prog 61 ⟨.struct [(0, 57), (1, 3)], 2, 32, [.slice none 0 0, .int .i64 0]⟩ := ⟨by kernel_rfl, by kernel_rfl, by kernel_rfl⟩
theorem ty62 : TyOk Tryz.prog 62 ⟨.fn, 1, 8, [.nilFunc]⟩ := ⟨by kernel_rfl, by kernel_rfl, by kernel_rfl⟩
theorem ty63 : TyOk Tryz.prog 63 ⟨.slice 40, 1, 24, [.slice none 0 0]⟩ := ⟨by kernel_rfl, by kernel_rfl, by kernel_rfl⟩
theorem ty64 : TyOk Tryz.prog 64 ⟨.fn, 1, 8, [.nilFunc]⟩ := ⟨by kernel_rfl, by kernel_rfl, by kernel_rfl⟩
theorem ty65 : TyOk Tryz.prog 65 ⟨.fn, 1, 8, [.nilFunc]⟩ := ⟨by kernel_rfl, by kernel_rfl, by kernel_rfl⟩
theorem ty66 : TyOk Tryz.prog 66 ⟨.fn, 1, 8, [.nilFunc]⟩ := ⟨by kernel_rfl, by kernel_rfl, by kernel_rfl⟩
theorem ty67 : TyOk Tryz.prog 67 ⟨.fn, 1, 8, [.nilFunc]⟩ := ⟨by kernel_rfl, by kernel_rfl, by kernel_rfl⟩
theorem ty68 : TyOk Tryz.prog 68 ⟨.fn, 1, 8, [.nilFunc]⟩ := ⟨by kernel_rfl, by kernel_rfl, by kernel_rfl⟩
theorem ty69 : TyOk Tryz.prog 69 ⟨.fn, 1, 8, [.nilFunc]⟩ := ⟨by kernel_rfl, by kernel_rfl, by kernel_rfl⟩
theorem ty70 : TyOk Tryz.prog 70 ⟨.fn, 1, 8, [.nilFunc]⟩ := ⟨by kernel_rfl, by kernel_rfl, by kernel_rfl⟩
theorem ty71 : TyOk Tryz.prog 71 ⟨.struct [(0, 30), (1, 30)], 2, 16, [.int .u64 0, .int .u64 0]⟩ := ⟨by kernel_rfl, by kernel_rfl, by kernel_rfl⟩
theorem ty72 : TyOk Tryz.prog 72 ⟨.struct [(0, 30), (1, 30)], 2, 16, [.int .u64 0, .int .u64 0]⟩ := ⟨by kernel_rfl, by kernel_rfl, by kernel_rfl⟩
theorem ty73 : TyOk Tryz.prog 73 ⟨.fn, 1, 8, [.nilFunc]⟩ := ⟨by kernel_rfl, by kernel_rfl, by kernel_rfl⟩
theorem ty74 : TyOk Tryz.prog 74 ⟨.slice 3, 1, 24, [.slice none 0 0]⟩ := ⟨by kernel_rfl, by kernel_rfl, by kernel_rfl⟩
theorem ty75 : TyOk Tryz.prog 75 ⟨.struct [(0, 30), (1, 30), (2, 3), (3, 3), (4, 4)], 5, 40, [.int .u64 0, .int .u64 0, .int .i64 0, .int .i64 0, .bool false]⟩ := ⟨by kernel_rfl, by kernel_rfl, by kernel_rfl⟩
theorem ty76 : TyOk Tryz.prog 76 ⟨.struct [(0, 30), (1, 30), (2, 3), (3, 3), (4, 4)], 5, 40, [.int .u64 0, .int .u64 0, .int .i64 0, .int .i64 0, .bool false]⟩ := ⟨by kernel_rfl, by kernel_rfl, by kernel_rfl⟩
theorem ty77 : TyOk Tryz.prog 77 ⟨.fn, 1, 8, [.nilFunc]⟩ := ⟨by kernel_rfl, by kernel_rfl, by kernel_rfl⟩
theorem ty78 : TyOk Tryz.prog 78 ⟨.fn, 1, 8, [.nilFunc]⟩ := ⟨by kernel_rfl, by kernel_rfl, by kernel_rfl⟩
theorem ty79 : TyOk Tryz.prog 79 ⟨.slice 76, 1, 24, [.slice none 0 0]⟩ := ⟨by kernel_rfl, by kernel_rfl, by kernel_rfl⟩
theorem ty80 : TyOk Tryz.prog 80 ⟨.fn, 1, 8, [.nilFunc]⟩ := ⟨by kernel_rfl, by kernel_rfl, by kernel_rfl⟩
theorem ty81 : TyOk Tryz.prog 81 ⟨.fn, 1, 8, [.nilFunc]⟩ := ⟨by kernel_rfl, by kernel_rfl, by kernel_rfl⟩
theorem ty82 : TyOk Tryz.prog 82 ⟨.array 4 30, 4, 32, [.int .u64 0, .int .u64 0, .int .u64 0, .int .u64 0]⟩ := ⟨by kernel_rfl, by kernel_rfl, by kernel_rfl⟩
theorem ty83 : TyOk Tryz.prog 83 ⟨.array 4 30, 4, 32, [.int .u64 0, .int .u64 0, .int .u64 0, .int .u64 0]⟩ := ⟨by kernel_rfl, by kernel_rfl, by kernel_rfl⟩
theorem ty84 : TyOk Tryz.prog 84 ⟨.fn, 1, 8, [.nilFunc]⟩ := ⟨by kernel_rfl, by kernel_rfl, by kernel_rfl⟩
theorem ty85 : TyOk Tryz.prog 85 ⟨.slice 87, 1, 24, [.slice none 0 0]⟩ := ⟨by kernel_rfl, by kernel_rfl, by kernel_rfl⟩
theorem ty86 : TyOk Tryz.prog 86 ⟨.fn, 1, 8, [.nilFunc]⟩ := ⟨by kernel_rfl, by kernel_rfl, by kernel_rfl⟩
theorem ty87 : TyOk Tryz.prog 87 ⟨.struct [(0, 30), (1, 30), (2, 3), (3, 3), (4, 4)], 5, 40, [.int .u64 0, .int .u64 0, .int .i64 0, .int .i64 0, .bool false]⟩ := ⟨by kernel_rfl, by kernel_rfl, by kernel_rfl⟩
theorem ty88 : TyOk Tryz.prog 88 ⟨.fn, 1, 8, [.nilFunc]⟩ := ⟨by kernel_rfl, by kernel_rfl, by kernel_rfl⟩
theorem ty89 : TyOk Tryz.prog 89 ⟨.map 3 42, 1, 8, [.map none]⟩ := ⟨by kernel_rfl, by kernel_rfl, by kernel_rfl⟩
theorem ty90 : TyOk Tryz.prog 90 ⟨.struct [(0, 89)], 1, 8, [.map none]⟩ := ⟨by kernel_rfl, by kernel_rfl, by kernel_rfl⟩
theorem ty91 : TyOk Tryz.prog 91 ⟨.struct [(0, 89)], 1, 8, [.map none]⟩ := ⟨by kernel_rfl, by kernel_rfl, by kernel_rfl⟩
theorem ty93 : TyOk Tryz.prog 93 ⟨.fn, 1, 8, [.nilFunc]⟩ := ⟨by kernel_rfl, by kernel_rfl, by kernel_rfl⟩
theorem ty94 : TyOk Tryz.prog 94 ⟨.fn, 1, 8, [.nilFunc]⟩ := ⟨by kernel_rfl, by kernel_rfl, by kernel_rfl⟩
theorem ty95 : TyOk Tryz.prog 95 ⟨.fn, 1, 8, [.nilFunc]⟩ := ⟨by kernel_rfl, by kernel_rfl, by kernel_rfl⟩
theorem ty96 : TyOk Tryz.prog 96 ⟨.fn, 1, 8, [.nilFunc]⟩ := ⟨by kernel_rfl, by kernel_rfl, by kernel_rfl⟩
theorem ty97 : TyOk Tryz.prog 97 ⟨.fn, 1, 8, [.nilFunc]⟩ := ⟨by kernel_rfl, by kernel_rfl, by kernel_rfl⟩
theorem ty98 : TyOk Tryz.prog 98 ⟨.fn, 1, 8, [.nilFunc]⟩ := ⟨by kernel_rfl, by kernel_rfl, by kernel_rfl⟩
theorem ty99 : TyOk Tryz.prog 99 ⟨.fn, 1, 8, [.nilFunc]⟩ := ⟨by kernel_rfl, by kernel_rfl, by kernel_rfl⟩
theorem ty100 : TyOk Tryz.prog 100 ⟨.fn, 1, 8, [.nilFunc]⟩ := ⟨by kernel_rfl, by kernel_rfl, by kernel_rfl⟩
theorem ty101 : TyOk Tryz.prog 101 ⟨.fn, 1, 8, [.nilFunc]⟩ := ⟨by kernel_rfl, by kernel_rfl, by kernel_rfl⟩
theorem ty102 : TyOk Tryz.prog 102 ⟨.fn, 1, 8, [.nilFunc]⟩ := ⟨by kernel_rfl, by kernel_rfl, by kernel_rfl⟩
theorem ty103 : TyOk Tryz.prog 103 ⟨.fn, 1, 8, [.nilFunc]⟩ := ⟨by kernel_rfl, by kernel_rfl, by kernel_rfl⟩
theorem ty104 : TyOk Tryz.prog 104 ⟨.fn, 1, 8, [.nilFunc]⟩ := ⟨by kernel_rfl, by kernel_rfl, by kernel_rfl⟩
theorem ty105 : TyOk Tryz.prog 105 ⟨.struct [(0, 30), (1, 4)], 2, 16, [.int .u64 0, .bool false]⟩ := ⟨by kernel_rfl, by kernel_rfl, by kernel_rfl⟩
theorem ty106 : TyOk Tryz.prog 106 ⟨.struct [(0, 30), (1, 4)], 2, 16, [.int .u64 0, .bool false]⟩ := ⟨by kernel_rfl, by kernel_rfl, by kernel_rfl⟩
theorem ty107 : TyOk Tryz.prog 107 ⟨.fn, 1, 8, [.nilFunc]⟩ := ⟨by kernel_rfl, by kernel_rfl, by kernel_rfl⟩
theorem ty108 : TyOk Tryz.prog 108 ⟨.fn, 1, 8, [.nilFunc]⟩ := ⟨by kernel_rfl, by kernel_rfl, by kernel_rfl⟩
theorem ty109 : TyOk Tryz.prog 109 ⟨.fn, 1, 8, [.nilFunc]⟩ := ⟨by kernel_rfl, by kernel_rfl, by kernel_rfl⟩
theorem ty110 : TyOk Tryz.prog 110 ⟨.fn, 1, 8, [.nilFunc]⟩ := ⟨by kernel_rfl, by kernel_rfl, by kernel_rfl⟩
theorem ty111 : TyOk Tryz.prog 111 ⟨.fn, 1, 8, [.nilFunc]⟩ := ⟨by kernel_rfl, by kernel_rfl, by kernel_rfl⟩
theorem ty113 : TyOk Tryz.prog 113 ⟨.fn, 1, 8, [.nilFunc]⟩ := ⟨by kernel_rfl, by kernel_rfl, by kernel_rfl⟩
theorem ty114 : TyOk Tryz.prog 114 ⟨.int .u64, 1, 8, [.int .u64 0]⟩ := ⟨by kernel_rfl, by kernel_rfl, by kernel_rfl⟩
theorem ty115 : TyOk Tryz.prog 115 ⟨.fn, 1, 8, [.nilFunc]⟩ := ⟨by kernel_rfl, by kernel_rfl, by kernel_rfl⟩
theorem ty116 : TyOk Tryz.prog 116 ⟨.fn, 1, 8, [.nilFunc]⟩ := ⟨by kernel_rfl, by kernel_rfl, by kernel_rfl⟩
theorem ty117 : TyOk Tryz.prog 117 ⟨.fn, 1, 8, [.nilFunc]⟩ := ⟨by kernel_rfl, by kernel_rfl, by kernel_rfl⟩
theorem ty118 : TyOk Tryz.prog 118 ⟨.ptr 76, 1, 8, [.pointer none]⟩ := ⟨by kernel_rfl, by kernel_rfl, by kernel_rfl⟩
theorem ty119 : TyOk Tryz.prog 119 ⟨.fn, 1, 8, [.nilFunc]⟩ := ⟨by kernel_rfl, by kernel_rfl, by kernel_rfl⟩
theorem ty120 : TyOk Tryz.prog 120 ⟨.fn, 1, 8, [.nilFunc]⟩ := ⟨by kernel_rfl, by kernel_rfl, by kernel_rfl⟩
theorem ty121 : TyOk Tryz.prog 121 ⟨.fn, 1, 8, [.nilFunc]⟩ := ⟨by kernel_rfl, by kernel_rfl, by kernel_rfl⟩
theorem ty122 : TyOk Tryz.prog 122 ⟨.fn, 1, 8, [.nilFunc]⟩ := ⟨by kernel_rfl, by kernel_rfl, by kernel_rfl⟩
theorem ty123 : TyOk Tryz.prog 123 ⟨.fn, 1, 8, [.nilFunc]⟩ := ⟨by kernel_rfl, by kernel_rfl, by kernel_rfl⟩
theorem ty124 : TyOk Tryz.prog 124 ⟨.fn, 1, 8, [.nilFunc]⟩ := ⟨by kernel_rfl, by kernel_rfl, by kernel_rfl⟩
theorem ty125 : TyOk Tryz.prog 125 ⟨.fn, 1, 8, [.nilFunc]⟩ := ⟨by kernel_rfl, by kernel_rfl, by kernel_rfl⟩
theorem ty126 : TyOk Tryz.prog 126 ⟨.array 3 40, 9, 72, [.int .u64 0, .int .u64 0, .int .u64 0, .int .u64 0, .int .u64 0, .int .u64 0, .int .u64 0, .int .u64 0, .int .u64 0]⟩ := ⟨by kernel_rfl, by kernel_rfl, by kernel_rfl⟩
theorem ty127 : TyOk Tryz.prog 127 ⟨.int .i64, 1, 8, [.int .i64 0]⟩ := ⟨by kernel_rfl, by kernel_rfl, by kernel_rfl⟩
theorem ty128 : TyOk Tryz.prog 128 ⟨.fn, 1, 8, [.nilFunc]⟩ := ⟨by kernel_rfl, by kernel_rfl, by kernel_rfl⟩
theorem ty129 : TyOk Tryz.prog 129 ⟨.fn, 1, 8, [.nilFunc]⟩ := ⟨by kernel_rfl, by kernel_rfl, by kernel_rfl⟩
theorem ty130 : TyOk Tryz.prog 130 ⟨.fn, 1, 8, [.nilFunc]⟩ := ⟨by kernel_rfl, by kernel_rfl, by kernel_rfl⟩
theorem ty131 : TyOk Tryz.prog 131 ⟨.fn, 1, 8, [.nilFunc]⟩ := ⟨by kernel_rfl, by kernel_rfl, by kernel_rfl⟩
theorem ty132 : TyOk Tryz.prog 132 ⟨.fn, 1, 8, [.nilFunc]⟩ := ⟨by kernel_rfl, by kernel_rfl, by kernel_rfl⟩
theorem ty133 : TyOk Tryz.prog 133 ⟨.fn, 1, 8, [.nilFunc]⟩ := ⟨by kernel_rfl, by kernel_rfl, by kernel_rfl⟩
theorem ty134 : TyOk Tryz.prog 134 ⟨.fn, 1, 8, [.nilFunc]⟩ := ⟨by kernel_rfl, by kernel_rfl, by kernel_rfl⟩
theorem ty135 : TyOk Tryz.prog 135 ⟨.fn, 1, 8, [.nilFunc]⟩ := ⟨by kernel_rfl, by kernel_rfl, by kernel_rfl⟩
theorem ty136 : TyOk Tryz.prog 136 ⟨.fn, 1, 8, [.nilFunc]⟩ := ⟨by kernel_rfl, by kernel_rfl, by kernel_rfl⟩
theorem ty137 : TyOk Tryz.prog 137 ⟨.fn, 1, 8, [.nilFunc]⟩ := ⟨by kernel_rfl, by kernel_rfl, by kernel_rfl⟩
theorem ty138 : TyOk Tryz.prog 138 ⟨.slice 30, 1, 24, [.slice none 0 0]⟩ := ⟨by kernel_rfl, by kernel_rfl, by kernel_rfl⟩
theorem ty139 : TyOk Tryz.prog 139 ⟨.fn, 1, 8, [.nilFunc]⟩ := ⟨by kernel_rfl, by kernel_rfl, by kernel_rfl⟩
theorem ty140 : TyOk Tryz.prog 140 ⟨.fn, 1, 8, [.nilFunc]⟩ := ⟨by kernel_rfl, by kernel_rfl, by kernel_rfl⟩
theorem ty142 : TyOk Tryz.prog 142 ⟨.fn, 1, 8, [.nilFunc]⟩ := ⟨by kernel_rfl, by kernel_rfl, by kernel_rfl⟩
theorem ty143 : TyOk Tryz.prog 143 ⟨.slice 63, 1, 24, [.slice none 0 0]⟩ := ⟨by kernel_rfl, by kernel_rfl, by kernel_rfl⟩
theorem ty144 : TyOk Tryz.prog 144 ⟨.fn, 1, 8, [.nilFunc]⟩ := ⟨by kernel_rfl, by kernel_rfl, by kernel_rfl⟩
theorem ty145 : TyOk Tryz.prog 145 ⟨.fn, 1, 8, [.nilFunc]⟩ := ⟨by kernel_rfl, by kernel_rfl, by kernel_rfl⟩
theorem ty146 : TyOk Tryz.prog 146 ⟨.fn, 1, 8, [.nilFunc]⟩ := ⟨by kernel_rfl, by kernel_rfl, by kernel_rfl⟩
theorem ty147 : TyOk Tryz.prog 147 ⟨.fn, 1, 8, [.nilFunc]⟩ := ⟨by kernel_rfl, by kernel_rfl, by kernel_rfl⟩
theorem ty148 : TyOk Tryz.prog 148 ⟨.fn, 1, 8, [.nilFunc]⟩ := ⟨by kernel_rfl, by kernel_rfl, by kernel_rfl⟩
theorem ty150 : TyOk Tryz.prog 150 ⟨.fn, 1, 8, [.nilFunc]⟩ := ⟨by kernel_rfl, by kernel_rfl, by kernel_rfl⟩
theorem ty151 : TyOk Tryz.prog 151 ⟨.fn, 1, 8, [.nilFunc]⟩ := ⟨by kernel_rfl, by kernel_rfl, by kernel_rfl⟩
theorem ty152 : TyOk Tryz.prog 152 ⟨.struct [(0, 30), (1, 3)], 2, 16, [.int .u64 0, .int .i64 0]⟩ := ⟨by kernel_rfl, by kernel_rfl, by kernel_rfl⟩
theorem ty153 : TyOk Tryz.prog 153 ⟨.struct [(0, 30), (1, 3)], 2, 16, [.int .u64 0, .int .i64 0]⟩ := ⟨by kernel_rfl, by kernel_rfl, by kernel_rfl⟩
theorem ty154 : TyOk Tryz.prog 154 ⟨.fn, 1, 8, [.nilFunc]⟩ := ⟨by kernel_rfl, by kernel_rfl, by kernel_rfl⟩
theorem ty156 : TyOk Tryz.prog 156 ⟨.fn, 1, 8, [.nilFunc]⟩ := ⟨by kernel_rfl, by kernel_rfl, by kernel_rfl⟩
theorem ty157 : TyOk Tryz.prog 157 ⟨.fn, 1, 8, [.nilFunc]⟩ := ⟨by kernel_rfl, by kernel_rfl, by kernel_rfl⟩
theorem ty158 : TyOk Tryz.prog 158 ⟨.fn, 1, 8, [.nilFunc]⟩ := ⟨by kernel_rfl, by kernel_rfl, by kernel_rfl⟩
theorem ty159 : TyOk Tryz.prog 159 ⟨.fn, 1, 8, [.nilFunc]⟩ := ⟨by kernel_rfl, by kernel_rfl, by kernel_rfl⟩
theorem ty160 : TyOk Tryz.prog 160 ⟨.fn, 1, 8, [.nilFunc]⟩ := ⟨by kernel_rfl, by kernel_rfl, by kernel_rfl⟩
theorem ty161 : TyOk Tryz.prog 161 ⟨.fn, 1, 8, [.nilFunc]⟩ := ⟨by kernel_rfl, by kernel_rfl, by kernel_rfl⟩
theorem ty162 : TyOk Tryz.prog 162 ⟨.fn, 1, 8, [.nilFunc]⟩ := ⟨by kernel_rfl, by kernel_rfl, by kernel_rfl⟩
theorem ty163 : TyOk Tryz.prog 163 ⟨.fn, 1, 8, [.nilFunc]⟩ := ⟨by kernel_rfl, by kernel_rfl, by kernel_rfl⟩
theorem ty164 : TyOk Tryz.prog 164 ⟨.fn, 1, 8, [.nilFunc]⟩ := ⟨by kernel_rfl, by kernel_rfl, by kernel_rfl⟩
theorem ty165 : TyOk Tryz.prog 165 ⟨.fn, 1, 8, [.nilFunc]⟩ := ⟨by kernel_rfl, by kernel_rfl, by kernel_rfl⟩
theorem ty166 : TyOk Tryz.prog 166 ⟨.fn, 1, 8, [.nilFunc]⟩ := ⟨by kernel_rfl, by kernel_rfl, by kernel_rfl⟩
theorem ty167 : TyOk Tryz.prog 167 ⟨.fn, 1, 8, [.nilFunc]⟩ := ⟨by kernel_rfl, by kernel_rfl, by kernel_rfl⟩
theorem ty168 : TyOk Tryz.prog 168 ⟨.fn, 1, 8, [.nilFunc]⟩ := ⟨by kernel_rfl, by kernel_rfl, by kernel_rfl⟩
theorem ty170 : TyOk Tryz.prog 170 ⟨.fn, 1, 8, [.nilFunc]⟩ := ⟨by kernel_rfl, by kernel_rfl, by kernel_rfl⟩
theorem ty171 : TyOk Tryz.prog 171 ⟨.fn, 1, 8, [.nilFunc]⟩ := ⟨by kernel_rfl, by kernel_rfl, by kernel_rfl⟩
theorem ty172 : TyOk Tryz.prog 172 ⟨.fn, 1, 8, [.nilFunc]⟩ := ⟨by kernel_rfl, by kernel_rfl, by kernel_rfl⟩
theorem ty174 : TyOk Tryz.prog 174 ⟨.fn, 1, 8, [.nilFunc]⟩ := ⟨by kernel_rfl, by kernel_rfl, by kernel_rfl⟩
theorem ty175 : TyOk Tryz.prog 175 ⟨.fn, 1, 8, [.nilFunc]⟩ := ⟨by kernel_rfl, by kernel_rfl, by kernel_rfl⟩
theorem ty176 : TyOk Tryz.prog 176 ⟨.fn, 1, 8, [.nilFunc]⟩ := ⟨by kernel_rfl, by kernel_rfl, by kernel_rfl⟩
theorem ty177 : TyOk Tryz.prog 177 ⟨.fn, 1, 8, [.nilFunc]⟩ := ⟨by kernel_rfl, by kernel_rfl, by kernel_rfl⟩
theorem ty178 : TyOk Tryz.prog 178 ⟨.fn, 1, 8, [.nilFunc]⟩ := ⟨by kernel_rfl, by kernel_rfl, by kernel_rfl⟩
theorem ty179 : TyOk Tryz.prog 179 ⟨.fn, 1, 8, [.nilFunc]⟩ := ⟨by kernel_rfl, by kernel_rfl, by kernel_rfl⟩
theorem ty180 : TyOk Tryz.prog 180 ⟨.fn, 1, 8, [.nilFunc]⟩ := ⟨by kernel_rfl, by kernel_rfl, by kernel_rfl⟩
theorem ty181 : TyOk Tryz.prog 181 ⟨.fn, 1, 8, [.nilFunc]⟩ := ⟨by kernel_rfl, by kernel_rfl, by kernel_rfl⟩
theorem ty182 : TyOk Tryz.prog 182 ⟨.fn, 1, 8, [.nilFunc]⟩ := ⟨by kernel_rfl, by kernel_rfl, by kernel_rfl⟩
theorem ty183 : TyOk Tryz.prog 183 ⟨.fn, 1, 8, [.nilFunc]⟩ := ⟨by kernel_rfl, by kernel_rfl, by kernel_rfl⟩
theorem ty184 : TyOk Tryz.prog 184 ⟨.int .i64, 1, 8, [.int .i64 0]⟩ := ⟨by kernel_rfl, by kernel_rfl, by kernel_rfl⟩
theorem ty186 : TyOk Tryz.prog 186 ⟨.fn, 1, 8, [.nilFunc]⟩ := ⟨by kernel_rfl, by kernel_rfl, by kernel_rfl⟩
theorem ty187 : TyOk Tryz.prog 187 ⟨.fn, 1, 8, [.nilFunc]⟩ := ⟨by kernel_rfl, by kernel_rfl, by kernel_rfl⟩
theorem ty188 : TyOk Tryz.prog 188 ⟨.fn, 1, 8, [.nilFunc]⟩ := ⟨by kernel_rfl, by kernel_rfl, by kernel_rfl⟩
theorem ty189 : TyOk Tryz.prog 189 ⟨.fn, 1, 8, [.nilFunc]⟩ := ⟨by kernel_rfl, by kernel_rfl, by kernel_rfl⟩
theorem ty191 : TyOk Tryz.prog 191 ⟨.fn, 1, 8, [.nilFunc]⟩ := ⟨by kernel_rfl, by kernel_rfl, by kernel_rfl⟩
theorem ty192 : TyOk Tryz.prog 192 ⟨.fn, 1, 8, [.nilFunc]⟩ := ⟨by kernel_rfl, by kernel_rfl, by kernel_rfl⟩
theorem ty193 : TyOk Tryz.prog 193 ⟨.int .u32, 1, 4, [.int .u32 0]⟩ := ⟨by kernel_rfl, by kernel_rfl, by kernel_rfl⟩
theorem ty194 : TyOk Tryz.prog 194 ⟨.fn, 1, 8, [.nilFunc]⟩ := ⟨by kernel_rfl, by kernel_rfl, by kernel_rfl⟩
theorem ty195 : TyOk Tryz.prog 195 ⟨.fn, 1, 8, [.nilFunc]⟩ := ⟨by kernel_rfl, by kernel_rfl, by kernel_rfl⟩
theorem ty196 : TyOk Tryz.prog 196 ⟨.fn, 1, 8, [.nilFunc]⟩ := ⟨by kernel_rfl, by kernel_rfl, by kernel_rfl⟩
theorem ty197 : TyOk Tryz.prog 197 ⟨.fn, 1, 8, [.nilFunc]⟩ := ⟨by kernel_rfl, by kernel_rfl, by kernel_rfl⟩
theorem ty198 : TyOk Tryz.prog 198 ⟨.fn, 1, 8, [.nilFunc]⟩ := ⟨by kernel_rfl, by kernel_rfl, by kernel_rfl⟩
theorem ty199 : TyOk Tryz.prog 199 ⟨.fn, 1, 8, [.nilFunc]⟩ := ⟨by kernel_rfl, by kernel_rfl, by kernel_rfl⟩
theorem ty200 : TyOk Tryz.prog 200 ⟨.fn, 1, 8, [.nilFunc]⟩ := ⟨by kernel_rfl, by kernel_rfl, by kernel_rfl⟩
theorem ty201 : TyOk Tryz.prog 201 ⟨.int .u64, 1, 8, [.int .u64 0]⟩ := ⟨by kernel_rfl, by kernel_rfl, by kernel_rfl⟩
theorem ty202 : TyOk Tryz.prog 202 ⟨.fn, 1, 8, [.nilFunc]⟩ := ⟨by kernel_rfl, by kernel_rfl, by kernel_rfl⟩
theorem ty203 : TyOk Tryz.prog 203 ⟨.fn, 1, 8, [.nilFunc]⟩ := ⟨by kernel_rfl, by kernel_rfl, by kernel_rfl⟩
theorem ty204 : TyOk Tryz.prog 204 ⟨.fn, 1, 8, [.nilFunc]⟩ := ⟨by kernel_rfl, by kernel_rfl, by kernel_rfl⟩
theorem ty205 : TyOk Tryz.prog 205 ⟨.ptr 3, 1, 8, [.pointer none]⟩ := ⟨by kernel_rfl, by kernel_rfl, by kernel_rfl⟩
theorem ty206 : TyOk Tryz.prog 206 ⟨.fn, 1, 8, [.nilFunc]⟩ := ⟨by kernel_rfl, by kernel_rfl, by kernel_rfl⟩
theorem ty207 : TyOk Tryz.prog 207 ⟨.fn, 1, 8, [.nilFunc]⟩ := ⟨by kernel_rfl, by kernel_rfl, by kernel_rfl⟩
theorem ty208 : TyOk Tryz.prog 208 ⟨.fn, 1, 8, [.nilFunc]⟩ := ⟨by kernel_rfl, by kernel_rfl, by kernel_rfl⟩
theorem ty209 : TyOk Tryz.prog 209 ⟨.ptr 201, 1, 8, [.pointer none]⟩ := ⟨by kernel_rfl, by kernel_rfl, by kernel_rfl⟩
theorem ty211 : TyOk Tryz.prog 211 ⟨.fn, 1, 8, [.nilFunc]⟩ := ⟨by kernel_rfl, by kernel_rfl, by kernel_rfl⟩
theorem ty212 : TyOk Tryz.prog 212 ⟨.fn, 1, 8, [.nilFunc]⟩ := ⟨by kernel_rfl, by kernel_rfl, by kernel_rfl⟩
theorem ty213 : TyOk Tryz.prog 213 ⟨.fn, 1, 8, [.nilFunc]⟩ := ⟨by kernel_rfl, by kernel_rfl, by kernel_rfl⟩
theorem ty219 : TyOk Tryz.prog 219 ⟨.fn, 1, 8, [.nilFunc]⟩ := ⟨by kernel_rfl, by kernel_rfl, by kernel_rfl⟩
theorem ty222 : TyOk Tryz.prog 222 ⟨.fn, 1, 8, [.nilFunc]⟩ := ⟨by kernel_rfl, by kernel_rfl, by kernel_rfl⟩
theorem ty223 : TyOk Tryz.prog 223 ⟨.ptr 5, 1, 8, [.pointer none]⟩ := ⟨by kernel_rfl, by kernel_rfl, by kernel_rfl⟩
theorem ty226 : TyOk Tryz.prog 226 ⟨.struct [(0, 12), (1, 12), (2, 193), (3, 220), (4, 5), (5, 5), (6, 221), (7, 222), (8, 223), (9, 224), (10, 225)], 11, 48, [.int .u64 0, .int .u64 0, .int .u32 0, .int .u8 0, .int .u8 0, .int .u8 0, .int .u8 0, .nilFunc, .pointer none, .int .i32 0, .int .i32 0]⟩ := ⟨by kernel_rfl, by kernel_rfl, by kernel_rfl⟩
theorem ty228 : TyOk Tryz.prog 228 ⟨.struct [(0, 33), (4, 33), (8, 3)], 9, 24, [.int .u16 0, .int .u16 0, .int .u16 0, .int .u16 0, .int .u16 0, .int .u16 0, .int .u16 0, .int .u16 0, .int .i64 0]⟩ := ⟨by kernel_rfl, by kernel_rfl, by kernel_rfl⟩
theorem ty229 : TyOk Tryz.prog 229 ⟨.struct [(0, 33), (4, 33), (8, 3)], 9, 24, [.int .u16 0, .int .u16 0, .int .u16 0, .int .u16 0, .int .u16 0, .int .u16 0, .int .u16 0, .int .u16 0, .int .i64 0]⟩ := ⟨by kernel_rfl, by kernel_rfl, by kernel_rfl⟩
def lay : Lay := [(1, ⟨.fn, 1, 8, [.nilFunc]⟩),
  (2, ⟨.int .i64, 1, 8, [.int .i64 0]⟩),
  (3, ⟨.int .i64, 1, 8, [.int .i64 0]⟩),
  (4, ⟨.bool, 1, 1, [.bool false]⟩),
  (5, ⟨.int .u8, 1, 1, [.int .u8 0]⟩),
  (9, ⟨.str, 1, 16, [.string ByteArray.empty]⟩),
  (12, ⟨.int .u64, 1, 8, [.int .u64 0]⟩),
  (17, ⟨.ptr 227, 1, 8, [.pointer none]⟩),
  (20, ⟨.iface, 1, 16, [.nilIface]⟩),
  (21, ⟨.int .i32, 1, 4, [.int .i32 0]⟩),
  (22, ⟨.struct [(0, 3), (1, 3)], 2, 16, [.int .i64 0, .int .i64 0]⟩),
  (23, ⟨.struct [(0, 3), (1, 3)], 2, 16, [.int .i64 0, .int .i64 0]⟩),
  (24, ⟨.slice 37, 1, 24, [.slice none 0 0]⟩),
  (25, ⟨.struct [(0, 23), (2, 24)], 3, 40, [.int .i64 0, .int .i64 0, .slice none 0 0]⟩),
  (26, ⟨.struct [(0, 23), (2, 24)], 3, 40, [.int .i64 0, .int .i64 0, .slice none 0 0]⟩),
  (27, ⟨.slice 52, 1, 24, [.slice none 0 0]⟩),
  (28, ⟨.slice 44, 1, 24, [.slice none 0 0]⟩),
  (29, ⟨.slice 229, 1, 24, [.slice none 0 0]⟩),
  (30, ⟨.int .u64, 1, 8, [.int .u64 0]⟩),
  (31, ⟨.int .u16, 1, 2, [.int .u16 0]⟩),
  (32, ⟨.array 4 31, 4, 8, [.int .u16 0, .int .u16 0, .int .u16 0, .int .u16 0]⟩),
  (33, ⟨.array 4 31, 4, 8, [.int .u16 0, .int .u16 0, .int .u16 0, .int .u16 0]⟩),
  (34, ⟨.struct [(0, 30), (1, 3), (2, 33)], 6, 24, [.int .u64 0, .int .i64 0, .int .u16 0, .int .u16 0, .int .u16 0, .int .u16 0]⟩),
  (35, ⟨.struct [(0, 30), (1, 3), (2, 33)], 6, 24, [.int .u64 0, .int .i64 0, .int .u16 0, .int .u16 0, .int .u16 0, .int .u16 0]⟩),
  (36, ⟨.struct [(0, 3), (1, 28), (2, 29), (3, 35), (9, 30)], 10, 88, [.int .i64 0, .slice none 0 0, .slice none 0 0, .int .u64 0, .int .i64 0, .int .u16 0, .int .u16 0, .int .u16 0, .int .u16 0, .int .u64 0]⟩),
  (37, ⟨.struct [(0, 3), (1, 28), (2, 29), (3, 35), (9, 30)], 10, 88, [.int .i64 0, .slice none 0 0, .slice none 0 0, .int .u64 0, .int .i64 0, .int .u16 0, .int .u16 0, .int .u16 0, .int .u16 0, .int .u64 0]⟩),
  (38, ⟨.fn, 1, 8, [.nilFunc]⟩),
  (39, ⟨.struct [(0, 30), (1, 30), (2, 30)], 3, 24, [.int .u64 0, .int .u64 0, .int .u64 0]⟩),
  (40, ⟨.struct [(0, 30), (1, 30), (2, 30)], 3, 24, [.int .u64 0, .int .u64 0, .int .u64 0]⟩),
  (41, ⟨.struct [(0, 3), (1, 3), (2, 4), (3, 40), (6, 40), (9, 40), (12, 3), (13, 3)], 14, 112, [.int .i64 0, .int .i64 0, .bool false, .int .u64 0, .int .u64 0, .int .u64 0, .int .u64 0, .int .u64 0, .int .u64 0, .int .u64 0, .int .u64 0, .int .u64 0, .int .i64 0, .int .i64 0]⟩),
  (42, ⟨.struct [(0, 3), (1, 3), (2, 4), (3, 40), (6, 40), (9, 40), (12, 3), (13, 3)], 14, 112, [.int .i64 0, .int .i64 0, .bool false, .int .u64 0, .int .u64 0, .int .u64 0, .int .u64 0, .int .u64 0, .int .u64 0, .int .u64 0, .int .u64 0, .int .u64 0, .int .i64 0, .int .i64 0]⟩),
  (43, ⟨.struct [(0, 3), (1, 42)], 15, 120, [.int .i64 0, .int .i64 0, .int .i64 0, .bool false, .int .u64 0, .int .u64 0, .int .u64 0, .int .u64 0, .int .u64 0, .int .u64 0, .int .u64 0, .int .u64 0, .int .u64 0, .int .i64 0, .int .i64 0]⟩),
  (44, ⟨.struct [(0, 3), (1, 42)], 15, 120, [.int .i64 0, .int .i64 0, .int .i64 0, .bool false, .int .u64 0, .int .u64 0, .int .u64 0, .int .u64 0, .int .u64 0, .int .u64 0, .int .u64 0, .int .u64 0, .int .u64 0, .int .i64 0, .int .i64 0]⟩),
  (45, ⟨.int .i64, 1, 8, [.int .i64 0]⟩),
  (47, ⟨.fn, 1, 8, [.nilFunc]⟩),
  (48, ⟨.fn, 1, 8, [.nilFunc]⟩),
  (49, ⟨.fn, 1, 8, [.nilFunc]⟩),
  (50, ⟨.fn, 1, 8, [.nilFunc]⟩),
  (51, ⟨.struct [(0, 3), (1, 4), (2, 4), (3, 30), (4, 30), (5, 3), (6, 35)], 12, 64, [.int .i64 0, .bool false, .bool false, .int .u64 0, .int .u64 0, .int .i64 0, .int .u64 0, .int .i64 0, .int .u16 0, .int .u16 0, .int .u16 0, .int .u16 0]⟩),
  (52, ⟨.struct [(0, 3), (1, 4), (2, 4), (3, 30), (4, 30), (5, 3), (6, 35)], 12, 64, [.int .i64 0, .bool false, .bool false, .int .u64 0, .int .u64 0, .int .i64 0, .int .u64 0, .int .i64 0, .int .u16 0, .int .u16 0, .int .u16 0, .int .u16 0]⟩),
  (53, ⟨.fn, 1, 8, [.nilFunc]⟩),
  (54, ⟨.fn, 1, 8, [.nilFunc]⟩),
  (55, ⟨.ptr 91, 1, 8, [.pointer none]⟩),
  (56, ⟨.fn, 1, 8, [.nilFunc]⟩),
  (57, ⟨.slice 42, 1, 24, [.slice none 0 0]⟩),
  (58, ⟨.fn, 1, 8, [.nilFunc]⟩),
  (59, ⟨.fn, 1, 8, [.nilFunc]⟩),
  (60, ⟨.struct [(0, 57), (1, 3)], 2, 32, [.slice none 0 0, .int .i64 0]⟩),
  (61, ⟨.struct [(0, 57), (1, 3)], 2, 32, [.slice none 0 0, .int .i64 0]⟩),
  (62, ⟨.fn, 1, 8, [.nilFunc]⟩),
  (63, ⟨.slice 40, 1, 24, [.slice none 0 0]⟩),
  (64, ⟨.fn, 1, 8, [.nilFunc]⟩),
  (65, ⟨.fn, 1, 8, [.nilFunc]⟩),
  (66, ⟨.fn, 1, 8, [.nilFunc]⟩),
  (67, ⟨.fn, 1, 8, [.nilFunc]⟩),
  (68, ⟨.fn, 1, 8, [.nilFunc]⟩),
  (69, ⟨.fn, 1, 8, [.nilFunc]⟩),
  (70, ⟨.fn, 1, 8, [.nilFunc]⟩),
  (71, ⟨.struct [(0, 30), (1, 30)], 2, 16, [.int .u64 0, .int .u64 0]⟩),
  (72, ⟨.struct [(0, 30), (1, 30)], 2, 16, [.int .u64 0, .int .u64 0]⟩),
  (73, ⟨.fn, 1, 8, [.nilFunc]⟩),
  (74, ⟨.slice 3, 1, 24, [.slice none 0 0]⟩),
  (75, ⟨.struct [(0, 30), (1, 30), (2, 3), (3, 3), (4, 4)], 5, 40, [.int .u64 0, .int .u64 0, .int .i64 0, .int .i64 0, .bool false]⟩),
  (76, ⟨.struct [(0, 30), (1, 30), (2, 3), (3, 3), (4, 4)], 5, 40, [.int .u64 0, .int .u64 0, .int .i64 0, .int .i64 0, .bool false]⟩),
  (77, ⟨.fn, 1, 8, [.nilFunc]⟩),
  (78, ⟨.fn, 1, 8, [.nilFunc]⟩),
  (79, ⟨.slice 76, 1, 24, [.slice none 0 0]⟩),
  (80, ⟨.fn, 1, 8, [.nilFunc]⟩),
  (81, ⟨.fn, 1, 8, [.nilFunc]⟩),
  (82, ⟨.array 4 30, 4, 32, [.int .u64 0, .int .u64 0, .int .u64 0, .int .u64 0]⟩),
  (83, ⟨.array 4 30, 4, 32, [.int .u64 0, .int .u64 0, .int .u64 0, .int .u64 0]⟩),
  (84, ⟨.fn, 1, 8, [.nilFunc]⟩),
  (85, ⟨.slice 87, 1, 24, [.slice none 0 0]⟩),
  (86, ⟨.fn, 1, 8, [.nilFunc]⟩),
  (87, ⟨.struct [(0, 30), (1, 30), (2, 3), (3, 3), (4, 4)], 5, 40, [.int .u64 0, .int .u64 0, .int .i64 0, .int .i64 0, .bool false]⟩),
  (88, ⟨.fn, 1, 8, [.nilFunc]⟩),
  (89, ⟨.map 3 42, 1, 8, [.map none]⟩),
  (90, ⟨.struct [(0, 89)], 1, 8, [.map none]⟩),
  (91, ⟨.struct [(0, 89)], 1, 8, [.map none]⟩),
  (93, ⟨.fn, 1, 8, [.nilFunc]⟩),
  (94, ⟨.fn, 1, 8, [.nilFunc]⟩),
  (95, ⟨.fn, 1, 8, [.nilFunc]⟩),
  (96, ⟨.fn, 1, 8, [.nilFunc]⟩),
  (97, ⟨.fn, 1, 8, [.nilFunc]⟩),
  (98, ⟨.fn, 1, 8, [.nilFunc]⟩),
  (99, ⟨.fn, 1, 8, [.nilFunc]⟩),
  (100, ⟨.fn, 1, 8, [.nilFunc]⟩),
  (101, ⟨.fn, 1, 8, [.nilFunc]⟩),
  (102, ⟨.fn, 1, 8, [.nilFunc]⟩),
  (103, ⟨.fn, 1, 8, [.nilFunc]⟩),
  (104, ⟨.fn, 1, 8, [.nilFunc]⟩),
  (105, ⟨.struct [(0, 30), (1, 4)], 2, 16, [.int .u64 0, .bool false]⟩),
  (106, ⟨.struct [(0, 30), (1, 4)], 2, 16, [.int .u64 0, .bool false]⟩),
  (107, ⟨.fn, 1, 8, [.nilFunc]⟩),
  (108, ⟨.fn, 1, 8, [.nilFunc]⟩),
  (109, ⟨.fn, 1, 8, [.nilFunc]⟩),
  (110, ⟨.fn, 1, 8, [.nilFunc]⟩),
  (111, ⟨.fn, 1, 8, [.nilFunc]⟩),
  (113, ⟨.fn, 1, 8, [.nilFunc]⟩),
  (114, ⟨.int .u64, 1, 8, [.int .u64 0]⟩),
  (115, ⟨.fn, 1, 8, [.nilFunc]⟩),
  (116, ⟨.fn, 1, 8, [.nilFunc]⟩),
  (117, ⟨.fn, 1, 8, [.nilFunc]⟩),
  (118, ⟨.ptr 76, 1, 8, [.pointer none]⟩),
  (119, ⟨.fn, 1, 8, [.nilFunc]⟩),
  (120, ⟨.fn, 1, 8, [.nilFunc]⟩),
  (121, ⟨.fn, 1, 8, [.nilFunc]⟩),
  (122, ⟨.fn, 1, 8, [.nilFunc]⟩),
  (123, ⟨.fn, 1, 8, [.nilFunc]⟩),
  (124, ⟨.fn, 1, 8, [.nilFunc]⟩),
  (125, ⟨.fn, 1, 8, [.nilFunc]⟩),
  (126, ⟨.array 3 40, 9, 72, [.int .u64 0, .int .u64 0, .int .u64 0, .int .u64 0, .int .u64 0, .int .u64 0, .int .u64 0, .int .u64 0, .int .u64 0]⟩),
  (127, ⟨.int .i64, 1, 8, [.int .i64 0]⟩),
  (128, ⟨.fn, 1, 8, [.nilFunc]⟩),
  (129, ⟨.fn, 1, 8, [.nilFunc]⟩),
  (130, ⟨.fn, 1, 8, [.nilFunc]⟩),
  (131, ⟨.fn, 1, 8, [.nilFunc]⟩),
  (132, ⟨.fn, 1, 8, [.nilFunc]⟩),
  (133, ⟨.fn, 1, 8, [.nilFunc]⟩),
  (134, ⟨.fn, 1, 8, [.nilFunc]⟩),
  (135, ⟨.fn, 1, 8, [.nilFunc]⟩),
  (136, ⟨.fn, 1, 8, [.nilFunc]⟩),
  (137, ⟨.fn, 1, 8, [.nilFunc]⟩),
  (138, ⟨.slice 30, 1, 24, [.slice none 0 0]⟩),
  (139, ⟨.fn, 1, 8, [.nilFunc]⟩),
  (140, ⟨.fn, 1, 8, [.nilFunc]⟩),
  (142, ⟨.fn, 1, 8, [.nilFunc]⟩),
  (143, ⟨.slice 63, 1, 24, [.slice none 0 0]⟩),
  (144, ⟨.fn, 1, 8, [.nilFunc]⟩),
  (145, ⟨.fn, 1, 8, [.nilFunc]⟩),
  (146, ⟨.fn, 1, 8, [.nilFunc]⟩),
  (147, ⟨.fn, 1, 8, [.nilFunc]⟩),
  (148, ⟨.fn, 1, 8, [.nilFunc]⟩),
  (150, ⟨.fn, 1, 8, [.nilFunc]⟩),
  (151, ⟨.fn, 1, 8, [.nilFunc]⟩),
  (152, ⟨.struct [(0, 30), (1, 3)], 2, 16, [.int .u64 0, .int .i64 0]⟩),
  (153, ⟨.struct [(0, 30), (1, 3)], 2, 16, [.int .u64 0, .int .i64 0]⟩),
  (154, ⟨.fn, 1, 8, [.nilFunc]⟩),
  (156, ⟨.fn, 1, 8, [.nilFunc]⟩),
  (157, ⟨.fn, 1, 8, [.nilFunc]⟩),
  (158, ⟨.fn, 1, 8, [.nilFunc]⟩),
  (159, ⟨.fn, 1, 8, [.nilFunc]⟩),
  (160, ⟨.fn, 1, 8, [.nilFunc]⟩),
  (161, ⟨.fn, 1, 8, [.nilFunc]⟩),
  (162, ⟨.fn, 1, 8, [.nilFunc]⟩),
  (163, ⟨.fn, 1, 8, [.nilFunc]⟩),
  (164, ⟨.fn, 1, 8, [.nilFunc]⟩),
  (165, ⟨.fn, 1, 8, [.nilFunc]⟩),
  (166, ⟨.fn, 1, 8, [.nilFunc]⟩),
  (167, ⟨.fn, 1, 8, [.nilFunc]⟩),
  (168, ⟨.fn, 1, 8, [.nilFunc]⟩),
  (170, ⟨.fn, 1, 8, [.nilFunc]⟩),
  (171, ⟨.fn, 1, 8, [.nilFunc]⟩),
  (172, ⟨.fn, 1, 8, [.nilFunc]⟩),
  (174, ⟨.fn, 1, 8, [.nilFunc]⟩),
  (175, ⟨.fn, 1, 8, [.nilFunc]⟩),
  (176, ⟨.fn, 1, 8, [.nilFunc]⟩),
  (177, ⟨.fn, 1, 8, [.nilFunc]⟩),
  (178, ⟨.fn, 1, 8, [.nilFunc]⟩),
  (179, ⟨.fn, 1, 8, [.nilFunc]⟩),
  (180, ⟨.fn, 1, 8, [.nilFunc]⟩),
  (181, ⟨.fn, 1, 8, [.nilFunc]⟩),
  (182, ⟨.fn, 1, 8, [.nilFunc]⟩),
  (183, ⟨.fn, 1, 8, [.nilFunc]⟩),
  (184, ⟨.int .i64, 1, 8, [.int .i64 0]⟩),
  (186, ⟨.fn, 1, 8, [.nilFunc]⟩),
  (187, ⟨.fn, 1, 8, [.nilFunc]⟩),
  (188, ⟨.fn, 1, 8, [.nilFunc]⟩),
  (189, ⟨.fn, 1, 8, [.nilFunc]⟩),
  (191, ⟨.fn, 1, 8, [.nilFunc]⟩),
  (192, ⟨.fn, 1, 8, [.nilFunc]⟩),
  (193, ⟨.int .u32, 1, 4, [.int .u32 0]⟩),
  (194, ⟨.fn, 1, 8, [.nilFunc]⟩),
  (195, ⟨.fn, 1, 8, [.nilFunc]⟩),
  (196, ⟨.fn, 1, 8, [.nilFunc]⟩),
  (197, ⟨.fn, 1, 8, [.nilFunc]⟩),
  (198, ⟨.fn, 1, 8, [.nilFunc]⟩),
  (199, ⟨.fn, 1, 8, [.nilFunc]⟩),
  (200, ⟨.fn, 1, 8, [.nilFunc]⟩),
  (201, ⟨.int .u64, 1, 8, [.int .u64 0]⟩),
  (202, ⟨.fn, 1, 8, [.nilFunc]⟩),
  (203, ⟨.fn, 1, 8, [.nilFunc]⟩),
  (204, ⟨.fn, 1, 8, [.nilFunc]⟩),
  (205, ⟨.ptr 3, 1, 8, [.pointer none]⟩),
  (206, ⟨.fn, 1, 8, [.nilFunc]⟩),
  (207, ⟨.fn, 1, 8, [.nilFunc]⟩),
  (208, ⟨.fn, 1, 8, [.nilFunc]⟩),
  (209, ⟨.ptr 201, 1, 8, [.pointer none]⟩),
  (211, ⟨.fn, 1, 8, [.nilFunc]⟩),
  (212, ⟨.fn, 1, 8, [.nilFunc]⟩),
  (213, ⟨.fn, 1, 8, [.nilFunc]⟩),
  (219, ⟨.fn, 1, 8, [.nilFunc]⟩),
  (222, ⟨.fn, 1, 8, [.nilFunc]⟩),
  (223, ⟨.ptr 5, 1, 8, [.pointer none]⟩),
  (226, ⟨.struct [(0, 12), (1, 12), (2, 193), (3, 220), (4, 5), (5, 5), (6, 221), (7, 222), (8, 223), (9, 224), (10, 225)], 11, 48, [.int .u64 0, .int .u64 0, .int .u32 0, .int .u8 0, .int .u8 0, .int .u8 0, .int .u8 0, .nilFunc, .pointer none, .int .i32 0, .int .i32 0]⟩),
  (228, ⟨.struct [(0, 33), (4, 33), (8, 3)], 9, 24, [.int .u16 0, .int .u16 0, .int .u16 0, .int .u16 0, .int .u16 0, .int .u16 0, .int .u16 0, .int .u16 0, .int .i64 0]⟩),
  (229, ⟨.struct [(0, 33), (4, 33), (8, 3)], 9, 24, [.int .u16 0, .int .u16 0, .int .u16 0, .int .u16 0, .int .u16 0, .int .u16 0, .int .u16 0, .int .u16 0, .int .i64 0]⟩)]
theorem lay_ok : LayOk Tryz.prog lay := .cons ty1 <| .cons ty2 <| .cons ty3 <| .cons ty4 <| .cons ty5 <| .cons ty9 <| .cons ty12 <| .cons ty17 <| .cons ty20 <| .cons ty21 <| .cons ty22 <| .cons ty23 <| .cons ty24 <| .cons ty25 <| .cons ty26 <| .cons ty27 <| .cons ty28 <| .cons ty29 <| .cons ty30 <| .cons ty31 <| .cons ty32 <| .cons ty33 <| .cons ty34 <| .cons ty35 <| .cons ty36 <| .cons ty37 <| .cons ty38 <| .cons ty39 <| .cons ty40 <| .cons ty41 <| .cons ty42 <| .cons ty43 <| .cons ty44 <| .cons ty45 <| .cons ty47 <| .cons ty48 <| .cons ty49 <| .cons ty50 <| .cons ty51 <| .cons ty52 <| .cons ty53 <| .cons ty54 <| .cons ty55 <| .cons ty56 <| .cons ty57 <| .cons ty58 <| .cons ty59 <| .cons ty60 <| .cons ty61 <| .cons ty62 <| .cons ty63 <| .cons ty64 <| .cons ty65 <| .cons ty66 <| .cons ty67 <| .cons ty68 <| .cons ty69 <| .cons ty70 <| .cons ty71 <| .cons ty72 <| .cons ty73 <| .cons ty74 <| .cons ty75 <| .cons ty76 <| .cons ty77 <| .cons ty78 <| .cons ty79 <| .cons ty80 <| .cons ty81 <| .cons ty82 <| .cons ty83 <| .cons ty84 <| .cons ty85 <| .cons ty86 <| .cons ty87 <| .cons ty88 <| .cons ty89 <| .cons ty90 <| .cons ty91 <| .cons ty93 <| .cons ty94 <| .cons ty95 <| .cons ty96 <| .cons ty97 <| .cons ty98 <| .cons ty99 <| .cons ty100 <| .cons ty101 <| .cons ty102 <| .cons ty103 <| .cons ty104 <| .cons ty105 <| .cons ty106 <| .cons ty107 <| .cons ty108 <| .cons ty109 <| .cons ty110 <| .cons ty111 <| .cons ty113 <| .cons ty114 <| .cons ty115 <| .cons ty116 <| .cons ty117 <| .cons ty118 <| .cons ty119 <| .cons ty120 <| .cons ty121 <| .cons ty122 <| .cons ty123 <| .cons ty124 <| .cons ty125 <| .cons ty126 <| .cons ty127 <| .cons ty128 <| .cons ty129 <| .cons ty130 <| .cons ty131 <| .cons ty132 <| .cons ty133 <| .cons ty134 <| .cons ty135 <| .cons ty136 <| .cons ty137 <| .cons ty138 <| .cons ty139 <| .cons ty140 <| .cons ty142 <| .cons ty143 <| .cons ty144 <| .cons ty145 <| .cons ty146 <| .cons ty147 <| .cons ty148 <| .cons ty150 <| .cons ty151 <| .cons ty152 <| .cons ty153 <| .cons ty154 <| .cons ty156 <| .cons ty157 <| .cons ty158 <| .cons ty159 <| .cons ty160 <| .cons ty161 <| .cons ty162 <| .cons ty163 <| .cons ty164 <| .cons ty165 <| .cons ty166 <| .cons ty167 <| .cons ty168 <| .cons ty170 <| .cons ty171 <| .cons ty172 <| .cons ty174 <| .cons ty175 <| .cons ty176 <| .cons ty177 <| .cons ty178 <| .cons ty179 <| .cons ty180 <| .cons ty181 <| .cons ty182 <| .cons ty183 <| .cons ty184 <| .cons ty186 <| .cons ty187 <| .cons ty188 <| .cons ty189 <| .cons ty191 <| .cons ty192 <| .cons ty193 <| .cons ty194 <| .cons ty195 <| .cons ty196 <| .cons ty197 <| .cons ty198 <| .cons ty199 <| .cons ty200 <| .cons ty201 <| .cons ty202 <| .cons ty203 <| .cons ty204 <| .cons ty205 <| .cons ty206 <| .cons ty207 <| .cons ty208 <| .cons ty209 <| .cons ty211 <| .cons ty212 <| .cons ty213 <| .cons ty219 <| .cons ty222 <| .cons ty223 <| .cons ty226 <| .cons ty228 <| .cons ty229 <| .nil _
theorem L1 : ty lay 1 = some ⟨.fn, 1, 8, [.nilFunc]⟩ := rfl
theorem L2 : ty lay 2 = some ⟨.int .i64, 1, 8, [.int .i64 0]⟩ := rfl
theorem L3 : ty lay 3 = some ⟨.int .i64, 1, 8, [.int .i64 0]⟩ := rfl
theorem L4 : ty lay 4 = some ⟨.bool, 1, 1, [.bool false]⟩ := rfl
theorem L5 : ty lay 5 = some ⟨.int .u8, 1, 1, [.int .u8 0]⟩ := rfl
theorem L9 : ty lay 9 = some ⟨.str, 1, 16, [.string ByteArray.empty]⟩ := rfl
theorem L12 : ty lay 12 = some ⟨.int .u64, 1, 8, [.int .u64 0]⟩ := rfl
theorem L17 : ty lay 17 = some ⟨.ptr 227, 1, 8, [.pointer none]⟩ := rfl
theorem L20 : ty lay 20 = some ⟨.iface, 1, 16, [.nilIface]⟩ := rfl
theorem L21 : ty lay 21 = some ⟨.int .i32, 1, 4, [.int .i32 0]⟩ := rfl
theorem L22 : ty lay 22 = some ⟨.struct [(0, 3), (1, 3)], 2, 16, [.int .i64 0, .int .i64 0]⟩ := rfl
theorem L23 : ty lay 23 = some ⟨.struct [(0, 3), (1, 3)], 2, 16, [.int .i64 0, .int .i64 0]⟩ := rfl
theorem L24 : ty lay 24 = some ⟨.slice 37, 1, 24, [.slice none 0 0]⟩ := rfl
theorem L25 : ty lay 25 = some ⟨.struct [(0, 23), (2, 24)], 3, 40, [.int .i64 0, .int .i64 0, .slice none 0 0]⟩ := rfl
theorem L26 : ty lay 26 = some ⟨.struct [(0, 23), (2, 24)], 3, 40, [.int .i64 0, .int .i64 0, .slice none 0 0]⟩ := rfl
theorem L27 : ty lay 27 = some ⟨.slice 52, 1, 24, [.slice none 0 0]⟩ := rfl
theorem L28 : ty lay 28 = some ⟨.slice 44, 1, 24, [.slice none 0 0]⟩ := rfl
theorem L29 : ty lay 29 = some ⟨.slice 229, 1, 24, [.slice none 0 0]⟩ := rfl
theorem L30 : ty lay 30 = some ⟨.int .u64, 1, 8, [.int .u64 0]⟩ := rfl
theorem L31 : ty lay 31 = some ⟨.int .u16, 1, 2, [.int .u16 0]⟩ := rfl
theorem L32 : ty lay 32 = some ⟨.array 4 31, 4, 8, [.int .u16 0, .int .u16 0, .int .u16 0, .int .u16 0]⟩ := rfl
theorem L33 : ty lay 33 = some ⟨.array 4 31, 4, 8, [.int .u16 0, .int .u16 0, .int .u16 0, .int .u16 0]⟩ := rfl
theorem L34 : ty lay 34 = some ⟨.struct [(0, 30), (1, 3), (2, 33)], 6, 24, [.int .u64 0, .int .i64 0, .int .u16 0, .int .u16 0, .int .u16 0, .int .u16 0]⟩ := rfl
theorem L35 : ty lay 35 = some ⟨.struct [(0, 30), (1, 3), (2, 33)], 6, 24, [.int .u64 0, .int .i64 0, .int .u16 0, .int .u16 0, .int .u16 0, .int .u16 0]⟩ := rfl
theorem L36 : ty lay 36 = some ⟨.struct [(0, 3), (1, 28), (2, 29), (3, 35), (9, 30)], 10, 88, [.int .i64 0, .slice none 0 0, .slice none 0 0, .int .u64 0, .int .i64 0, .int .u16 0, .int .u16 0, .int .u16 0, .int .u16 0, .int .u64 0]⟩ := rfl
theorem L37 : ty lay 37 = some ⟨.struct [(0, 3), (1, 28), (2, 29), (3, 35), (9, 30)], 10, 88, [.int .i64 0, .slice none 0 0, .slice none 0 0, .int .u64 0, .int .i64 0, .int .u16 0, .int .u16 0, .int .u16 0, .int .u16 0, .int .u64 0]⟩ := rfl
theorem L38 : ty lay 38 = some ⟨.fn, 1, 8, [.nilFunc]⟩ := rfl
theorem L39 : ty lay 39 = some ⟨.struct [(0, 30), (1, 30), (2, 30)], 3, 24, [.int .u64 0, .int .u64 0, .int .u64 0]⟩ := rfl
theorem L40 : ty lay 40 = some ⟨.struct [(0, 30), (1, 30), (2, 30)], 3, 24, [.int .u64 0, .int .u64 0, .int .u64 0]⟩ := rfl
theorem L41 : ty lay 41 = some ⟨.struct [(0, 3), (1, 3), (2, 4), (3, 40), (6, 40), (9, 40), (12, 3), (13, 3)], 14, 112, [.int .i64 0, .int .i64 0, .bool false, .int .u64 0, .int .u64 0, .int .u64 0, .int .u64 0, .int .u64 0, .int .u64 0, .int .u64 0, .int .u64 0, .int .u64 0, .int .i64 0, .int .i64 0]⟩ := rfl
theorem L42 : ty lay 42 = some ⟨.struct [(0, 3), (1, 3), (2, 4), (3, 40), (6, 40), (9, 40), (12, 3), (13, 3)], 14, 112, [.int .i64 0, .int .i64 0, .bool false, .int .u64 0, .int .u64 0, .int .u64 0, .int .u64 0, .int .u64 0, .int .u64 0, .int .u64 0, .int .u64 0, .int .u64 0, .int .i64 0, .int .i64 0]⟩ := rfl
theorem L43 : ty lay 43 = some ⟨.struct [(0, 3), (1, 42)], 15, 120, [.int .i64 0, .int .i64 0, .int .i64 0, .bool false, .int .u64 0, .int .u64 0, .int .u64 0, .int .u64 0, .int .u64 0, .int .u64 0, .int .u64 0, .int .u64 0, .int .u64 0, .int .i64 0, .int .i64 0]⟩ := rfl
theorem L44 : ty lay 44 = some ⟨.struct [(0, 3), (1, 42)], 15, 120, [.int .i64 0, .int .i64 0, .int .i64 0, .bool false, .int .u64 0, .int .u64 0, .int .u64 0, .int .u64 0, .int .u64 0, .int .u64 0, .int .u64 0, .int .u64 0, .int .u64 0, .int .i64 0, .int .i64 0]⟩ := rfl
theorem L45 : ty lay 45 = some ⟨.int .i64, 1, 8, [.int .i64 0]⟩ := rfl
theorem L47 : ty lay 47 = some ⟨.fn, 1, 8, [.nilFunc]⟩ := rfl
theorem L48 : ty lay 48 = some ⟨.fn, 1, 8, [.nilFunc]⟩ := rfl
theorem L49 : ty lay 49 = some ⟨.fn, 1, 8, [.nilFunc]⟩ := rfl
theorem L50 : ty lay 50 = some ⟨.fn, 1, 8, [.nilFunc]⟩ := rfl
theorem L51 : ty lay 51 = some ⟨.struct [(0, 3), (1, 4), (2, 4), (3, 30), (4, 30), (5, 3), (6, 35)], 12, 64, [.int .i64 0, .bool false, .bool false, .int .u64 0, .int .u64 0, .int .i64 0, .int .u64 0, .int .i64 0, .int .u16 0, .int .u16 0, .int .u16 0, .int .u16 0]⟩ := rfl
theorem L52 : ty lay 52 = some ⟨.struct [(0, 3), (1, 4), (2, 4), (3, 30), (4, 30), (5, 3), (6, 35)], 12, 64, [.int .i64 0, .bool false, .bool false, .int .u64 0, .int .u64 0, .int .i64 0, .int .u64 0, .int .i64 0, .int .u16 0, .int .u16 0, .int .u16 0, .int .u16 0]⟩ := rfl
theorem L53 : ty lay 53 = some ⟨.fn, 1, 8, [.nilFunc]⟩ := rfl
theorem L54 : ty lay 54 = some ⟨.fn, 1, 8, [.nilFunc]⟩ := rfl
theorem L55 : ty lay 55 = some ⟨.ptr 91, 1, 8, [.pointer none]⟩ := rfl
theorem L56 : ty lay 56 = some ⟨.fn, 1, 8, [.nilFunc]⟩ := rfl
theorem L57 : ty lay 57 = some ⟨.slice 42, 1, 24, [.slice none 0 0]⟩ := rfl
theorem L58 : ty lay 58 = some ⟨.fn, 1, 8, [.nilFunc]⟩ := rfl
theorem L59 : ty lay 59 = some ⟨.fn, 1, 8, [.nilFunc]⟩ := rfl
theorem L60 : ty lay 60 = some ⟨.struct [(0, 57), (1, 3)], 2, 32, [.slice none 0 0, .int .i64 0]⟩ := rfl
theorem L61 : ty lay 61 = some ⟨.struct [(0, 57), (1, 3)], 2, 32, [.slice none 0 0, .int .i64 0]⟩ := rfl
theorem L62 : ty lay 62 = some ⟨.fn, 1, 8, [.nilFunc]⟩ := rfl
theorem L63 : ty lay 63 = some ⟨.slice 40, 1, 24, [.slice none 0 0]⟩ := rfl
theorem L64 : ty lay 64 = some ⟨.fn, 1, 8, [.nilFunc]⟩ := rfl
theorem L65 : ty lay 65 = some ⟨.fn, 1, 8, [.nilFunc]⟩ := rfl
theorem L66 : ty lay 66 = some ⟨.fn, 1, 8, [.nilFunc]⟩ := rfl
theorem L67 : ty lay 67 = some ⟨.fn, 1, 8, [.nilFunc]⟩ := rfl
theorem L68 : ty lay 68 = some ⟨.fn, 1, 8, [.nilFunc]⟩ := rfl
theorem L69 : ty lay 69 = some ⟨.fn, 1, 8, [.nilFunc]⟩ := rfl
theorem L70 : ty lay 70 = some ⟨.fn, 1, 8, [.nilFunc]⟩ := rfl
theorem L71 : ty lay 71 = some ⟨.struct [(0, 30), (1, 30)], 2, 16, [.int .u64 0, .int .u64 0]⟩ := rfl
theorem L72 : ty lay 72 = some ⟨.struct [(0, 30), (1, 30)], 2, 16, [.int .u64 0, .int .u64 0]⟩ := rfl
theorem L73 : ty lay 73 = some ⟨.fn, 1, 8, [.nilFunc]⟩ := rfl
theorem L74 : ty lay 74 = some ⟨.slice 3, 1, 24, [.slice none 0 0]⟩ := rfl
theorem L75 : ty lay 75 = some ⟨.struct [(0, 30), (1, 30), (2, 3), (3, 3), (4, 4)], 5, 40, [.int .u64 0, .int .u64 0, .int .i64 0, .int .i64 0, .bool false]⟩ := rfl
theorem L76 : ty lay 76 = some ⟨.struct [(0, 30), (1, 30), (2, 3), (3, 3), (4, 4)], 5, 40, [.int .u64 0, .int .u64 0, .int .i64 0, .int .i64 0, .bool false]⟩ := rfl
theorem L77 : ty lay 77 = some ⟨.fn, 1, 8, [.nilFunc]⟩ := rfl
theorem L78 : ty lay 78 = some ⟨.fn, 1, 8, [.nilFunc]⟩ := rfl
theorem L79 : ty lay 79 = some ⟨.slice 76, 1, 24, [.slice none 0 0]⟩ := rfl
theorem L80 : ty lay 80 = some ⟨.fn, 1, 8, [.nilFunc]⟩ := rfl
theorem L81 : ty lay 81 = some ⟨.fn, 1, 8, [.nilFunc]⟩ := rfl
theorem L82 : ty lay 82 = some ⟨.array 4 30, 4, 32, [.int .u64 0, .int .u64 0, .int .u64 0, .int .u64 0]⟩ := rfl
theorem L83 : ty lay 83 = some ⟨.array 4 30, 4, 32, [.int .u64 0, .int .u64 0, .int .u64 0, .int .u64 0]⟩ := rfl
theorem L84 : ty lay 84 = some ⟨.fn, 1, 8, [.nilFunc]⟩ := rfl
theorem L85 : ty lay 85 = some ⟨.slice 87, 1, 24, [.slice none 0 0]⟩ := rfl
theorem L86 : ty lay 86 = some ⟨.fn, 1, 8, [.nilFunc]⟩ := rfl
theorem L87 : ty lay 87 = some ⟨.struct [(0, 30), (1, 30), (2, 3), (3, 3), (4, 4)], 5, 40, [.int .u64 0, .int .u64 0, .int .i64 0, .int .i64 0, .bool false]⟩ := rfl
theorem L88 : ty lay 88 = some ⟨.fn, 1, 8, [.nilFunc]⟩ := rfl
theorem L89 : ty lay 89 = some ⟨.map 3 42, 1, 8, [.map none]⟩ := rfl
theorem L90 : ty lay 90 = some ⟨.struct [(0, 89)], 1, 8, [.map none]⟩ := rfl
theorem L91 : ty lay 91 = some ⟨.struct [(0, 89)], 1, 8, [.map none]⟩ := rfl
theorem L93 : ty lay 93 = some ⟨.fn, 1, 8, [.nilFunc]⟩ := rfl
theorem L94 : ty lay 94 = some ⟨.fn, 1, 8, [.nilFunc]⟩ := rfl
theorem L95 : ty lay 95 = some ⟨.fn, 1, 8, [.nilFunc]⟩ := rfl
theorem L96 : ty lay 96 = some ⟨.fn, 1, 8, [.nilFunc]⟩ := rfl
theorem L97 : ty lay 97 = some ⟨.fn, 1, 8, [.nilFunc]⟩ := rfl
theorem L98 : ty lay 98 = some ⟨.fn, 1, 8, [.nilFunc]⟩ := rfl
theorem L99 : ty lay 99 = some ⟨.fn, 1, 8, [.nilFunc]⟩ := rfl
theorem L100 : ty lay 100 = some ⟨.fn, 1, 8, [.nilFunc]⟩ := rfl
theorem L101 : ty lay 101 = some ⟨.fn, 1, 8, [.nilFunc]⟩ := rfl
theorem L102 : ty lay 102 = some ⟨.fn, 1, 8, [.nilFunc]⟩ := rfl
theorem L103 : ty lay 103 = some ⟨.fn, 1, 8, [.nilFunc]⟩ := rfl
theorem L104 : ty lay 104 = some ⟨.fn, 1, 8, [.nilFunc]⟩ := rfl
theorem L105 : ty lay 105 = some ⟨.struct [(0, 30), (1, 4)], 2, 16, [.int .u64 0, .bool false]⟩ := rfl
theorem L106 : ty lay 106 = some ⟨.struct [(0, 30), (1, 4)], 2, 16, [.int .u64 0, .bool false]⟩ := rfl
theorem L107 : ty lay 107 = some ⟨.fn, 1, 8, [.nilFunc]⟩ := rfl
theorem L108 : ty lay 108 = some ⟨.fn, 1, 8, [.nilFunc]⟩ := rfl
theorem L109 : ty lay 109 = some ⟨.fn, 1, 8, [.nilFunc]⟩ := rfl
theorem L110 : ty lay 110 = some ⟨.fn, 1, 8, [.nilFunc]⟩ := rfl
theorem L111 : ty lay 111 = some ⟨.fn, 1, 8, [.nilFunc]⟩ := rfl
theorem L113 : ty lay 113 = some ⟨.fn, 1, 8, [.nilFunc]⟩ := rfl
theorem L114 : ty lay 114 = some ⟨.int .u64, 1, 8, [.int .u64 0]⟩ := rfl
theorem L115 : ty lay 115 = some ⟨.fn, 1, 8, [.nilFunc]⟩ := rfl
theorem L116 : ty lay 116 = some ⟨.fn, 1, 8, [.nilFunc]⟩ := rfl
theorem L117 : ty lay 117 = some ⟨.fn, 1, 8, [.nilFunc]⟩ := rfl
theorem L118 : ty lay 118 = some ⟨.ptr 76, 1, 8, [.pointer none]⟩ := rfl
theorem L119 : ty lay 119 = some ⟨.fn, 1, 8, [.nilFunc]⟩ := rfl
theorem L120 : ty lay 120 = some ⟨.fn, 1, 8, [.nilFunc]⟩ := rfl
theorem L121 : ty lay 121 = some ⟨.fn, 1, 8, [.nilFunc]⟩ := rfl
theorem L122 : ty lay 122 = some ⟨.fn, 1, 8, [.nilFunc]⟩ := rfl
theorem L123 : ty lay 123 = some ⟨.fn, 1, 8, [.nilFunc]⟩ := rfl
theorem L124 : ty lay 124 = some ⟨.fn, 1, 8, [.nilFunc]⟩ := rfl
theorem L125 : ty lay 125 = some ⟨.fn, 1, 8, [.nilFunc]⟩ := rfl
theorem L126 : ty lay 126 = some ⟨.array 3 40, 9, 72, [.int .u64 0, .int .u64 0, .int .u64 0, .int .u64 0, .int .u64 0, .int .u64 0, .int .u64 0, .int .u64 0, .int .u64 0]⟩ := rfl
theorem L127 : ty lay 127 = some ⟨.int .i64, 1, 8, [.int .i64 0]⟩ := rfl
theorem L128 : ty lay 128 = some ⟨.fn, 1, 8, [.nilFunc]⟩ := rfl
theorem L129 : ty lay 129 = some ⟨.fn, 1, 8, [.nilFunc]⟩ := rfl
theorem L130 : ty lay 130 = some ⟨.fn, 1, 8, [.nilFunc]⟩ := rfl
theorem L131 : ty lay 131 = some ⟨.fn, 1, 8, [.nilFunc]⟩ := rfl
theorem L132 : ty lay 132 = some ⟨.fn, 1, 8, [.nilFunc]⟩ := rfl
theorem L133 : ty lay 133 = some ⟨.fn, 1, 8, [.nilFunc]⟩ := rfl
theorem L134 : ty lay 134 = some ⟨.fn, 1, 8, [.nilFunc]⟩ := rfl
theorem L135 : ty lay 135 = some ⟨.fn, 1, 8, [.nilFunc]⟩ := rfl
theorem L136 : ty lay 136 = some ⟨.fn, 1, 8, [.nilFunc]⟩ := rfl
theorem L137 : ty lay 137 = some ⟨.fn, 1, 8, [.nilFunc]⟩ := rfl
theorem L138 : ty lay 138 = some ⟨.slice 30, 1, 24, [.slice none 0 0]⟩ := rfl
theorem L139 : ty lay 139 = some ⟨.fn, 1, 8, [.nilFunc]⟩ := rfl
theorem L140 : ty lay 140 = some ⟨.fn, 1, 8, [.nilFunc]⟩ := rfl
theorem L142 : ty lay 142 = some ⟨.fn, 1, 8, [.nilFunc]⟩ := rfl
theorem L143 : ty lay 143 = some ⟨.slice 63, 1, 24, [.slice none 0 0]⟩ := rfl
theorem L144 : ty lay 144 = some ⟨.fn, 1, 8, [.nilFunc]⟩ := rfl
theorem L145 : ty lay 145 = some ⟨.fn, 1, 8, [.nilFunc]⟩ := rfl
theorem L146 : ty lay 146 = some ⟨.fn, 1, 8, [.nilFunc]⟩ := rfl
theorem L147 : ty lay 147 = some ⟨.fn, 1, 8, [.nilFunc]⟩ := rfl
theorem L148 : ty lay 148 = some ⟨.fn, 1, 8, [.nilFunc]⟩ := rfl
theorem L150 : ty lay 150 = some ⟨.fn, 1, 8, [.nilFunc]⟩ := rfl
theorem L151 : ty lay 151 = some ⟨.fn, 1, 8, [.nilFunc]⟩ := rfl
theorem L152 : ty lay 152 = some ⟨.struct [(0, 30), (1, 3)], 2, 16, [.int .u64 0, .int .i64 0]⟩ := rfl
theorem L153 : ty lay 153 = some ⟨.struct [(0, 30), (1, 3)], 2, 16, [.int .u64 0, .int .i64 0]⟩ := rfl
theorem L154 : ty lay 154 = some ⟨.fn, 1, 8, [.nilFunc]⟩ := rfl
theorem L156 : ty lay 156 = some ⟨.fn, 1, 8, [.nilFunc]⟩ := rfl
theorem L157 : ty lay 157 = some ⟨.fn, 1, 8, [.nilFunc]⟩ := rfl
theorem L158 : ty lay 158 = some ⟨.fn, 1, 8, [.nilFunc]⟩ := rfl
theorem L159 : ty lay 159 = some ⟨.fn, 1, 8, [.nilFunc]⟩ := rfl
theorem L160 : ty lay 160 = some ⟨.fn, 1, 8, [.nilFunc]⟩ := rfl
theorem L161 : ty lay 161 = some ⟨.fn, 1, 8, [.nilFunc]⟩ := rfl
theorem L162 : ty lay 162 = some ⟨.fn, 1, 8, [.nilFunc]⟩ := rfl
theorem L163 : ty lay 163 = some ⟨.fn, 1, 8, [.nilFunc]⟩ := rfl
theorem L164 : ty lay 164 = some ⟨.fn, 1, 8, [.nilFunc]⟩ := rfl
theorem L165 : ty lay 165 = some ⟨.fn, 1, 8, [.nilFunc]⟩ := rfl
theorem L166 : ty lay 166 = some ⟨.fn, 1, 8, [.nilFunc]⟩ := rfl
theorem L167 : ty lay 167 = some ⟨.fn, 1, 8, [.nilFunc]⟩ := rfl
theorem L168 : ty lay 168 = some ⟨.fn, 1, 8, [.nilFunc]⟩ := rfl
theorem L170 : ty lay 170 = some ⟨.fn, 1, 8, [.nilFunc]⟩ := rfl
theorem L171 : ty lay 171 = some ⟨.fn, 1, 8, [.nilFunc]⟩ := rfl
theorem L172 : ty lay 172 = some ⟨.fn, 1, 8, [.nilFunc]⟩ := rfl
theorem L174 : ty lay 174 = some ⟨.fn, 1, 8, [.nilFunc]⟩ := rfl
theorem L175 : ty lay 175 = some ⟨.fn, 1, 8, [.nilFunc]⟩ := rfl
theorem L176 : ty lay 176 = some ⟨.fn, 1, 8, [.nilFunc]⟩ := rfl
theorem L177 : ty lay 177 = some ⟨.fn, 1, 8, [.nilFunc]⟩ := rfl
theorem L178 : ty lay 178 = some ⟨.fn, 1, 8, [.nilFunc]⟩ := rfl
theorem L179 : ty lay 179 = some ⟨.fn, 1, 8, [.nilFunc]⟩ := rfl
theorem L180 : ty lay 180 = some ⟨.fn, 1, 8, [.nilFunc]⟩ := rfl
theorem L181 : ty lay 181 = some ⟨.fn, 1, 8, [.nilFunc]⟩ := rfl
theorem L182 : ty lay 182 = some ⟨.fn, 1, 8, [.nilFunc]⟩ := rfl
theorem L183 : ty lay 183 = some ⟨.fn, 1, 8, [.nilFunc]⟩ := rfl
theorem L184 : ty lay 184 = some ⟨.int .i64, 1, 8, [.int .i64 0]⟩ := rfl
theorem L186 : ty lay 186 = some ⟨.fn, 1, 8, [.nilFunc]⟩ := rfl
theorem L187 : ty lay 187 = some ⟨.fn, 1, 8, [.nilFunc]⟩ := rfl
theorem L188 : ty lay 188 = some ⟨.fn, 1, 8, [.nilFunc]⟩ := rfl
theorem L189 : ty lay 189 = some ⟨.fn, 1, 8, [.nilFunc]⟩ := rfl
theorem L191 : ty lay 191 = some ⟨.fn, 1, 8, [.nilFunc]⟩ := rfl
theorem L192 : ty lay 192 = some ⟨.fn, 1, 8, [.nilFunc]⟩ := rfl
theorem L193 : ty lay 193 = some ⟨.int .u32, 1, 4, [.int .u32 0]⟩ := rfl
theorem L194 : ty lay 194 = some ⟨.fn, 1, 8, [.nilFunc]⟩ := rfl
theorem L195 : ty lay 195 = some ⟨.fn, 1, 8, [.nilFunc]⟩ := rfl
theorem L196 : ty lay 196 = some ⟨.fn, 1, 8, [.nilFunc]⟩ := rfl
theorem L197 : ty lay 197 = some ⟨.fn, 1, 8, [.nilFunc]⟩ := rfl
theorem L198 : ty lay 198 = some ⟨.fn, 1, 8, [.nilFunc]⟩ := rfl
theorem L199 : ty lay 199 = some ⟨.fn, 1, 8, [.nilFunc]⟩ := rfl
theorem L200 : ty lay 200 = some ⟨.fn, 1, 8, [.nilFunc]⟩ := rfl
theorem L201 : ty lay 201 = some ⟨.int .u64, 1, 8, [.int .u64 0]⟩ := rfl
theorem L202 : ty lay 202 = some ⟨.fn, 1, 8, [.nilFunc]⟩ := rfl
theorem L203 : ty lay 203 = some ⟨.fn, 1, 8, [.nilFunc]⟩ := rfl
theorem L204 : ty lay 204 = some ⟨.fn, 1, 8, [.nilFunc]⟩ := rfl
theorem L205 : ty lay 205 = some ⟨.ptr 3, 1, 8, [.pointer none]⟩ := rfl
theorem L206 : ty lay 206 = some ⟨.fn, 1, 8, [.nilFunc]⟩ := rfl
theorem L207 : ty lay 207 = some ⟨.fn, 1, 8, [.nilFunc]⟩ := rfl
theorem L208 : ty lay 208 = some ⟨.fn, 1, 8, [.nilFunc]⟩ := rfl
theorem L209 : ty lay 209 = some ⟨.ptr 201, 1, 8, [.pointer none]⟩ := rfl
theorem L211 : ty lay 211 = some ⟨.fn, 1, 8, [.nilFunc]⟩ := rfl
theorem L212 : ty lay 212 = some ⟨.fn, 1, 8, [.nilFunc]⟩ := rfl
theorem L213 : ty lay 213 = some ⟨.fn, 1, 8, [.nilFunc]⟩ := rfl
theorem L219 : ty lay 219 = some ⟨.fn, 1, 8, [.nilFunc]⟩ := rfl
theorem L222 : ty lay 222 = some ⟨.fn, 1, 8, [.nilFunc]⟩ := rfl
theorem L223 : ty lay 223 = some ⟨.ptr 5, 1, 8, [.pointer none]⟩ := rfl
theorem L226 : ty lay 226 = some ⟨.struct [(0, 12), (1, 12), (2, 193), (3, 220), (4, 5), (5, 5), (6, 221), (7, 222), (8, 223), (9, 224), (10, 225)], 11, 48, [.int .u64 0, .int .u64 0, .int .u32 0, .int .u8 0, .int .u8 0, .int .u8 0, .int .u8 0, .nilFunc, .pointer none, .int .i32 0, .int .i32 0]⟩ := rfl
theorem L228 : ty lay 228 = some ⟨.struct [(0, 33), (4, 33), (8, 3)], 9, 24, [.int .u16 0, .int .u16 0, .int .u16 0, .int .u16 0, .int .u16 0, .int .u16 0, .int .u16 0, .int .u16 0, .int .i64 0]⟩ := rfl
theorem L229 : ty lay 229 = some ⟨.struct [(0, 33), (4, 33), (8, 3)], 9, 24, [.int .u16 0, .int .u16 0, .int .u16 0, .int .u16 0, .int .u16 0, .int .u16 0, .int .u16 0, .int .u16 0, .int .i64 0]⟩ := rfl
theorem eq22 : EqTyOk Tryz.prog 22 [0, 0] := ⟨by kernel_rfl, by kernel_rfl, by kernel_rfl⟩
theorem eq23 : EqTyOk Tryz.prog 23 [0, 0] := ⟨by kernel_rfl, by kernel_rfl, by kernel_rfl⟩
theorem eq32 : EqTyOk Tryz.prog 32 [0, 0, 0, 0] := ⟨by kernel_rfl, by kernel_rfl, by kernel_rfl⟩
theorem eq33 : EqTyOk Tryz.prog 33 [0, 0, 0, 0] := ⟨by kernel_rfl, by kernel_rfl, by kernel_rfl⟩
theorem eq34 : EqTyOk Tryz.prog 34 [0, 0, 0, 0, 0, 0] := ⟨by kernel_rfl, by kernel_rfl, by kernel_rfl⟩
theorem eq35 : EqTyOk Tryz.prog 35 [0, 0, 0, 0, 0, 0] := ⟨by kernel_rfl, by kernel_rfl, by kernel_rfl⟩
theorem eq39 : EqTyOk Tryz.prog 39 [0, 0, 0] := ⟨by kernel_rfl, by kernel_rfl, by kernel_rfl⟩
theorem eq40 : EqTyOk Tryz.prog 40 [0, 0, 0] := ⟨by kernel_rfl, by kernel_rfl, by kernel_rfl⟩
theorem eq41 : EqTyOk Tryz.prog 41 [0, 0, 1, 0, 0, 0, 0, 0, 0, 0, 0, 0, 0, 0] := ⟨by kernel_rfl, by kernel_rfl, by kernel_rfl⟩
theorem eq42 : EqTyOk Tryz.prog 42 [0, 0, 1, 0, 0, 0, 0, 0, 0, 0, 0, 0, 0, 0] := ⟨by kernel_rfl, by kernel_rfl, by kernel_rfl⟩
theorem eq43 : EqTyOk Tryz.prog 43 [0, 0, 0, 1, 0, 0, 0, 0, 0, 0, 0, 0, 0, 0, 0] := ⟨by kernel_rfl, by kernel_rfl, by kernel_rfl⟩
theorem eq44 : EqTyOk Tryz.prog 44 [0, 0, 0, 1, 0, 0, 0, 0, 0, 0, 0, 0, 0, 0, 0] := ⟨by kernel_rfl, by kernel_rfl, by kernel_rfl⟩
theorem eq51 : EqTyOk Tryz.prog 51 [0, 1, 1, 0, 0, 0, 0, 0, 0, 0, 0, 0] := ⟨by kernel_rfl, by kernel_rfl, by kernel_rfl⟩
theorem eq52 : EqTyOk Tryz.prog 52 [0, 1, 1, 0, 0, 0, 0, 0, 0, 0, 0, 0] := ⟨by kernel_rfl, by kernel_rfl, by kernel_rfl⟩
theorem eq71 : EqTyOk Tryz.prog 71 [0, 0] := ⟨by kernel_rfl, by kernel_rfl, by kernel_rfl⟩
theorem eq72 : EqTyOk Tryz.prog 72 [0, 0] := ⟨by kernel_rfl, by kernel_rfl, by kernel_rfl⟩
theorem eq75 : EqTyOk Tryz.prog 75 [0, 0, 0, 0, 1] := ⟨by kernel_rfl, by kernel_rfl, by kernel_rfl⟩
theorem eq76 : EqTyOk Tryz.prog 76 [0, 0, 0, 0, 1] := ⟨by kernel_rfl, by kernel_rfl, by kernel_rfl⟩
theorem eq82 : EqTyOk Tryz.prog 82 [0, 0, 0, 0] := ⟨by kernel_rfl, by kernel_rfl, by kernel_rfl⟩
theorem eq83 : EqTyOk Tryz.prog 83 [0, 0, 0, 0] := ⟨by kernel_rfl, by kernel_rfl, by kernel_rfl⟩
theorem eq87 : EqTyOk Tryz.prog 87 [0, 0, 0, 0, 1] := ⟨by kernel_rfl, by kernel_rfl, by kernel_rfl⟩
theorem eq105 : EqTyOk Tryz.prog 105 [0, 1] := ⟨by kernel_rfl, by kernel_rfl, by kernel_rfl⟩
theorem eq106 : EqTyOk Tryz.prog 106 [0, 1] := ⟨by kernel_rfl, by kernel_rfl, by kernel_rfl⟩
theorem eq126 : EqTyOk Tryz.prog 126 [0, 0, 0, 0, 0, 0, 0, 0, 0] := ⟨by kernel_rfl, by kernel_rfl, by kernel_rfl⟩
theorem eq152 : EqTyOk Tryz.prog 152 [0, 0] := ⟨by kernel_rfl, by kernel_rfl, by kernel_rfl⟩
theorem eq153 : EqTyOk Tryz.prog 153 [0, 0] := ⟨by kernel_rfl, by kernel_rfl, by kernel_rfl⟩
theorem eq228 : EqTyOk Tryz.prog 228 [0, 0, 0, 0, 0, 0, 0, 0, 0] := ⟨by kernel_rfl, by kernel_rfl, by kernel_rfl⟩
theorem eq229 : EqTyOk Tryz.prog 229 [0, 0, 0, 0, 0, 0, 0, 0, 0] := ⟨by kernel_rfl, by kernel_rfl, by kernel_rfl⟩
def eqs : EqT := [(22, [0, 0]), (23, [0, 0]), (32, [0, 0, 0, 0]), (33, [0, 0, 0, 0]), (34, [0, 0, 0, 0, 0, 0]), (35, [0, 0, 0, 0, 0, 0]), (39, [0, 0, 0]), (40, [0, 0, 0]), (41, [0, 0, 1, 0, 0, 0, 0, 0, 0, 0, 0, 0, 0, 0]), (42, [0, 0, 1, 0, 0, 0, 0, 0, 0, 0, 0, 0, 0, 0]), (43, [0, 0, 0, 1, 0, 0, 0, 0, 0, 0, 0, 0, 0, 0, 0]), (44, [0, 0, 0, 1, 0, 0, 0, 0, 0, 0, 0, 0, 0, 0, 0]), (51, [0, 1, 1, 0, 0, 0, 0, 0, 0, 0, 0, 0]), (52, [0, 1, 1, 0, 0, 0, 0, 0, 0, 0, 0, 0]), (71, [0, 0]), (72, [0, 0]), (75, [0, 0, 0, 0, 1]), (76, [0, 0, 0, 0, 1]), (82, [0, 0, 0, 0]), (83, [0, 0, 0, 0]), (87, [0, 0, 0, 0, 1]), (105, [0, 1]), (106, [0, 1]), (126, [0, 0, 0, 0, 0, 0, 0, 0, 0]), (152, [0, 0]), (153, [0, 0]), (228, [0, 0, 0, 0, 0, 0, 0, 0, 0]), (229, [0, 0, 0, 0, 0, 0, 0, 0, 0])]
theorem eqs_ok : EqOk Tryz.prog eqs := .cons eq22 <| .cons eq23 <| .cons eq32 <| .cons eq33 <| .cons eq34 <| .cons eq35 <| .cons eq39 <| .cons eq40 <| .cons eq41 <| .cons eq42 <| .cons eq43 <| .cons eq44 <| .cons eq51 <| .cons eq52 <| .cons eq71 <| .cons eq72 <| .cons eq75 <| .cons eq76 <| .cons eq82 <| .cons eq83 <| .cons eq87 <| .cons eq105 <| .cons eq106 <| .cons eq126 <| .cons eq152 <| .cons eq153 <| .cons eq228 <| .cons eq229 <| .nil _
theorem E22 : eqty eqs 22 = some [0, 0] := rfl
theorem E23 : eqty eqs 23 = some [0, 0] := rfl
theorem E32 : eqty eqs 32 = some [0, 0, 0, 0] := rfl
theorem E33 : eqty eqs 33 = some [0, 0, 0, 0] := rfl
theorem E34 : eqty eqs 34 = some [0, 0, 0, 0, 0, 0] := rfl
theorem E35 : eqty eqs 35 = some [0, 0, 0, 0, 0, 0] := rfl
theorem E39 : eqty eqs 39 = some [0, 0, 0] := rfl
theorem E40 : eqty eqs 40 = some [0, 0, 0] := rfl
theorem E41 : eqty eqs 41 = some [0, 0, 1, 0, 0, 0, 0, 0, 0, 0, 0, 0, 0, 0] := rfl
theorem E42 : eqty eqs 42 = some [0, 0, 1, 0, 0, 0, 0, 0, 0, 0, 0, 0, 0, 0] := rfl
theorem E43 : eqty eqs 43 = some [0, 0, 0, 1, 0, 0, 0, 0, 0, 0, 0, 0, 0, 0, 0] := rfl
theorem E44 : eqty eqs 44 = some [0, 0, 0, 1, 0, 0, 0, 0, 0, 0, 0, 0, 0, 0, 0] := rfl
theorem E51 : eqty eqs 51 = some [0, 1, 1, 0, 0, 0, 0, 0, 0, 0, 0, 0] := rfl
theorem E52 : eqty eqs 52 = some [0, 1, 1, 0, 0, 0, 0, 0, 0, 0, 0, 0] := rfl
theorem E71 : eqty eqs 71 = some [0, 0] := rfl
theorem E72 : eqty eqs 72 = some [0, 0] := rfl
theorem E75 : eqty eqs 75 = some [0, 0, 0, 0, 1] := rfl
theorem E76 : eqty eqs 76 = some [0, 0, 0, 0, 1] := rfl
theorem E82 : eqty eqs 82 = some [0, 0, 0, 0] := rfl
theorem E83 : eqty eqs 83 = some [0, 0, 0, 0] := rfl
theorem E87 : eqty eqs 87 = some [0, 0, 0, 0, 1] := rfl
theorem E105 : eqty eqs 105 = some [0, 1] := rfl
theorem E106 : eqty eqs 106 = some [0, 1] := rfl
theorem E126 : eqty eqs 126 = some [0, 0, 0, 0, 0, 0, 0, 0, 0] := rfl
theorem E152 : eqty eqs 152 = some [0, 0] := rfl
theorem E153 : eqty eqs 153 = some [0, 0] := rfl
theorem E228 : eqty eqs 228 = some [0, 0, 0, 0, 0, 0, 0, 0, 0] := rfl
theorem E229 : eqty eqs 229 = some [0, 0, 0, 0, 0, 0, 0, 0, 0] := rfl
def cx : Cx := ⟨lay, eqs⟩
theorem cx_ok : CxOk Tryz.prog cx := ⟨lay_ok, eqs_ok⟩
/-- floodgate/floodgatelaw38.PlanTells -/
theorem fn3 : FnOk Tryz.prog 3 := fun args w => Tryz.call3 args w
/-- floodgate/floodgatelaw38.PlanRoom -/
theorem fn4 : FnOk Tryz.prog 4 := fun args w => Tryz.call4 args w
/-- floodgate/floodgatelaw38.fifty -/
theorem fn5 : FnOk Tryz.prog 5 := fun args w => Tryz.call5 args w
/-- floodgate/plan.Delay -/
theorem fn6 : FnOk Tryz.prog 6 := fun args w => Tryz.call6 args w
/-- floodgate/plan.Latest -/
theorem fn7 : FnOk Tryz.prog 7 := fun args w => Tryz.call7 args w
/-- floodgate/floodgateref24.May -/
theorem fn8 : FnOk Tryz.prog 8 := fun args w => Tryz.call8 args w
/-- floodgate/floodgateref38.Delay -/
theorem fn9 : FnOk Tryz.prog 9 := fun args w => Tryz.call9 args w
/-- floodgate/floodgateref38.Latest -/
theorem fn10 : FnOk Tryz.prog 10 := fun args w => Tryz.call10 args w
/-- floodgate/hier.New -/
theorem fn11 : FnOk Tryz.prog 11 := fun args w => Tryz.call11 args w
/-- (*floodgate/hier.Tree).Add -/
theorem fn12 : FnOk Tryz.prog 12 := fun args w => Tryz.call12 args w
/-- (*floodgate/hier.Tree).Del -/
theorem fn13 : FnOk Tryz.prog 13 := fun args w => Tryz.call13 args w
/-- (*floodgate/hier.Tree).Set -/
theorem fn14 : FnOk Tryz.prog 14 := fun args w => Tryz.call14 args w
/-- floodgate/floodgateref19.One -/
theorem fn15 : FnOk Tryz.prog 15 := fun args w => Tryz.call15 args w
/-- floodgate/floodgateref18.Reals -/
theorem fn16 : FnOk Tryz.prog 16 := fun args w => Tryz.call16 args w
/-- floodgate/plan.Room -/
theorem fn17 : FnOk Tryz.prog 17 := fun args w => Tryz.call17 args w
/-- floodgate/plan.Admits -/
theorem fn18 : FnOk Tryz.prog 18 := fun args w => Tryz.call18 args w
/-- floodgate/floodgateref08.Fits -/
theorem fn19 : FnOk Tryz.prog 19 := fun args w => Tryz.call19 args w
/-- floodgate/plan.together -/
theorem fn20 : FnOk Tryz.prog 20 := fun args w => Tryz.call20 args w
/-- floodgate/curve.Ticks -/
theorem fn21 : FnOk Tryz.prog 21 := fun args w => Tryz.call21 args w
/-- floodgate/wide.Mul -/
theorem fn22 : FnOk Tryz.prog 22 := fun args w => Tryz.call22 args w
/-- floodgate/plan.Latest$1 -/
theorem fn23 : FnOk Tryz.prog 23 := fun args w => Tryz.call23 args w
/-- floodgate/trace.Came -/
theorem fn24 : FnOk Tryz.prog 24 := fun args w => Tryz.call24 args w
/-- floodgate/spans.Of -/
theorem fn25 : FnOk Tryz.prog 25 := fun args w => Tryz.call25 args w
/-- floodgate/floodgateref38.together -/
theorem fn26 : FnOk Tryz.prog 26 := fun args w => Tryz.call26 args w
/-- floodgate/floodgateref04.Ticks -/
theorem fn27 : FnOk Tryz.prog 27 := fun args w => Tryz.call27 args w
/-- floodgate/floodgateref20.Units -/
theorem fn28 : FnOk Tryz.prog 28 := fun args w => Tryz.call28 args w
/-- floodgate/floodgateref31.Of -/
theorem fn29 : FnOk Tryz.prog 29 := fun args w => Tryz.call29 args w
/-- floodgate/floodgateref38.Came -/
theorem fn30 : FnOk Tryz.prog 30 := fun args w => Tryz.call30 args w
/-- floodgate/spec.Right -/
theorem fn31 : FnOk Tryz.prog 31 := fun args w => Tryz.call31 args w
/-- floodgate/spec.Shares -/
theorem fn32 : FnOk Tryz.prog 32 := fun args w => Tryz.call32 args w
/-- (*floodgate/hier.Tree).shares -/
theorem fn33 : FnOk Tryz.prog 33 := fun args w => Tryz.call33 args w
/-- (*floodgate/hier.Tree).Depth -/
theorem fn34 : FnOk Tryz.prog 34 := fun args w => Tryz.call34 args w
/-- (*floodgate/hier.Tree).Children -/
theorem fn35 : FnOk Tryz.prog 35 := fun args w => Tryz.call35 args w
/-- (*floodgate/hier.Tree).Set$1 -/
theorem fn36 : FnOk Tryz.prog 36 := fun args w => Tryz.call36 args w
/-- slices.ContainsFunc[[]int,int] -/
theorem fn37 : FnOk Tryz.prog 37 := fun args w => Tryz.call37 args w
/-- floodgate/floodgateref18.Add -/
theorem fn38 : FnOk Tryz.prog 38 := fun args w => Tryz.call38 args w
/-- floodgate/floodgateref18.Del -/
theorem fn39 : FnOk Tryz.prog 39 := fun args w => Tryz.call39 args w
/-- floodgate/floodgateref18.Set -/
theorem fn40 : FnOk Tryz.prog 40 := fun args w => Tryz.call40 args w
/-- floodgate/floodgateref04.Of -/
theorem fn41 : FnOk Tryz.prog 41 := fun args w => Tryz.call41 args w
/-- floodgate/admit.Room -/
theorem fn42 : FnOk Tryz.prog 42 := fun args w => Tryz.call42 args w
/-- (*floodgate/hier.Tree).Reals -/
theorem fn43 : FnOk Tryz.prog 43 := fun args w => Tryz.call43 args w
/-- floodgate/admit.Fits -/
theorem fn44 : FnOk Tryz.prog 44 := fun args w => Tryz.call44 args w
/-- slices.Concat[[]floodgate/api.Curve,floodgate/api.Curve] -/
theorem fn45 : FnOk Tryz.prog 45 := fun args w => Tryz.call45 args w
/-- floodgate/floodgateref08.May -/
theorem fn46 : FnOk Tryz.prog 46 := fun args w => Tryz.call46 args w
/-- floodgate/floodgateref08.Full -/
theorem fn47 : FnOk Tryz.prog 47 := fun args w => Tryz.call47 args w
/-- floodgate/curve.Service -/
theorem fn48 : FnOk Tryz.prog 48 := fun args w => Tryz.call48 args w
/-- floodgate/curve.Right -/
theorem fn49 : FnOk Tryz.prog 49 := fun args w => Tryz.call49 args w
/-- floodgate/wide.Compare -/
theorem fn50 : FnOk Tryz.prog 50 := fun args w => Tryz.call50 args w
/-- floodgate/curve.behind -/
theorem fn51 : FnOk Tryz.prog 51 := fun args w => Tryz.call51 args w
/-- floodgate/wide.Sub -/
theorem fn52 : FnOk Tryz.prog 52 := fun args w => Tryz.call52 args w
/-- floodgate/trace.bytes -/
theorem fn53 : FnOk Tryz.prog 53 := fun args w => Tryz.call53 args w
/-- floodgate/trace.Came$1 -/
theorem fn54 : FnOk Tryz.prog 54 := fun args w => Tryz.call54 args w
/-- floodgate/spans.length -/
theorem fn55 : FnOk Tryz.prog 55 := fun args w => Tryz.call55 args w
/-- floodgate/floodgateref04.Service -/
theorem fn56 : FnOk Tryz.prog 56 := fun args w => Tryz.call56 args w
/-- floodgate/floodgateref01.Less -/
theorem fn57 : FnOk Tryz.prog 57 := fun args w => Tryz.call57 args w
/-- floodgate/floodgateref04.Over -/
theorem fn58 : FnOk Tryz.prog 58 := fun args w => Tryz.call58 args w
/-- floodgate/floodgateref01.Minus -/
theorem fn59 : FnOk Tryz.prog 59 := fun args w => Tryz.call59 args w
/-- floodgate/floodgateref01.Mul -/
theorem fn60 : FnOk Tryz.prog 60 := fun args w => Tryz.call60 args w
/-- floodgate/floodgateref31.Lengths -/
theorem fn61 : FnOk Tryz.prog 61 := fun args w => Tryz.call61 args w
/-- floodgate/spec.from -/
theorem fn62 : FnOk Tryz.prog 62 := fun args w => Tryz.call62 args w
/-- floodgate/curve.Of -/
theorem fn63 : FnOk Tryz.prog 63 := fun args w => Tryz.call63 args w
/-- floodgate/spec.Real -/
theorem fn64 : FnOk Tryz.prog 64 := fun args w => Tryz.call64 args w
/-- floodgate/spec.Capped -/
theorem fn65 : FnOk Tryz.prog 65 := fun args w => Tryz.call65 args w
/-- floodgate/spec.has -/
theorem fn66 : FnOk Tryz.prog 66 := fun args w => Tryz.call66 args w
/-- (*floodgate/hier.Tree).Up -/
theorem fn67 : FnOk Tryz.prog 67 := fun args w => Tryz.call67 args w
/-- (*floodgate/hier.Tree).which -/
theorem fn68 : FnOk Tryz.prog 68 := fun args w => Tryz.call68 args w
/-- (*floodgate/hier.Tree).Children$1 -/
theorem fn69 : FnOk Tryz.prog 69 := fun args w => Tryz.call69 args w
/-- slices.IndexFunc[[]int,int] -/
theorem fn70 : FnOk Tryz.prog 70 := fun args w => Tryz.call70 args w
/-- floodgate/floodgateref17.Wrong -/
theorem fn71 : FnOk Tryz.prog 71 := fun args w => Tryz.call71 args w
/-- floodgate/floodgateref18.Find -/
theorem fn72 : FnOk Tryz.prog 72 := fun args w => Tryz.call72 args w
/-- floodgate/floodgateref18.Shares -/
theorem fn73 : FnOk Tryz.prog 73 := fun args w => Tryz.call73 args w
/-- floodgate/floodgateref18.Up -/
theorem fn74 : FnOk Tryz.prog 74 := fun args w => Tryz.call74 args w
/-- floodgate/floodgateref18.put -/
theorem fn75 : FnOk Tryz.prog 75 := fun args w => Tryz.call75 args w
/-- floodgate/floodgateref18.Children -/
theorem fn76 : FnOk Tryz.prog 76 := fun args w => Tryz.call76 args w
/-- floodgate/admit.rest -/
theorem fn77 : FnOk Tryz.prog 77 := fun args w => Tryz.call77 args w
/-- floodgate/sum.Slope -/
theorem fn78 : FnOk Tryz.prog 78 := fun args w => Tryz.call78 args w
/-- floodgate/sum.Knees -/
theorem fn79 : FnOk Tryz.prog 79 := fun args w => Tryz.call79 args w
/-- floodgate/sum.Service -/
theorem fn80 : FnOk Tryz.prog 80 := fun args w => Tryz.call80 args w
/-- floodgate/admit.may -/
theorem fn81 : FnOk Tryz.prog 81 := fun args w => Tryz.call81 args w
/-- floodgate/admit.Full -/
theorem fn82 : FnOk Tryz.prog 82 := fun args w => Tryz.call82 args w
/-- slices.Grow[[]floodgate/api.Curve,floodgate/api.Curve] -/
theorem fn83 : FnOk Tryz.prog 83 := fun args w => Tryz.call83 args w
/-- floodgate/floodgateref07.Knees -/
theorem fn84 : FnOk Tryz.prog 84 := fun args w => Tryz.call84 args w
/-- floodgate/floodgateref08.Carries -/
theorem fn85 : FnOk Tryz.prog 85 := fun args w => Tryz.call85 args w
/-- floodgate/floodgateref07.Service -/
theorem fn86 : FnOk Tryz.prog 86 := fun args w => Tryz.call86 args w
/-- floodgate/floodgateref07.Slope -/
theorem fn87 : FnOk Tryz.prog 87 := fun args w => Tryz.call87 args w
/-- floodgate/wide.Add -/
theorem fn88 : FnOk Tryz.prog 88 := fun args w => Tryz.call88 args w
/-- floodgate/ratio.Ceil -/
theorem fn89 : FnOk Tryz.prog 89 := fun args w => Tryz.call89 args w
/-- floodgate/wide.sub -/
theorem fn90 : FnOk Tryz.prog 90 := fun args w => Tryz.call90 args w
/-- slices.Contains[[]int,int] -/
theorem fn91 : FnOk Tryz.prog 91 := fun args w => Tryz.call91 args w
/-- floodgate/floodgateref01.Plus -/
theorem fn92 : FnOk Tryz.prog 92 := fun args w => Tryz.call92 args w
/-- floodgate/floodgateref02.Ceil -/
theorem fn93 : FnOk Tryz.prog 93 := fun args w => Tryz.call93 args w
/-- floodgate/floodgateref01.Of -/
theorem fn94 : FnOk Tryz.prog 94 := fun args w => Tryz.call94 args w
/-- floodgate/floodgateref31.has -/
theorem fn95 : FnOk Tryz.prog 95 := fun args w => Tryz.call95 args w
/-- (*floodgate/hier.Tree).Get -/
theorem fn96 : FnOk Tryz.prog 96 := fun args w => Tryz.call96 args w
/-- slices.Sort[[]int,int] -/
theorem fn97 : FnOk Tryz.prog 97 := fun args w => Tryz.call97 args w
/-- floodgate/admit.times -/
theorem fn98 : FnOk Tryz.prog 98 := fun args w => Tryz.call98 args w
/-- floodgate/ratio.Floor -/
theorem fn99 : FnOk Tryz.prog 99 := fun args w => Tryz.call99 args w
/-- floodgate/sum.over -/
theorem fn100 : FnOk Tryz.prog 100 := fun args w => Tryz.call100 args w
/-- floodgate/sum.Slope$1 -/
theorem fn101 : FnOk Tryz.prog 101 := fun args w => Tryz.call101 args w
/-- floodgate/wide.Of -/
theorem fn102 : FnOk Tryz.prog 102 := fun args w => Tryz.call102 args w
/-- slices.Sort[[]uint64,uint64] -/
theorem fn103 : FnOk Tryz.prog 103 := fun args w => Tryz.call103 args w
/-- slices.Compact[[]uint64,uint64] -/
theorem fn104 : FnOk Tryz.prog 104 := fun args w => Tryz.call104 args w
/-- floodgate/sum.Service$1 -/
theorem fn105 : FnOk Tryz.prog 105 := fun args w => Tryz.call105 args w
/-- slices.ContainsFunc[[]floodgate/api.Curve,floodgate/api.Curve] -/
theorem fn106 : FnOk Tryz.prog 106 := fun args w => Tryz.call106 args w
/-- floodgate/admit.may$1 -/
theorem fn107 : FnOk Tryz.prog 107 := fun args w => Tryz.call107 args w
/-- slices.IndexFunc[[]uint64,uint64] -/
theorem fn108 : FnOk Tryz.prog 108 := fun args w => Tryz.call108 args w
/-- floodgate/admit.Full$1 -/
theorem fn109 : FnOk Tryz.prog 109 := fun args w => Tryz.call109 args w
/-- floodgate/admit.above -/
theorem fn110 : FnOk Tryz.prog 110 := fun args w => Tryz.call110 args w
/-- floodgate/floodgateref08.Times -/
theorem fn111 : FnOk Tryz.prog 111 := fun args w => Tryz.call111 args w
/-- floodgate/wide.add -/
theorem fn112 : FnOk Tryz.prog 112 := fun args w => Tryz.call112 args w
/-- floodgate/wide.Div -/
theorem fn113 : FnOk Tryz.prog 113 := fun args w => Tryz.call113 args w
/-- floodgate/ratio.narrow -/
theorem fn114 : FnOk Tryz.prog 114 := fun args w => Tryz.call114 args w
/-- slices.Index[[]int,int] -/
theorem fn115 : FnOk Tryz.prog 115 := fun args w => Tryz.call115 args w
/-- floodgate/floodgateref01.Add -/
theorem fn116 : FnOk Tryz.prog 116 := fun args w => Tryz.call116 args w
/-- floodgate/floodgateref01.Quotient -/
theorem fn117 : FnOk Tryz.prog 117 := fun args w => Tryz.call117 args w
/-- floodgate/floodgateref01.Hi -/
theorem fn118 : FnOk Tryz.prog 118 := fun args w => Tryz.call118 args w
/-- floodgate/floodgateref01.Lo -/
theorem fn119 : FnOk Tryz.prog 119 := fun args w => Tryz.call119 args w
/-- slices.pdqsortOrdered[int] -/
theorem fn120 : FnOk Tryz.prog 120 := fun args w => Tryz.call120 args w
/-- math/bits.Len -/
theorem fn121 : FnOk Tryz.prog 121 := fun args w => Tryz.call121 args w
/-- slices.pdqsortOrdered[uint64] -/
theorem fn122 : FnOk Tryz.prog 122 := fun args w => Tryz.call122 args w
/-- slices.IndexFunc[[]floodgate/api.Curve,floodgate/api.Curve] -/
theorem fn123 : FnOk Tryz.prog 123 := fun args w => Tryz.call123 args w
/-- floodgate/floodgateref01.Two -/
theorem fn124 : FnOk Tryz.prog 124 := fun args w => Tryz.call124 args w
/-- floodgate/floodgateref01.twice -/
theorem fn125 : FnOk Tryz.prog 125 := fun args w => Tryz.call125 args w
/-- floodgate/floodgateref01.bit -/
theorem fn126 : FnOk Tryz.prog 126 := fun args w => Tryz.call126 args w
/-- slices.insertionSortOrdered[int] -/
theorem fn127 : FnOk Tryz.prog 127 := fun args w => Tryz.call127 args w
/-- slices.heapSortOrdered[int] -/
theorem fn128 : FnOk Tryz.prog 128 := fun args w => Tryz.call128 args w
/-- slices.breakPatternsOrdered[int] -/
theorem fn129 : FnOk Tryz.prog 129 := fun args w => Tryz.call129 args w
/-- slices.choosePivotOrdered[int] -/
theorem fn130 : FnOk Tryz.prog 130 := fun args w => Tryz.call130 args w
/-- slices.reverseRangeOrdered[int] -/
theorem fn131 : FnOk Tryz.prog 131 := fun args w => Tryz.call131 args w
/-- slices.partialInsertionSortOrdered[int] -/
theorem fn132 : FnOk Tryz.prog 132 := fun args w => Tryz.call132 args w
/-- cmp.Less[int] -/
theorem fn133 : FnOk Tryz.prog 133 := fun args w => Tryz.call133 args w
/-- slices.partitionEqualOrdered[int] -/
theorem fn134 : FnOk Tryz.prog 134 := fun args w => Tryz.call134 args w
/-- slices.partitionOrdered[int] -/
theorem fn135 : FnOk Tryz.prog 135 := fun args w => Tryz.call135 args w
/-- math/bits.Len32 -/
theorem fn136 : FnOk Tryz.prog 136 := fun args w => Tryz.call136 args w
/-- math/bits.Len64 -/
theorem fn137 : FnOk Tryz.prog 137 := fun args w => Tryz.call137 args w
/-- slices.insertionSortOrdered[uint64] -/
theorem fn138 : FnOk Tryz.prog 138 := fun args w => Tryz.call138 args w
/-- slices.heapSortOrdered[uint64] -/
theorem fn139 : FnOk Tryz.prog 139 := fun args w => Tryz.call139 args w
/-- slices.breakPatternsOrdered[uint64] -/
theorem fn140 : FnOk Tryz.prog 140 := fun args w => Tryz.call140 args w
/-- slices.choosePivotOrdered[uint64] -/
theorem fn141 : FnOk Tryz.prog 141 := fun args w => Tryz.call141 args w
/-- slices.reverseRangeOrdered[uint64] -/
theorem fn142 : FnOk Tryz.prog 142 := fun args w => Tryz.call142 args w
/-- slices.partialInsertionSortOrdered[uint64] -/
theorem fn143 : FnOk Tryz.prog 143 := fun args w => Tryz.call143 args w
/-- cmp.Less[uint64] -/
theorem fn144 : FnOk Tryz.prog 144 := fun args w => Tryz.call144 args w
/-- slices.partitionEqualOrdered[uint64] -/
theorem fn145 : FnOk Tryz.prog 145 := fun args w => Tryz.call145 args w
/-- slices.partitionOrdered[uint64] -/
theorem fn146 : FnOk Tryz.prog 146 := fun args w => Tryz.call146 args w
/-- slices.siftDownOrdered[int] -/
theorem fn147 : FnOk Tryz.prog 147 := fun args w => Tryz.call147 args w
/-- slices.nextPowerOfTwo -/
theorem fn148 : FnOk Tryz.prog 148 := fun args w => Tryz.call148 args w
/-- (*slices.xorshift).Next -/
theorem fn149 : FnOk Tryz.prog 149 := fun args w => Tryz.call149 args w
/-- slices.medianAdjacentOrdered[int] -/
theorem fn150 : FnOk Tryz.prog 150 := fun args w => Tryz.call150 args w
/-- slices.medianOrdered[int] -/
theorem fn151 : FnOk Tryz.prog 151 := fun args w => Tryz.call151 args w
/-- cmp.isNaN[int] -/
theorem fn152 : FnOk Tryz.prog 152 := fun args w => Tryz.call152 args w
/-- slices.siftDownOrdered[uint64] -/
theorem fn153 : FnOk Tryz.prog 153 := fun args w => Tryz.call153 args w
/-- slices.medianAdjacentOrdered[uint64] -/
theorem fn154 : FnOk Tryz.prog 154 := fun args w => Tryz.call154 args w
/-- slices.medianOrdered[uint64] -/
theorem fn155 : FnOk Tryz.prog 155 := fun args w => Tryz.call155 args w
/-- cmp.isNaN[uint64] -/
theorem fn156 : FnOk Tryz.prog 156 := fun args w => Tryz.call156 args w
/-- slices.order2Ordered[int] -/
theorem fn157 : FnOk Tryz.prog 157 := fun args w => Tryz.call157 args w
/-- slices.order2Ordered[uint64] -/
theorem fn158 : FnOk Tryz.prog 158 := fun args w => Tryz.call158 args w
attribute [go_sem] cx L1 L2 L3 L4 L5 L9 L12 L17 L20 L21 L22 L23 L24 L25 L26 L27 L28 L29 L30 L31 L32 L33 L34 L35 L36 L37 L38 L39 L40 L41 L42 L43 L44 L45 L47 L48 L49 L50 L51 L52 L53 L54 L55 L56 L57 L58 L59 L60 L61 L62 L63 L64 L65 L66 L67 L68 L69 L70 L71 L72 L73 L74 L75 L76 L77 L78 L79 L80 L81 L82 L83 L84 L85 L86 L87 L88 L89 L90 L91 L93 L94 L95 L96 L97 L98 L99 L100 L101 L102 L103 L104 L105 L106 L107 L108 L109 L110 L111 L113 L114 L115 L116 L117 L118 L119 L120 L121 L122 L123 L124 L125 L126 L127 L128 L129 L130 L131 L132 L133 L134 L135 L136 L137 L138 L139 L140 L142 L143 L144 L145 L146 L147 L148 L150 L151 L152 L153 L154 L156 L157 L158 L159 L160 L161 L162 L163 L164 L165 L166 L167 L168 L170 L171 L172 L174 L175 L176 L177 L178 L179 L180 L181 L182 L183 L184 L186 L187 L188 L189 L191 L192 L193 L194 L195 L196 L197 L198 L199 L200 L201 L202 L203 L204 L205 L206 L207 L208 L209 L211 L212 L213 L219 L222 L223 L226 L228 L229 E22 E23 E32 E33 E34 E35 E39 E40 E41 E42 E43 E44 E51 E52 E71 E72 E75 E76 E82 E83 E87 E105 E106 E126 E152 E153 E228 E229
end Go.Fg.X
