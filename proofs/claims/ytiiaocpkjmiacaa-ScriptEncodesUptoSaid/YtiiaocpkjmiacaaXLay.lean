/- Walks of the functions that the statement reaches. No conditions: contracts and laws. -/
import Derived.Test.YtiiaocpkjmiacaaFgTell
import Derived.Test.YtiiaocpkjmiacaaProg
import Derived.KernelRfl
namespace Go.Fg
set_option linter.unusedSimpArgs false
set_option linter.unusedVariables false
open Go.RowKit (Below)
variable {Z : Nat → Prop}
/-- Only the kinds differ. -/
theorem RelV.kds {h h' : List Ob} {pl : List Pl} {w : World} (key : ∀ (l : Nat) (o : Ob), h[l]? = some o → ∃ o', h'[l]? = some o' ∧ o'.gen = o.gen ∧ o'.sz = o.sz ∧ o'.kd.ty = o.kd.ty) {d : D} {v : Value} (r : RelV Z h pl w d v) : RelV Z h' pl w d v := by
  induction r with
  | cl d v hc => exact .cl d v hc
  | ref l g off len o p a cap ho hp hk hg hs =>
    obtain ⟨o', h3, h4, h5, h6⟩ := key l o ho
    exact .ref l g off len o' p a cap h3 hp (by rw [h6]; exact hk) (by rw [h4]; exact hg) (fun e => by rw [h5]; exact hs (by rw [e, h4]))
  | ptr l g i j o p a ho hp hk hg hs =>
    obtain ⟨o', h3, h4, h5, h6⟩ := key l o ho
    exact .ptr l g i j o' p a h3 hp (by rw [h6]; exact hk) (by rw [h4]; exact hg) (fun e => by rw [h5]; exact hs (by rw [e, h4]))
  | mref l g o p b ho hp hk hg hs =>
    obtain ⟨o', h3, h4, h5, h6⟩ := key l o ho
    exact .mref l g o' p b h3 hp (by rw [h6]; exact hk) (by rw [h4]; exact hg) (fun e => hs (by rw [e, h4]))
  | clo f nf cs vs hl hr ih => exact .clo f nf cs vs hl ih
  | agg cs vs hl hr ih => exact .agg cs vs hl ih
  | tup cs vs hl hr ih => exact .tup cs vs hl ih
theorem ro_get {h : List Ob} {l : Nat} {o : Ob} (e : h[l]? = some o) : (h.map Ob.ro)[l]? = some o.ro := by rw [List.getElem?_map, e]; rfl
theorem ro_get' {h : List Ob} {l : Nat} {o : Ob} (e : (h.map Ob.ro)[l]? = some o) : ∃ o', h[l]? = some o' ∧ o = o'.ro := by
  rw [List.getElem?_map, Option.map_eq_some_iff] at e
  obtain ⟨o', h1, h2⟩ := e
  exact ⟨o', h1, h2.symm⟩
@[go_sem] theorem ro_mk (k : Kd) (g z n : Nat) (r : Nat → List D) : Ob.ro ⟨k, g, z, n, r⟩ = ⟨k.toRo, g, z, n, r⟩ := rfl
theorem ro_ro (o : Ob) : o.ro.ro = o.ro := by
  obtain ⟨k, g, z, n, r⟩ := o
  cases k <;> rfl
/-- Called with the objects h lent to be read alone, function f returns what meets R: a value, and objects of its own. -/
def RFn (P : Program) (f : FuncId) (h : List Ob) (args : List D) (R : D → List Ob → Prop) : Prop :=
  MFn P f (h.map Ob.ro) args fun d h' => ∃ g, h' = h.map Ob.ro ++ g ∧ R d g
theorem RFn.mono {P : Program} {f : FuncId} {h : List Ob} {args : List D} {R R' : D → List Ob → Prop} (hh : RFn P f h args R) (hr : ∀ d g, R d g → R' d g) : RFn P f h args R' := MFn.mono hh fun _ _ ⟨g, h1, h2⟩ => ⟨g, h1, hr _ _ h2⟩
section
variable {P : Program} {base nt : Nat} {w0 : Start} {Q : Exit → St → Prop}
theorem callH_wp (hbase : base ≤ w0.w.heap.size) {o : Oper} {s : St} {x : Operand} {args : Array Operand} {tys : Array TypeId} {f : FuncId} {nf : Nat} {caps : List D} (hf : FnOk P f) (ho : o.op = .call ⟨.value x, args, tys⟩)
    (hx : calleeD (evalO s.fr x) = some (f, nf, caps)) {R : D → List Ob → Prop} (hF : MFn P f s.h (argsD nf caps (args.toList.map (evalO s.fr))) R)
    (ht : okO nt o.dst = true) (pl : List Pl) (a : Act) (w : World) (r : Rel Z base nt s pl a w) (b : Since Z base w0 s.h pl w) (Q' : Exit → Act → World → Prop) :
    o.wp P a w (fun a' w' => ∃ d h pl', R d h ∧ Rel Z base nt ⟨putO s.fr o.dst d, h⟩ pl' a' w' ∧ Since Z base w0 h pl' w' ∧ Tr s.h pl w h pl' w' ∧ ∃ v, a' = a.put o.dst v) Q' := by
  obtain ⟨vs, hv, hvl, hvr⟩ := callee_ok (r.eval x) hx
  have hsize : base ≤ w.heap.size := Nat.le_trans hbase b.1.size
  obtain ⟨q1, hall⟩ := argsD_rel (r := fun d v => RelV Z s.h pl w d v) (nf := nf) hvl hvr (us := args.toList.map a.eval) (args := args.toList.map (evalO s.fr)) (by simp) (fun i hi => by
    have hi' : i < args.toList.length := by simpa using hi
    simp only [nth, nthV, List.getD_eq_getElem?_getD, List.getElem?_map]
    rw [List.getElem?_eq_getElem hi']
    exact r.eval _)
  have hc := hF Z base w pl (argsD nf vs (args.toList.map a.eval)) hsize b.2.2.new r.o q1 hall
  unfold Oper.wp
  rw [run_callop hf ho hv w]
  simp only [Oper.upon_enter]
  refine hc.mono fun e w' he => ?_
  obtain ⟨v, d, h', pl', rfl, hR, hO, hV, hT, hB⟩ := he
  refine ⟨d, h', pl', hR, ?_, b.step hT hB, hT, v, rfl⟩
  cases hd : o.dst with
  | none => exact r.to' hT hO v
  | some t => rw [hd] at ht; exact r.to hT hO (okO_lt ht) hV
/-- The rule: a call that is lent the whole heap. -/
theorem kont_callH (hbase : base ≤ w0.w.heap.size) {k : List Item} {dst : Option Nat} {ty : TypeId} {pos : String} {after : Array Edge} {gd : Option (Nat × Bool)} {r : List (Oper × G)} {s : St} {x : Operand} {args : Array Operand} {tys : Array TypeId} {f : FuncId} {nf : Nat} {caps : List D} (hf : FnOk P f)
    (hx : calleeD (evalO s.fr x) = some (f, nf, caps)) {cs : List D} (he : argsEq (argsD nf caps (args.toList.map (evalO s.fr))) cs)
    {R : D → List Ob → Prop} (hF : MFn P f s.h cs R) (ht : okO nt dst = true) (hk : ∀ d h, R d h → kont P base nt w0 Q (.ops r :: k) .normal ⟨putO s.fr dst d, h⟩) :
    kont P base nt w0 Q (.ops ((⟨dst, .call ⟨.value x, args, tys⟩, ty, pos, after, gd⟩, none) :: r) :: k) .normal s := by
  simp only [kont] at hk ⊢
  intro Z z pl a w rr b
  simp only [wpG, wantedG, if_true]
  exact Oper.wp_mono (fun a' w' ⟨d, h, pl', hR, r', b', _⟩ => hk d h hR Z z pl' a' w' r' b') (callH_wp hbase hf rfl hx (hF.args he) ht pl a w rr b _)
theorem callR_wp (hbase : base ≤ w0.w.heap.size) {o : Oper} {s : St} {x : Operand} {args : Array Operand} {tys : Array TypeId} {f : FuncId} {nf : Nat} {caps : List D} (hf : FnOk P f) (ho : o.op = .call ⟨.value x, args, tys⟩)
    (hx : calleeD (evalO s.fr x) = some (f, nf, caps)) {R : D → List Ob → Prop} (hF : RFn P f s.h (argsD nf caps (args.toList.map (evalO s.fr))) R)
    (ht : okO nt o.dst = true) (pl : List Pl) (a : Act) (w : World) (r : Rel Z base nt s pl a w) (b : Since Z base w0 s.h pl w) (Q' : Exit → Act → World → Prop) :
    o.wp P a w (fun a' w' => Ext w w' ∧ ∃ d g pl', R d g ∧ Rel Z base nt ⟨putO s.fr o.dst d, s.h ++ g⟩ pl' a' w' ∧ Since Z base w0 (s.h ++ g) pl' w' ∧ Tr s.h pl w (s.h ++ g) pl' w' ∧ ∃ v, a' = a.put o.dst v) Q' := by
  obtain ⟨vs, hv, hvl, hvr⟩ := callee_ok (r.eval x) hx
  have hsize : base ≤ w.heap.size := Nat.le_trans hbase b.1.size
  obtain ⟨q1, hall⟩ := argsD_rel (r := fun d v => RelV Z s.h pl w d v) (nf := nf) hvl hvr (us := args.toList.map a.eval) (args := args.toList.map (evalO s.fr)) (by simp) (fun i hi => by
    have hi' : i < args.toList.length := by simpa using hi
    simp only [nth, nthV, List.getD_eq_getElem?_getD, List.getElem?_map]
    rw [List.getElem?_eq_getElem hi']
    exact r.eval _)
  have k1 : ∀ (l : Nat) (o : Ob), s.h[l]? = some o → ∃ o', (s.h.map Ob.ro)[l]? = some o' ∧ o'.gen = o.gen ∧ o'.sz = o.sz ∧ o'.kd.ty = o.kd.ty := fun l o e => ⟨o.ro, ro_get e, rfl, rfl, Kd.toRo_ty _⟩
  have hO0 : RelO Z w.heap.size (s.h.map Ob.ro) pl w := by
    refine ⟨by simp [r.o.len], r.o.inj, fun l o ho hp => ?_, fun l o b q ho hp => ?_⟩
    · obtain ⟨o', h1, rfl⟩ := ro_get' ho
      exact r.o.noRow l o' h1 hp
    · obtain ⟨o', h1, rfl⟩ := ro_get' ho
      obtain ⟨_, x⟩ := r.o.at_ l o' b q h1 hp
      exact ⟨fun hr => (by rw [ro_kd, Kd.toRo_ro] at hr; cases hr), x.to (Kd.toRo_ty _) rfl rfl rfl (fun _ _ => rfl) fun i j v _ _ hr => hr.kds k1⟩
  have hc := hF Z w.heap.size w pl (argsD nf vs (args.toList.map a.eval)) (Nat.le_refl _) b.2.2.new hO0 q1 (fun i hi => (hall i hi).kds k1)
  unfold Oper.wp
  rw [run_callop hf ho hv w]
  simp only [Oper.upon_enter]
  refine hc.mono fun e w' he => ?_
  obtain ⟨v, d, _, pl', rfl, ⟨g, rfl, hR⟩, hO, hV, hT, hB⟩ := he
  have hpl : ∀ (l : Nat) (p : Pl), l < s.h.length → pl'[l]? = some p → pl[l]? = some p := fun l p hl e => by
    have hl2 : l < pl.length := by rw [r.o.len]; exact hl
    obtain ⟨o', p', e1, e2, _, _, e3⟩ := hT.obj l _ _ (ro_get (List.getElem?_eq_getElem hl)) (List.getElem?_eq_getElem hl2)
    rw [List.getElem?_append_left (by simpa using hl), ro_get (List.getElem?_eq_getElem hl)] at e1
    cases e1
    obtain ⟨_, e4⟩ := e3 rfl
    rw [e] at e2; cases e2
    rw [e4]; exact List.getElem?_eq_getElem hl2
  have hpl' : ∀ (l : Nat) (p : Pl), l < s.h.length → pl[l]? = some p → pl'[l]? = some p := fun l p hl e => by
    have hl2 : l < pl'.length := by have := hO.len; simp at this; omega
    have h1 := hpl l _ hl (List.getElem?_eq_getElem hl2)
    rw [e] at h1; cases h1
    exact List.getElem?_eq_getElem hl2
  have T : Tr s.h pl w (s.h ++ g) pl' w' := by
    refine ⟨hT.old, fun l o p ho hp => ⟨o, p, by rw [List.getElem?_append_left (lt_of_some ho)]; exact ho, hpl' l p (lt_of_some ho) hp, Nat.le_refl _, rfl, fun _ => ⟨rfl, rfl⟩⟩, fun l o o' b q ho ho' hg hp c el hc => ⟨c, ?_, rfl⟩⟩
    rw [hB.block b (r.o.lt hp).1]; exact hc
  have k2 : ∀ (l : Nat) (o : Ob), (s.h.map Ob.ro ++ g)[l]? = some o → ∃ o', (s.h ++ g)[l]? = some o' ∧ o'.gen = o.gen ∧ o'.sz = o.sz ∧ o'.kd.ty = o.kd.ty := fun l o e => by
    by_cases hl : l < s.h.length
    · rw [List.getElem?_append_left (by simpa using hl)] at e
      obtain ⟨o', h1, rfl⟩ := ro_get' e
      exact ⟨o', by rw [List.getElem?_append_left hl]; exact h1, rfl, rfl, (Kd.toRo_ty _).symm⟩
    · rw [List.getElem?_append_right (by simpa using hl)] at e
      exact ⟨o, by rw [List.getElem?_append_right (by omega)]; simpa using e, rfl, rfl, rfl⟩
  have hO2 : RelO Z base (s.h ++ g) pl' w' := by
    refine ⟨by have := hO.len; simpa using this, hO.inj, fun l o ho hp => ?_, fun l o b q ho hp => ?_⟩
    · by_cases hl : l < s.h.length
      · rw [List.getElem?_append_left hl] at ho
        exact r.o.noRow l o ho (hpl l _ hl hp)
      · refine hO.noRow l o ?_ hp
        rw [List.getElem?_append_right (by omega)] at ho
        rw [List.getElem?_append_right (by simpa using hl)]; simpa using ho
    · by_cases hl : l < s.h.length
      · rw [List.getElem?_append_left hl] at ho
        have hp0 := hpl l _ hl hp
        obtain ⟨g1, x⟩ := r.o.at_ l o b q ho hp0
        exact ⟨g1, x.to rfl rfl rfl (hB.block b (r.o.lt hp0).1) (fun _ _ => rfl) fun i j v _ _ hr => hr.tr T⟩
      · have e2 : (s.h.map Ob.ro ++ g)[l]? = some o := by
          rw [List.getElem?_append_right (by omega)] at ho
          rw [List.getElem?_append_right (by simpa using hl)]; simpa using ho
        obtain ⟨g1, x⟩ := hO.at_ l o b q e2 hp
        exact ⟨fun hr => Nat.le_trans hsize (g1 hr), x.to rfl rfl rfl rfl (fun _ _ => rfl) fun i j v _ _ hr => hr.kds k2⟩
  refine ⟨fun b hb => hB.block b hb, d, g, pl', hR, ?_, b.step T (hB.mono hsize), T, v, rfl⟩
  cases hd : o.dst with
  | none => exact r.to' T hO2 v
  | some t => rw [hd] at ht; exact r.to T hO2 (okO_lt ht) (hV.kds k2)
theorem RFn.args {f : FuncId} {h : List Ob} {cs' cs : List D} {R : D → List Ob → Prop} (hh : RFn P f h cs R) (e : argsEq cs' cs) : RFn P f h cs' R := MFn.args hh e
/-- The rule: a call that is lent the whole heap to be read. -/
theorem kont_callR (hbase : base ≤ w0.w.heap.size) {k : List Item} {dst : Option Nat} {ty : TypeId} {pos : String} {after : Array Edge} {gd : Option (Nat × Bool)} {r : List (Oper × G)} {s : St} {x : Operand} {args : Array Operand} {tys : Array TypeId} {f : FuncId} {nf : Nat} {caps : List D} (hf : FnOk P f)
    (hx : calleeD (evalO s.fr x) = some (f, nf, caps)) {cs : List D} (he : argsEq (argsD nf caps (args.toList.map (evalO s.fr))) cs)
    {R : D → List Ob → Prop} (hF : RFn P f s.h cs R) (ht : okO nt dst = true) (hk : ∀ d g, R d g → kont P base nt w0 Q (.ops r :: k) .normal ⟨putO s.fr dst d, s.h ++ g⟩) :
    kont P base nt w0 Q (.ops ((⟨dst, .call ⟨.value x, args, tys⟩, ty, pos, after, gd⟩, none) :: r) :: k) .normal s := by
  simp only [kont] at hk ⊢
  intro Z z pl a w rr b
  simp only [wpG, wantedG, if_true]
  exact Oper.wp_mono (fun a' w' ⟨_, d, h, pl', hR, r', b', _⟩ => hk d h hR Z z pl' a' w' r' b') (callR_wp hbase hf rfl hx (hF.args he) ht pl a w rr b _)
theorem AX_callR (hbase : base ≤ w0.w.heap.size) {K : St → Prop} {dst : Option Nat} {ty : TypeId} {pos : String} {after : Array Edge} {gd : Option (Nat × Bool)} {r : List (Bool × Oper × G)} {s : St} {x : Operand} {args : Array Operand} {tys : Array TypeId} {f : FuncId} {nf : Nat} {caps : List D} (hf : FnOk P f)
    (hx : calleeD (evalO s.fr x) = some (f, nf, caps)) {cs : List D} (he : argsEq (argsD nf caps (args.toList.map (evalO s.fr))) cs) {R : D → List Ob → Prop} (hF : RFn P f s.h cs R)
    (ht : okO nt dst = true) (hk : ∀ d g, R d g → AX P base nt w0 K r ⟨putO s.fr dst d, s.h ++ g⟩) :
    AX P base nt w0 K ((false, ⟨dst, .call ⟨.value x, args, tys⟩, ty, pos, after, gd⟩, none) :: r) s := by
  simp only [AX, AXo, lateT]
  intro Z z pl a w rr b
  exact Oper.wp_mono (fun a' w' ⟨hE, d, g, pl', hR, r', b', T, v, e⟩ => ⟨fun _ => hE, _, _, pl', v, hk d g hR, r', b', T, e⟩) (callR_wp hbase hf rfl hx (hF.args he) ht pl a w rr b _)
/-- A step of an iterator over a map. -/
theorem kont_next (hbase : base ≤ w0.w.heap.size) {k : List Item} {dst : Option Nat} {ty : TypeId} {pos : String} {after : Array Edge} {gd : Option (Nat × Bool)} {r : List (Oper × G)} {s : St} {x : Operand} {li l c : Nat} {es : List Ent} {seen : List Nat} {q : IntKind}
    (hx : evalO s.fr x = .mref li 0) (hit : s.h[li]? = some (iterOb l c c seen)) {kd : Kd} (hkd : kd.ty = 1) (hob : s.h[l]? = some (mapObK kd q c es)) (ht : okO nt dst = true)
    (h0 : (∀ e ∈ es, e.b ∈ seen) → kont P base nt w0 Q (.ops r :: k) .normal ⟨putO s.fr dst (.tup [.raw (.bool false)]), s.h⟩)
    (h1 : ∀ e ∈ es, e.b ∉ seen → kont P base nt w0 Q (.ops r :: k) .normal ⟨putO s.fr dst (.tup [.raw (.bool true), .raw (.int q e.k), e.v]), s.h.set li (iterOb l c c (seen ++ [e.b]))⟩) :
    kont P base nt w0 Q (.ops ((⟨dst, .next x false, ty, pos, after, gd⟩, none) :: r) :: k) .normal s := by
  simp only [kont] at h0 h1 ⊢
  intro Z z pl a w rr b
  have hsize : base ≤ w.heap.size := Nat.le_trans hbase b.1.size
  simp only [wpG, wantedG, if_true]
  unfold Oper.wp
  rcases next_run (o := ⟨dst, .next x false, ty, pos, after, gd⟩) rfl rr hsize hx hit hkd hob with ⟨g1, g2⟩ | ⟨e, he, g1, v, w', g2, T, O, V, B⟩
  · rw [g2]
    simp only [Oper.upon_value]
    refine h0 g1 Z z pl _ w ?_ b
    have hv : RelV Z s.h pl w (.tup [.raw (.bool false)]) (.tuple #[.bool false]) := .tup _ [.bool false] rfl fun i hi => match i, hi with
      | 0, _ => .cl _ _ (.raw _)
    cases dst with
    | none => exact rr.to' (Tr.refl _ _ _) rr.o _
    | some t => exact rr.to (Tr.refl _ _ _) rr.o (okO_lt ht) hv
  · rw [g2]
    simp only [Oper.upon_value]
    refine h1 e he g1 Z z pl _ w' ?_ (b.step T B)
    cases dst with
    | none => exact rr.to' T O _
    | some t => exact rr.to T O (okO_lt ht) V
end
/-- The same, of a function that hands back what leans on no object of its own: nothing of it is kept. -/
def RFn0 (P : Program) (f : FuncId) (h : List Ob) (args : List D) (R : D → Prop) : Prop := RFn P f h args fun d _ => d.upto h.length = true ∧ R d
theorem RFn0.mono {P : Program} {f : FuncId} {h : List Ob} {args : List D} {R R' : D → Prop} (hh : RFn0 P f h args R) (hr : ∀ d, R d → R' d) : RFn0 P f h args R' := RFn.mono hh fun _ _ h => ⟨h.1, hr _ h.2⟩
theorem RFn0.args {P : Program} {f : FuncId} {h : List Ob} {cs' cs : List D} {R : D → Prop} (hh : RFn0 P f h cs R) (e : argsEq cs' cs) : RFn0 P f h cs' R := RFn.args hh e
section
variable {P : Program} {base nt : Nat} {w0 : Start} {Q : Exit → St → Prop}
theorem callR0_wp (hbase : base ≤ w0.w.heap.size) {o : Oper} {s : St} {x : Operand} {args : Array Operand} {tys : Array TypeId} {f : FuncId} {nf : Nat} {caps : List D} (hf : FnOk P f) (ho : o.op = .call ⟨.value x, args, tys⟩)
    (hx : calleeD (evalO s.fr x) = some (f, nf, caps)) {R : D → Prop} (hF : RFn0 P f s.h (argsD nf caps (args.toList.map (evalO s.fr))) R)
    (ht : okO nt o.dst = true) (pl : List Pl) (a : Act) (w : World) (r : Rel Z base nt s pl a w) (b : Since Z base w0 s.h pl w) (Q' : Exit → Act → World → Prop) :
    o.wp P a w (fun a' w' => Ext w w' ∧ ∃ d, R d ∧ Rel Z base nt ⟨putO s.fr o.dst d, s.h⟩ pl a' w' ∧ Since Z base w0 s.h pl w' ∧ Tr s.h pl w s.h pl w' ∧ ∃ v, a' = a.put o.dst v) Q' := by
  obtain ⟨vs, hv, hvl, hvr⟩ := callee_ok (r.eval x) hx
  have hsize : base ≤ w.heap.size := Nat.le_trans hbase b.1.size
  obtain ⟨q1, hall⟩ := argsD_rel (r := fun d v => RelV Z s.h pl w d v) (nf := nf) hvl hvr (us := args.toList.map a.eval) (args := args.toList.map (evalO s.fr)) (by simp) (fun i hi => by
    have hi' : i < args.toList.length := by simpa using hi
    simp only [nth, nthV, List.getD_eq_getElem?_getD, List.getElem?_map]
    rw [List.getElem?_eq_getElem hi']
    exact r.eval _)
  have k1 : ∀ (l : Nat) (o : Ob), s.h[l]? = some o → ∃ o', (s.h.map Ob.ro)[l]? = some o' ∧ o'.gen = o.gen ∧ o'.sz = o.sz ∧ o'.kd.ty = o.kd.ty := fun l o e => ⟨o.ro, ro_get e, rfl, rfl, Kd.toRo_ty _⟩
  have k3 : ∀ (g : List Ob) (l : Nat) (o : Ob), (s.h.map Ob.ro ++ g)[l]? = some o → ∃ o', (s.h ++ g)[l]? = some o' ∧ o'.gen = o.gen ∧ o'.sz = o.sz ∧ o'.kd.ty = o.kd.ty := fun g l o e => by
    by_cases hl : l < s.h.length
    · rw [List.getElem?_append_left (by simpa using hl)] at e
      obtain ⟨o', h1, rfl⟩ := ro_get' e
      exact ⟨o', by rw [List.getElem?_append_left hl]; exact h1, rfl, rfl, (Kd.toRo_ty _).symm⟩
    · rw [List.getElem?_append_right (by simpa using hl)] at e
      exact ⟨o, by rw [List.getElem?_append_right (by omega)]; simpa using e, rfl, rfl, rfl⟩
  have hO0 : RelO Z w.heap.size (s.h.map Ob.ro) pl w := by
    refine ⟨by simp [r.o.len], r.o.inj, fun l o ho hp => ?_, fun l o b q ho hp => ?_⟩
    · obtain ⟨o', h1, rfl⟩ := ro_get' ho
      exact r.o.noRow l o' h1 hp
    · obtain ⟨o', h1, rfl⟩ := ro_get' ho
      obtain ⟨_, x⟩ := r.o.at_ l o' b q h1 hp
      exact ⟨fun hr => (by rw [ro_kd, Kd.toRo_ro] at hr; cases hr), x.to (Kd.toRo_ty _) rfl rfl rfl (fun _ _ => rfl) fun i j v _ _ hr => hr.kds k1⟩
  have hc := hF Z w.heap.size w pl (argsD nf vs (args.toList.map a.eval)) (Nat.le_refl _) b.2.2.new hO0 q1 (fun i hi => (hall i hi).kds k1)
  unfold Oper.wp
  rw [run_callop hf ho hv w]
  simp only [Oper.upon_enter]
  refine hc.mono fun e w' he => ?_
  obtain ⟨v, d, _, pl', rfl, ⟨g, rfl, hu, hR⟩, hO, hV, hT, hB⟩ := he
  have hE : Ext w w' := fun b hb => hB.block b hb
  have T0 : Tr s.h pl w s.h pl w' := Tr.ext r.o hE
  have hfin : RelV Z s.h pl w' d v := by
    have h1 := hV.take hu
    have e1 : (s.h.map Ob.ro ++ g).take s.h.length = s.h.map Ob.ro := List.take_left' (by simp)
    have e2 : pl'.take s.h.length = pl := by
      apply List.ext_getElem?
      intro i
      rw [List.getElem?_take]
      by_cases hi : i < s.h.length
      · rw [if_pos hi]
        have hi2 : i < pl.length := by rw [r.o.len]; exact hi
        obtain ⟨o', p', m1, m2, _, _, m3⟩ := hT.obj i _ _ (ro_get (List.getElem?_eq_getElem hi)) (List.getElem?_eq_getElem hi2)
        rw [List.getElem?_append_left (by simpa using hi), ro_get (List.getElem?_eq_getElem hi)] at m1
        cases m1
        obtain ⟨_, rfl⟩ := m3 rfl
        rw [m2, List.getElem?_eq_getElem hi2]
      · rw [if_neg hi, List.getElem?_eq_none (by rw [r.o.len]; omega)]
    rw [e1, e2] at h1
    exact h1.kds fun l o e => by
      obtain ⟨o', h1, rfl⟩ := ro_get' e
      exact ⟨o', h1, rfl, rfl, (Kd.toRo_ty _).symm⟩
  refine ⟨hE, d, hR, ?_, b.step T0 (hB.mono hsize), T0, v, rfl⟩
  have r' := r.ext hE
  cases hd : o.dst with
  | none => exact r'.to' (Tr.refl _ _ _) r'.o v
  | some t => rw [hd] at ht; exact r'.to (Tr.refl _ _ _) r'.o (okO_lt ht) hfin
theorem kont_callR0 (hbase : base ≤ w0.w.heap.size) {k : List Item} {dst : Option Nat} {ty : TypeId} {pos : String} {after : Array Edge} {gd : Option (Nat × Bool)} {r : List (Oper × G)} {s : St} {x : Operand} {args : Array Operand} {tys : Array TypeId} {f : FuncId} {nf : Nat} {caps : List D} (hf : FnOk P f)
    (hx : calleeD (evalO s.fr x) = some (f, nf, caps)) {cs : List D} (he : argsEq (argsD nf caps (args.toList.map (evalO s.fr))) cs)
    {R : D → Prop} (hF : RFn0 P f s.h cs R) (ht : okO nt dst = true) (hk : ∀ d, R d → kont P base nt w0 Q (.ops r :: k) .normal ⟨putO s.fr dst d, s.h⟩) :
    kont P base nt w0 Q (.ops ((⟨dst, .call ⟨.value x, args, tys⟩, ty, pos, after, gd⟩, none) :: r) :: k) .normal s := by
  simp only [kont] at hk ⊢
  intro Z z pl a w rr b
  simp only [wpG, wantedG, if_true]
  exact Oper.wp_mono (fun a' w' ⟨_, d, hR, r', b', _⟩ => hk d hR Z z pl a' w' r' b') (callR0_wp hbase hf rfl hx (hF.args he) ht pl a w rr b _)
theorem AX_callR0 (hbase : base ≤ w0.w.heap.size) {K : St → Prop} {dst : Option Nat} {ty : TypeId} {pos : String} {after : Array Edge} {gd : Option (Nat × Bool)} {r : List (Bool × Oper × G)} {s : St} {x : Operand} {args : Array Operand} {tys : Array TypeId} {f : FuncId} {nf : Nat} {caps : List D} (hf : FnOk P f)
    (hx : calleeD (evalO s.fr x) = some (f, nf, caps)) {cs : List D} (he : argsEq (argsD nf caps (args.toList.map (evalO s.fr))) cs) {R : D → Prop} (hF : RFn0 P f s.h cs R)
    (ht : okO nt dst = true) (hk : ∀ d, R d → AX P base nt w0 K r ⟨putO s.fr dst d, s.h⟩) :
    AX P base nt w0 K ((false, ⟨dst, .call ⟨.value x, args, tys⟩, ty, pos, after, gd⟩, none) :: r) s := by
  simp only [AX, AXo, lateT]
  intro Z z pl a w rr b
  exact Oper.wp_mono (fun a' w' ⟨hE, d, hR, r', b', T, v, e⟩ => ⟨fun _ => hE, _, _, pl, v, hk d hR, r', b', T, e⟩) (callR0_wp hbase hf rfl hx (hF.args he) ht pl a w rr b _)
end
/-! Heaps that are not told object by object. -/
theorem hlt {h : List Ob} {l : Nat} {o : Ob} (e : h[l]? = some o) : l < h.length := lt_of_some e
theorem hgetA {h t : List Ob} {l : Nat} (hl : l < h.length) : (h ++ t)[l]? = h[l]? := List.getElem?_append_left hl
theorem hgetL {h t : List Ob} {n : Nat} (hn : h.length = n) : (h ++ t)[n]? = t[0]? := by rw [← hn, List.getElem?_append_right (Nat.le_refl _), Nat.sub_self]
theorem hgetLk {h t : List Ob} {n k : Nat} (hn : h.length = n) : (h ++ t)[n + k]? = t[k]? := by rw [← hn, List.getElem?_append_right (by omega), Nat.add_sub_cancel_left]
theorem hsetA {h t : List Ob} {l : Nat} {o : Ob} (hl : l < h.length) : (h ++ t).set l o = h.set l o ++ t := List.set_append_left _ _ hl
theorem hsetL {h t : List Ob} {n : Nat} {o : Ob} (hn : h.length = n) : (h ++ t).set n o = h ++ t.set 0 o := by rw [← hn, List.set_append_right _ _ (Nat.le_refl _), Nat.sub_self]
theorem hsetLk {h t : List Ob} {n k : Nat} {o : Ob} (hn : h.length = n) : (h ++ t).set (n + k) o = h ++ t.set k o := by rw [← hn, List.set_append_right _ _ (by omega), Nat.add_sub_cancel_left]
theorem hgetS {h : List Ob} {l : Nat} {o : Ob} (hl : l < h.length) : (h.set l o)[l]? = some o := List.getElem?_set_self hl
theorem hgetN {h : List Ob} {l m : Nat} {o : Ob} (hn : l ≠ m) : (h.set l o)[m]? = h[m]? := List.getElem?_set_ne hn
/-- The walk of a function that is lent a heap to be read. -/
theorem RFn0_hx {P : Program} {X : Cx} (hX : CxOk P X) {f : FuncId} {fn : Func} {c : Code} (n : Nat) (hf : P.funcs[f]? = some fn) (hb : fn.body = some c) {h : List Ob} {args : List D} {R : D → Prop} {nt : Nat} {rs : Array ResultVar} (hnt : fn.ntmps = nt) (hrs : fn.results = rs) (hn : Nat.ble args.length nt = true)
    (hh : ∀ (base : Nat) (w : World) (pl : List Pl) (F : List Ob), F = h.map Ob.ro → F.length = h.length → base ≤ w.heap.size → hx P base ⟨w, F, pl⟩ (Post X.L rs.toList fun d h' => ∃ g, h' = F ++ g ∧ d.upto F.length = true ∧ R d) X nt n [.code c] ⟨initFr args 0, F⟩) : RFn0 P f h args R :=
  (MFn_hx hX n hf hb hnt hrs hn fun base w pl hb => hh base w pl _ rfl (by simp) hb).mono fun d h' ⟨g, h1, h2, h3⟩ => ⟨g, h1, by simpa using h2, h3⟩
theorem RFn_hx {P : Program} {X : Cx} (hX : CxOk P X) {f : FuncId} {fn : Func} {c : Code} (n : Nat) (hf : P.funcs[f]? = some fn) (hb : fn.body = some c) {h : List Ob} {args : List D} {R : D → List Ob → Prop} {nt : Nat} {rs : Array ResultVar} (hnt : fn.ntmps = nt) (hrs : fn.results = rs) (hn : Nat.ble args.length nt = true)
    (hh : ∀ (base : Nat) (w : World) (pl : List Pl) (F : List Ob), F = h.map Ob.ro → F.length = h.length → base ≤ w.heap.size → hx P base ⟨w, F, pl⟩ (Post X.L rs.toList fun d h' => ∃ g, h' = F ++ g ∧ R d g) X nt n [.code c] ⟨initFr args 0, F⟩) : RFn P f h args R :=
  MFn_hx hX n hf hb hnt hrs hn fun base w pl hb => hh base w pl _ rfl (by simp) hb
attribute [go_sem] plook pmlen pmake pupd pdel prange entsOf_map entsOf_mapK clockOf_map clockOf_mapK IsMap_map clockOf_ro entsOf_ro IsMap_ro mapOb_kd mapOb_n mapOb_gen ro_kd ro_n ro_gen ro_ro zeroD
end Go.Fg
namespace Go.Fg.X
set_option linter.unusedSimpArgs false
set_option linter.unusedVariables false
open Go.Proofs Go.Fg
set_option maxRecDepth 100000

theorem ty1 : TyOk Try.prog 1 ⟨.fn, 1, 8, [.nilFunc]⟩ := ⟨by kernel_rfl, by kernel_rfl, by kernel_rfl⟩
theorem ty2 : TyOk Try.prog 2 ⟨.int .i64, 1, 8, [.int .i64 0]⟩ := ⟨by kernel_rfl, by kernel_rfl, by kernel_rfl⟩
theorem ty3 : TyOk Try.prog 3 ⟨.int .i64, 1, 8, [.int .i64 0]⟩ := ⟨by kernel_rfl, by kernel_rfl, by kernel_rfl⟩
theorem ty4 : TyOk Try.prog 4 ⟨.bool, 1, 1, [.bool false]⟩ := ⟨by kernel_rfl, by kernel_rfl, by kernel_rfl⟩
theorem ty5 : TyOk Try.prog 5 ⟨.int .u8, 1, 1, [.int .u8 0]⟩ := ⟨by kernel_rfl, by kernel_rfl, by kernel_rfl⟩
theorem ty9 : TyOk Try.prog 9 ⟨.str, 1, 16, [.string ByteArray.empty]⟩ := ⟨by kernel_rfl, by kernel_rfl, by kernel_rfl⟩
theorem ty12 : TyOk Try.prog 12 ⟨.int .u64, 1, 8, [.int .u64 0]⟩ := ⟨by kernel_rfl, by kernel_rfl, by kernel_rfl⟩
theorem ty17 : TyOk Try.prog 17 ⟨.ptr 226, 1, 8, [.pointer none]⟩ := ⟨by kernel_rfl, by kernel_rfl, by kernel_rfl⟩
theorem ty20 : TyOk Try.prog 20 ⟨.iface, 1, 16, [.nilIface]⟩ := ⟨by kernel_rfl, by kernel_rfl, by kernel_rfl⟩
theorem ty21 : TyOk Try.prog 21 ⟨.int .i32, 1, 4, [.int .i32 0]⟩ := ⟨by kernel_rfl, by kernel_rfl, by kernel_rfl⟩
theorem ty22 : TyOk Try.prog 22 ⟨.struct [(0, 3), (1, 3)], 2, 16, [.int .i64 0, .int .i64 0]⟩ := ⟨by kernel_rfl, by kernel_rfl, by kernel_rfl⟩
theorem ty23 : TyOk Try.prog 23 ⟨.struct [(0, 3), (1, 3)], 2, 16, [.int .i64 0, .int .i64 0]⟩ := ⟨by kernel_rfl, by kernel_rfl, by kernel_rfl⟩
theorem ty24 : TyOk Try.prog 24 ⟨.slice 45, 1, 24, [.slice none 0 0]⟩ := ⟨by kernel_rfl, by kernel_rfl, by kernel_rfl⟩
theorem ty25 : TyOk Try.prog 25 ⟨.fn, 1, 8, [.nilFunc]⟩ := ⟨by kernel_rfl, by kernel_rfl, by kernel_rfl⟩
theorem ty26 : TyOk Try.prog 26 ⟨.int .i64, 1, 8, [.int .i64 0]⟩ := ⟨by kernel_rfl, by kernel_rfl, by kernel_rfl⟩
theorem ty27 : TyOk Try.prog 27 ⟨.struct [(0, 3), (1, 26)], 2, 16, [.int .i64 0, .int .i64 0]⟩ := ⟨by kernel_rfl, by kernel_rfl, by kernel_rfl⟩
theorem ty28 : TyOk Try.prog 28 ⟨.struct [(0, 3), (1, 26)], 2, 16, [.int .i64 0, .int .i64 0]⟩ := ⟨by kernel_rfl, by kernel_rfl, by kernel_rfl⟩
theorem ty29 : TyOk Try.prog 29 ⟨.fn, 1, 8, [.nilFunc]⟩ := ⟨by kernel_rfl, by kernel_rfl, by kernel_rfl⟩
theorem ty30 : TyOk Try.prog 30 ⟨.fn, 1, 8, [.nilFunc]⟩ := ⟨by kernel_rfl, by kernel_rfl, by kernel_rfl⟩
theorem ty31 : TyOk Try.prog 31 ⟨.fn, 1, 8, [.nilFunc]⟩ := ⟨by kernel_rfl, by kernel_rfl, by kernel_rfl⟩
theorem ty32 : TyOk Try.prog 32 ⟨.fn, 1, 8, [.nilFunc]⟩ := ⟨by kernel_rfl, by kernel_rfl, by kernel_rfl⟩
theorem ty33 : TyOk Try.prog 33 ⟨.fn, 1, 8, [.nilFunc]⟩ := ⟨by kernel_rfl, by kernel_rfl, by kernel_rfl⟩
theorem ty34 : TyOk Try.prog 34 ⟨.slice 43, 1, 24, [.slice none 0 0]⟩ := ⟨by kernel_rfl, by kernel_rfl, by kernel_rfl⟩
theorem ty35 : TyOk Try.prog 35 ⟨.fn, 1, 8, [.nilFunc]⟩ := ⟨by kernel_rfl, by kernel_rfl, by kernel_rfl⟩
theorem ty36 : TyOk Try.prog 36 ⟨.fn, 1, 8, [.nilFunc]⟩ := ⟨by kernel_rfl, by kernel_rfl, by kernel_rfl⟩
theorem ty37 : TyOk Try.prog 37 ⟨.fn, 1, 8, [.nilFunc]⟩ := ⟨by kernel_rfl, by kernel_rfl, by kernel_rfl⟩
theorem ty38 : TyOk Try.prog 38 ⟨.int .u64, 1, 8, [.int .u64 0]⟩ := ⟨by kernel_rfl, by kernel_rfl, by kernel_rfl⟩
theorem ty39 : TyOk Try.prog 39 ⟨.int .u16, 1, 2, [.int .u16 0]⟩ := ⟨by kernel_rfl, by kernel_rfl, by kernel_rfl⟩
theorem ty40 : TyOk Try.prog 40 ⟨.array 4 39, 4, 8, [.int .u16 0, .int .u16 0, .int .u16 0, .int .u16 0]⟩ := ⟨by kernel_rfl, by kernel_rfl, by kernel_rfl⟩
theorem ty41 : TyOk Try.prog 41 ⟨.array 4 39, 4, 8, [.int .u16 0, .int .u16 0, .int .u16 0, .int .u16 0]⟩ := ⟨by kernel_rfl, by kernel_rfl, by kernel_rfl⟩
theorem ty42 : TyOk Try.prog 42 ⟨.struct [(0, 38), (1, 3), (2, 41)], 6, 24, [.int .u64 0, .int .i64 0, .int .u16 0, .int .u16 0, .int .u16 0, .int .u16 0]⟩ := ⟨by kernel_rfl, by kernel_rfl, by kernel_rfl⟩
theorem ty43 : TyOk Try.prog 43 ⟨.struct [(0, 38), (1, 3), (2, 41)], 6, 24, [.int .u64 0, .int .i64 0, .int .u16 0, .int .u16 0, .int .u16 0, .int .u16 0]⟩ := ⟨by kernel_rfl, by kernel_rfl, by kernel_rfl⟩
theorem ty44 : TyOk Try.prog 44 ⟨.struct [(0, 3), (1, 4), (2, 4), (3, 38), (4, 38), (5, 3), (6, 43)], 12, 64, [.int .i64 0, .bool false, .bool false, .int .u64 0, .int .u64 0, .int .i64 0, .int .u64 0, .int .i64 0, .int .u16 0, .int .u16 0, .int .u16 0, .int .u16 0]⟩ := ⟨by kernel_rfl, by kernel_rfl, by kernel_rfl⟩
theorem ty45 : TyOk Try.prog 45 ⟨.struct [(0, 3), (1, 4), (2, 4), (3, 38), (4, 38), (5, 3), (6, 43)], 12, 64, [.int .i64 0, .bool false, .bool false, .int .u64 0, .int .u64 0, .int .i64 0, .int .u64 0, .int .i64 0, .int .u16 0, .int .u16 0, .int .u16 0, .int .u16 0]⟩ := ⟨by kernel_rfl, by kernel_rfl, by kernel_rfl⟩
theorem ty46 : TyOk Try.prog 46 ⟨.fn, 1, 8, [.nilFunc]⟩ := ⟨by kernel_rfl, by kernel_rfl, by kernel_rfl⟩
theorem ty47 : TyOk Try.prog 47 ⟨.slice 67, 1, 24, [.slice none 0 0]⟩ := ⟨by kernel_rfl, by kernel_rfl, by kernel_rfl⟩
theorem ty48 : TyOk Try.prog 48 ⟨.struct [(0, 23), (2, 47)], 3, 40, [.int .i64 0, .int .i64 0, .slice none 0 0]⟩ := ⟨by kernel_rfl, by kernel_rfl, by kernel_rfl⟩
theorem ty49 : TyOk Try.prog 49 ⟨.struct [(0, 23), (2, 47)], 3, 40, [.int .i64 0, .int .i64 0, .slice none 0 0]⟩ := ⟨by kernel_rfl, by kernel_rfl, by kernel_rfl⟩
theorem ty51 : TyOk Try.prog 51 ⟨.fn, 1, 8, [.nilFunc]⟩ := ⟨by kernel_rfl, by kernel_rfl, by kernel_rfl⟩
theorem ty52 : TyOk Try.prog 52 ⟨.struct [(0, 49), (3, 3)], 4, 48, [.int .i64 0, .int .i64 0, .slice none 0 0, .int .i64 0]⟩ := ⟨by kernel_rfl, by kernel_rfl, by kernel_rfl⟩
theorem ty53 : TyOk Try.prog 53 ⟨.struct [(0, 49), (3, 3)], 4, 48, [.int .i64 0, .int .i64 0, .slice none 0 0, .int .i64 0]⟩ := ⟨by kernel_rfl, by kernel_rfl, by kernel_rfl⟩
theorem ty54 : TyOk Try.prog 54 ⟨.fn, 1, 8, [.nilFunc]⟩ := ⟨by kernel_rfl, by kernel_rfl, by kernel_rfl⟩
theorem ty55 : TyOk Try.prog 55 ⟨.fn, 1, 8, [.nilFunc]⟩ := ⟨by kernel_rfl, by kernel_rfl, by kernel_rfl⟩
theorem ty56 : TyOk Try.prog 56 ⟨.fn, 1, 8, [.nilFunc]⟩ := ⟨by kernel_rfl, by kernel_rfl, by kernel_rfl⟩
theorem ty57 : TyOk Try.prog 57 ⟨.fn, 1, 8, [.nilFunc]⟩ := ⟨by kernel_rfl, by kernel_rfl, by kernel_rfl⟩
theorem ty59 : TyOk Try.prog 59 ⟨.fn, 1, 8, [.nilFunc]⟩ := ⟨by kernel_rfl, by kernel_rfl, by kernel_rfl⟩
theorem ty60 : TyOk Try.prog 60 ⟨.struct [(0, 9), (1, 4)], 2, 24, [.string ByteArray.empty, .bool false]⟩ := ⟨by kernel_rfl, by kernel_rfl, by kernel_rfl⟩
theorem ty61 : TyOk Try.prog 61 ⟨.struct [(0, 9), (1, 4)], 2, 24, [.string ByteArray.empty, .bool false]⟩ := ⟨by kernel_rfl, by kernel_rfl, by kernel_rfl⟩
theorem ty62 : TyOk Try.prog 62 ⟨.fn, 1, 8, [.nilFunc]⟩ := ⟨by kernel_rfl, by kernel_rfl, by kernel_rfl⟩
theorem ty63 : TyOk Try.prog 63 ⟨.fn, 1, 8, [.nilFunc]⟩ := ⟨by kernel_rfl, by kernel_rfl, by kernel_rfl⟩
theorem ty64 : TyOk Try.prog 64 ⟨.slice 79, 1, 24, [.slice none 0 0]⟩ := ⟨by kernel_rfl, by kernel_rfl, by kernel_rfl⟩
theorem ty65 : TyOk Try.prog 65 ⟨.slice 119, 1, 24, [.slice none 0 0]⟩ := ⟨by kernel_rfl, by kernel_rfl, by kernel_rfl⟩
theorem ty66 : TyOk Try.prog 66 ⟨.struct [(0, 3), (1, 64), (2, 65), (3, 43), (9, 38)], 10, 88, [.int .i64 0, .slice none 0 0, .slice none 0 0, .int .u64 0, .int .i64 0, .int .u16 0, .int .u16 0, .int .u16 0, .int .u16 0, .int .u64 0]⟩ := ⟨by kernel_rfl, by kernel_rfl, by kernel_rfl⟩
theorem ty67 : TyOk Try.prog 67 ⟨.struct [(0, 3), (1, 64), (2, 65), (3, 43), (9, 38)], 10, 88, [.int .i64 0, .slice none 0 0, .slice none 0 0, .int .u64 0, .int .i64 0, .int .u16 0, .int .u16 0, .int .u16 0, .int .u16 0, .int .u64 0]⟩ := ⟨by kernel_rfl, by kernel_rfl, by kernel_rfl⟩
theorem ty68 : TyOk Try.prog 68 ⟨.fn, 1, 8, [.nilFunc]⟩ := ⟨by kernel_rfl, by kernel_rfl, by kernel_rfl⟩
theorem ty69 : TyOk Try.prog 69 ⟨.fn, 1, 8, [.nilFunc]⟩ := ⟨by kernel_rfl, by kernel_rfl, by kernel_rfl⟩
theorem ty70 : TyOk Try.prog 70 ⟨.fn, 1, 8, [.nilFunc]⟩ := ⟨by kernel_rfl, by kernel_rfl, by kernel_rfl⟩
theorem ty71 : TyOk Try.prog 71 ⟨.ptr 128, 1, 8, [.pointer none]⟩ := ⟨by kernel_rfl, by kernel_rfl, by kernel_rfl⟩
theorem ty72 : TyOk Try.prog 72 ⟨.fn, 1, 8, [.nilFunc]⟩ := ⟨by kernel_rfl, by kernel_rfl, by kernel_rfl⟩
theorem ty73 : TyOk Try.prog 73 ⟨.slice 77, 1, 24, [.slice none 0 0]⟩ := ⟨by kernel_rfl, by kernel_rfl, by kernel_rfl⟩
theorem ty74 : TyOk Try.prog 74 ⟨.struct [(0, 38), (1, 38), (2, 38)], 3, 24, [.int .u64 0, .int .u64 0, .int .u64 0]⟩ := ⟨by kernel_rfl, by kernel_rfl, by kernel_rfl⟩
theorem ty75 : TyOk Try.prog 75 ⟨.struct [(0, 38), (1, 38), (2, 38)], 3, 24, [.int .u64 0, .int .u64 0, .int .u64 0]⟩ := ⟨by kernel_rfl, by kernel_rfl, by kernel_rfl⟩
theorem ty76 : TyOk Try.prog 76 ⟨.struct [(0, 3), (1, 3), (2, 4), (3, 75), (6, 75), (9, 75), (12, 3), (13, 3)], 14, 112, [.int .i64 0, .int .i64 0, .bool false, .int .u64 0, .int .u64 0, .int .u64 0, .int .u64 0, .int .u64 0, .int .u64 0, .int .u64 0, .int .u64 0, .int .u64 0, .int .i64 0, .int .i64 0]⟩ := ⟨by kernel_rfl, by kernel_rfl, by kernel_rfl⟩
theorem ty77 : TyOk Try.prog 77 ⟨.struct [(0, 3), (1, 3), (2, 4), (3, 75), (6, 75), (9, 75), (12, 3), (13, 3)], 14, 112, [.int .i64 0, .int .i64 0, .bool false, .int .u64 0, .int .u64 0, .int .u64 0, .int .u64 0, .int .u64 0, .int .u64 0, .int .u64 0, .int .u64 0, .int .u64 0, .int .i64 0, .int .i64 0]⟩ := ⟨by kernel_rfl, by kernel_rfl, by kernel_rfl⟩
theorem ty78 : TyOk Try.prog 78 ⟨.struct [(0, 3), (1, 77)], 15, 120, [.int .i64 0, .int .i64 0, .int .i64 0, .bool false, .int .u64 0, .int .u64 0, .int .u64 0, .int .u64 0, .int .u64 0, .int .u64 0, .int .u64 0, .int .u64 0, .int .u64 0, .int .i64 0, .int .i64 0]⟩ := ⟨by kernel_rfl, by kernel_rfl, by kernel_rfl⟩
theorem ty79 : TyOk Try.prog 79 ⟨.struct [(0, 3), (1, 77)], 15, 120, [.int .i64 0, .int .i64 0, .int .i64 0, .bool false, .int .u64 0, .int .u64 0, .int .u64 0, .int .u64 0, .int .u64 0, .int .u64 0, .int .u64 0, .int .u64 0, .int .u64 0, .int .i64 0, .int .i64 0]⟩ := ⟨by kernel_rfl, by kernel_rfl, by kernel_rfl⟩
theorem ty80 : TyOk Try.prog 80 ⟨.fn, 1, 8, [.nilFunc]⟩ := ⟨by kernel_rfl, by kernel_rfl, by kernel_rfl⟩
theorem ty81 : TyOk Try.prog 81 ⟨.fn, 1, 8, [.nilFunc]⟩ := ⟨by kernel_rfl, by kernel_rfl, by kernel_rfl⟩
theorem ty82 : TyOk Try.prog 82 ⟨.struct [(0, 73), (1, 3)], 2, 32, [.slice none 0 0, .int .i64 0]⟩ := ⟨by kernel_rfl, by kernel_rfl, by kernel_rfl⟩
theorem ty83 : TyOk Try.prog 83 ⟨.struct [(0, 73), (1, 3)], 2, 32, [.slice none 0 0, .int .i64 0]⟩ := ⟨by kernel_rfl, by kernel_rfl, by kernel_rfl⟩
theorem ty84 : TyOk Try.prog 84 ⟨.fn, 1, 8, [.nilFunc]⟩ := ⟨by kernel_rfl, by kernel_rfl, by kernel_rfl⟩
theorem ty85 : TyOk Try.prog 85 ⟨.fn, 1, 8, [.nilFunc]⟩ := ⟨by kernel_rfl, by kernel_rfl, by kernel_rfl⟩
theorem ty86 : TyOk Try.prog 86 ⟨.slice 3, 1, 24, [.slice none 0 0]⟩ := ⟨by kernel_rfl, by kernel_rfl, by kernel_rfl⟩
theorem ty87 : TyOk Try.prog 87 ⟨.fn, 1, 8, [.nilFunc]⟩ := ⟨by kernel_rfl, by kernel_rfl, by kernel_rfl⟩
theorem ty88 : TyOk Try.prog 88 ⟨.fn, 1, 8, [.nilFunc]⟩ := ⟨by kernel_rfl, by kernel_rfl, by kernel_rfl⟩
theorem ty89 : TyOk Try.prog 89 ⟨.fn, 1, 8, [.nilFunc]⟩ := ⟨by kernel_rfl, by kernel_rfl, by kernel_rfl⟩
theorem ty90 : TyOk Try.prog 90 ⟨.ptr 95, 1, 8, [.pointer none]⟩ := ⟨by kernel_rfl, by kernel_rfl, by kernel_rfl⟩
theorem ty91 : TyOk Try.prog 91 ⟨.fn, 1, 8, [.nilFunc]⟩ := ⟨by kernel_rfl, by kernel_rfl, by kernel_rfl⟩
theorem ty92 : TyOk Try.prog 92 ⟨.map 3 34, 1, 8, [.map none]⟩ := ⟨by kernel_rfl, by kernel_rfl, by kernel_rfl⟩
theorem ty93 : TyOk Try.prog 93 ⟨.slice 98, 1, 24, [.slice none 0 0]⟩ := ⟨by kernel_rfl, by kernel_rfl, by kernel_rfl⟩
theorem ty94 : TyOk Try.prog 94 ⟨.struct [(0, 23), (2, 92), (3, 45), (15, 38), (16, 93)], 17, 120, [.int .i64 0, .int .i64 0, .map none, .int .i64 0, .bool false, .bool false, .int .u64 0, .int .u64 0, .int .i64 0, .int .u64 0, .int .i64 0, .int .u16 0, .int .u16 0, .int .u16 0, .int .u16 0, .int .u64 0, .slice none 0 0]⟩ := ⟨by kernel_rfl, by kernel_rfl, by kernel_rfl⟩
theorem ty95 : TyOk Try.prog 95 ⟨.struct [(0, 23), (2, 92), (3, 45), (15, 38), (16, 93)], 17, 120, [.int .i64 0, .int .i64 0, .map none, .int .i64 0, .bool false, .bool false, .int .u64 0, .int .u64 0, .int .i64 0, .int .u64 0, .int .i64 0, .int .u16 0, .int .u16 0, .int .u16 0, .int .u16 0, .int .u64 0, .slice none 0 0]⟩ := ⟨by kernel_rfl, by kernel_rfl, by kernel_rfl⟩
theorem ty96 : TyOk Try.prog 96 ⟨.fn, 1, 8, [.nilFunc]⟩ := ⟨by kernel_rfl, by kernel_rfl, by kernel_rfl⟩
theorem ty97 : TyOk Try.prog 97 ⟨.struct [(0, 26), (1, 96)], 2, 16, [.int .i64 0, .nilFunc]⟩ := ⟨by kernel_rfl, by kernel_rfl, by kernel_rfl⟩
theorem ty98 : TyOk Try.prog 98 ⟨.struct [(0, 26), (1, 96)], 2, 16, [.int .i64 0, .nilFunc]⟩ := ⟨by kernel_rfl, by kernel_rfl, by kernel_rfl⟩
theorem ty99 : TyOk Try.prog 99 ⟨.fn, 1, 8, [.nilFunc]⟩ := ⟨by kernel_rfl, by kernel_rfl, by kernel_rfl⟩
theorem ty100 : TyOk Try.prog 100 ⟨.fn, 1, 8, [.nilFunc]⟩ := ⟨by kernel_rfl, by kernel_rfl, by kernel_rfl⟩
theorem ty101 : TyOk Try.prog 101 ⟨.fn, 1, 8, [.nilFunc]⟩ := ⟨by kernel_rfl, by kernel_rfl, by kernel_rfl⟩
theorem ty102 : TyOk Try.prog 102 ⟨.slice 5, 1, 24, [.slice none 0 0]⟩ := ⟨by kernel_rfl, by kernel_rfl, by kernel_rfl⟩
theorem ty103 : TyOk Try.prog 103 ⟨.ptr 106, 1, 8, [.pointer none]⟩ := ⟨by kernel_rfl, by kernel_rfl, by kernel_rfl⟩
theorem ty104 : TyOk Try.prog 104 ⟨.fn, 1, 8, [.nilFunc]⟩ := ⟨by kernel_rfl, by kernel_rfl, by kernel_rfl⟩
theorem ty105 : TyOk Try.prog 105 ⟨.struct [(0, 104), (1, 26)], 2, 16, [.nilFunc, .int .i64 0]⟩ := ⟨by kernel_rfl, by kernel_rfl, by kernel_rfl⟩
theorem ty106 : TyOk Try.prog 106 ⟨.struct [(0, 104), (1, 26)], 2, 16, [.nilFunc, .int .i64 0]⟩ := ⟨by kernel_rfl, by kernel_rfl, by kernel_rfl⟩
theorem ty107 : TyOk Try.prog 107 ⟨.int .u64, 1, 8, [.int .u64 0]⟩ := ⟨by kernel_rfl, by kernel_rfl, by kernel_rfl⟩
theorem ty108 : TyOk Try.prog 108 ⟨.struct [(0, 9), (1, 3), (2, 38), (3, 3)], 4, 40, [.string ByteArray.empty, .int .i64 0, .int .u64 0, .int .i64 0]⟩ := ⟨by kernel_rfl, by kernel_rfl, by kernel_rfl⟩
theorem ty109 : TyOk Try.prog 109 ⟨.struct [(0, 9), (1, 3), (2, 38), (3, 3)], 4, 40, [.string ByteArray.empty, .int .i64 0, .int .u64 0, .int .i64 0]⟩ := ⟨by kernel_rfl, by kernel_rfl, by kernel_rfl⟩
theorem ty110 : TyOk Try.prog 110 ⟨.fn, 1, 8, [.nilFunc]⟩ := ⟨by kernel_rfl, by kernel_rfl, by kernel_rfl⟩
theorem ty112 : TyOk Try.prog 112 ⟨.fn, 1, 8, [.nilFunc]⟩ := ⟨by kernel_rfl, by kernel_rfl, by kernel_rfl⟩
theorem ty113 : TyOk Try.prog 113 ⟨.slice 116, 1, 24, [.slice none 0 0]⟩ := ⟨by kernel_rfl, by kernel_rfl, by kernel_rfl⟩
theorem ty114 : TyOk Try.prog 114 ⟨.fn, 1, 8, [.nilFunc]⟩ := ⟨by kernel_rfl, by kernel_rfl, by kernel_rfl⟩
theorem ty115 : TyOk Try.prog 115 ⟨.struct [(0, 38), (1, 3), (2, 38), (3, 38)], 4, 32, [.int .u64 0, .int .i64 0, .int .u64 0, .int .u64 0]⟩ := ⟨by kernel_rfl, by kernel_rfl, by kernel_rfl⟩
theorem ty116 : TyOk Try.prog 116 ⟨.struct [(0, 38), (1, 3), (2, 38), (3, 38)], 4, 32, [.int .u64 0, .int .i64 0, .int .u64 0, .int .u64 0]⟩ := ⟨by kernel_rfl, by kernel_rfl, by kernel_rfl⟩
theorem ty117 : TyOk Try.prog 117 ⟨.fn, 1, 8, [.nilFunc]⟩ := ⟨by kernel_rfl, by kernel_rfl, by kernel_rfl⟩
theorem ty118 : TyOk Try.prog 118 ⟨.struct [(0, 41), (4, 41), (8, 3)], 9, 24, [.int .u16 0, .int .u16 0, .int .u16 0, .int .u16 0, .int .u16 0, .int .u16 0, .int .u16 0, .int .u16 0, .int .i64 0]⟩ := ⟨by kernel_rfl, by kernel_rfl, by kernel_rfl⟩
theorem ty119 : TyOk Try.prog 119 ⟨.struct [(0, 41), (4, 41), (8, 3)], 9, 24, [.int .u16 0, .int .u16 0, .int .u16 0, .int .u16 0, .int .u16 0, .int .u16 0, .int .u16 0, .int .u16 0, .int .i64 0]⟩ := ⟨by kernel_rfl, by kernel_rfl, by kernel_rfl⟩
theorem ty120 : TyOk Try.prog 120 ⟨.fn, 1, 8, [.nilFunc]⟩ := ⟨by kernel_rfl, by kernel_rfl, by kernel_rfl⟩
theorem ty121 : TyOk Try.prog 121 ⟨.slice 124, 1, 24, [.slice none 0 0]⟩ := ⟨by kernel_rfl, by kernel_rfl, by kernel_rfl⟩
theorem ty122 : TyOk Try.prog 122 ⟨.fn, 1, 8, [.nilFunc]⟩ := ⟨by kernel_rfl, by kernel_rfl, by kernel_rfl⟩
theorem ty123 : TyOk Try.prog 123 ⟨.struct [(0, 38), (1, 38), (2, 3), (3, 3), (4, 4)], 5, 40, [.int .u64 0, .int .u64 0, .int .i64 0, .int .i64 0, .bool false]⟩ := ⟨by kernel_rfl, by kernel_rfl, by kernel_rfl⟩
theorem ty124 : TyOk Try.prog 124 ⟨.struct [(0, 38), (1, 38), (2, 3), (3, 3), (4, 4)], 5, 40, [.int .u64 0, .int .u64 0, .int .i64 0, .int .i64 0, .bool false]⟩ := ⟨by kernel_rfl, by kernel_rfl, by kernel_rfl⟩
theorem ty125 : TyOk Try.prog 125 ⟨.fn, 1, 8, [.nilFunc]⟩ := ⟨by kernel_rfl, by kernel_rfl, by kernel_rfl⟩
theorem ty126 : TyOk Try.prog 126 ⟨.map 3 77, 1, 8, [.map none]⟩ := ⟨by kernel_rfl, by kernel_rfl, by kernel_rfl⟩
theorem ty127 : TyOk Try.prog 127 ⟨.struct [(0, 126)], 1, 8, [.map none]⟩ := ⟨by kernel_rfl, by kernel_rfl, by kernel_rfl⟩
theorem ty128 : TyOk Try.prog 128 ⟨.struct [(0, 126)], 1, 8, [.map none]⟩ := ⟨by kernel_rfl, by kernel_rfl, by kernel_rfl⟩
theorem ty130 : TyOk Try.prog 130 ⟨.fn, 1, 8, [.nilFunc]⟩ := ⟨by kernel_rfl, by kernel_rfl, by kernel_rfl⟩
theorem ty131 : TyOk Try.prog 131 ⟨.fn, 1, 8, [.nilFunc]⟩ := ⟨by kernel_rfl, by kernel_rfl, by kernel_rfl⟩
theorem ty132 : TyOk Try.prog 132 ⟨.fn, 1, 8, [.nilFunc]⟩ := ⟨by kernel_rfl, by kernel_rfl, by kernel_rfl⟩
theorem ty133 : TyOk Try.prog 133 ⟨.fn, 1, 8, [.nilFunc]⟩ := ⟨by kernel_rfl, by kernel_rfl, by kernel_rfl⟩
theorem ty134 : TyOk Try.prog 134 ⟨.fn, 1, 8, [.nilFunc]⟩ := ⟨by kernel_rfl, by kernel_rfl, by kernel_rfl⟩
theorem ty135 : TyOk Try.prog 135 ⟨.fn, 1, 8, [.nilFunc]⟩ := ⟨by kernel_rfl, by kernel_rfl, by kernel_rfl⟩
theorem ty136 : TyOk Try.prog 136 ⟨.fn, 1, 8, [.nilFunc]⟩ := ⟨by kernel_rfl, by kernel_rfl, by kernel_rfl⟩
theorem ty137 : TyOk Try.prog 137 ⟨.fn, 1, 8, [.nilFunc]⟩ := ⟨by kernel_rfl, by kernel_rfl, by kernel_rfl⟩
theorem ty138 : TyOk Try.prog 138 ⟨.fn, 1, 8, [.nilFunc]⟩ := ⟨by kernel_rfl, by kernel_rfl, by kernel_rfl⟩
theorem ty139 : TyOk Try.prog 139 ⟨.fn, 1, 8, [.nilFunc]⟩ := ⟨by kernel_rfl, by kernel_rfl, by kernel_rfl⟩
theorem ty140 : TyOk Try.prog 140 ⟨.fn, 1, 8, [.nilFunc]⟩ := ⟨by kernel_rfl, by kernel_rfl, by kernel_rfl⟩
theorem ty141 : TyOk Try.prog 141 ⟨.fn, 1, 8, [.nilFunc]⟩ := ⟨by kernel_rfl, by kernel_rfl, by kernel_rfl⟩
theorem ty142 : TyOk Try.prog 142 ⟨.fn, 1, 8, [.nilFunc]⟩ := ⟨by kernel_rfl, by kernel_rfl, by kernel_rfl⟩
theorem ty144 : TyOk Try.prog 144 ⟨.fn, 1, 8, [.nilFunc]⟩ := ⟨by kernel_rfl, by kernel_rfl, by kernel_rfl⟩
theorem ty146 : TyOk Try.prog 146 ⟨.fn, 1, 8, [.nilFunc]⟩ := ⟨by kernel_rfl, by kernel_rfl, by kernel_rfl⟩
theorem ty148 : TyOk Try.prog 148 ⟨.fn, 1, 8, [.nilFunc]⟩ := ⟨by kernel_rfl, by kernel_rfl, by kernel_rfl⟩
theorem ty149 : TyOk Try.prog 149 ⟨.fn, 1, 8, [.nilFunc]⟩ := ⟨by kernel_rfl, by kernel_rfl, by kernel_rfl⟩
theorem ty150 : TyOk Try.prog 150 ⟨.fn, 1, 8, [.nilFunc]⟩ := ⟨by kernel_rfl, by kernel_rfl, by kernel_rfl⟩
theorem ty151 : TyOk Try.prog 151 ⟨.fn, 1, 8, [.nilFunc]⟩ := ⟨by kernel_rfl, by kernel_rfl, by kernel_rfl⟩
theorem ty152 : TyOk Try.prog 152 ⟨.ptr 124, 1, 8, [.pointer none]⟩ := ⟨by kernel_rfl, by kernel_rfl, by kernel_rfl⟩
theorem ty153 : TyOk Try.prog 153 ⟨.fn, 1, 8, [.nilFunc]⟩ := ⟨by kernel_rfl, by kernel_rfl, by kernel_rfl⟩
theorem ty154 : TyOk Try.prog 154 ⟨.array 3 75, 9, 72, [.int .u64 0, .int .u64 0, .int .u64 0, .int .u64 0, .int .u64 0, .int .u64 0, .int .u64 0, .int .u64 0, .int .u64 0]⟩ := ⟨by kernel_rfl, by kernel_rfl, by kernel_rfl⟩
theorem ty155 : TyOk Try.prog 155 ⟨.fn, 1, 8, [.nilFunc]⟩ := ⟨by kernel_rfl, by kernel_rfl, by kernel_rfl⟩
theorem ty156 : TyOk Try.prog 156 ⟨.int .i64, 1, 8, [.int .i64 0]⟩ := ⟨by kernel_rfl, by kernel_rfl, by kernel_rfl⟩
theorem ty157 : TyOk Try.prog 157 ⟨.fn, 1, 8, [.nilFunc]⟩ := ⟨by kernel_rfl, by kernel_rfl, by kernel_rfl⟩
theorem ty158 : TyOk Try.prog 158 ⟨.fn, 1, 8, [.nilFunc]⟩ := ⟨by kernel_rfl, by kernel_rfl, by kernel_rfl⟩
theorem ty159 : TyOk Try.prog 159 ⟨.fn, 1, 8, [.nilFunc]⟩ := ⟨by kernel_rfl, by kernel_rfl, by kernel_rfl⟩
theorem ty160 : TyOk Try.prog 160 ⟨.fn, 1, 8, [.nilFunc]⟩ := ⟨by kernel_rfl, by kernel_rfl, by kernel_rfl⟩
theorem ty161 : TyOk Try.prog 161 ⟨.fn, 1, 8, [.nilFunc]⟩ := ⟨by kernel_rfl, by kernel_rfl, by kernel_rfl⟩
theorem ty162 : TyOk Try.prog 162 ⟨.fn, 1, 8, [.nilFunc]⟩ := ⟨by kernel_rfl, by kernel_rfl, by kernel_rfl⟩
theorem ty163 : TyOk Try.prog 163 ⟨.fn, 1, 8, [.nilFunc]⟩ := ⟨by kernel_rfl, by kernel_rfl, by kernel_rfl⟩
theorem ty164 : TyOk Try.prog 164 ⟨.fn, 1, 8, [.nilFunc]⟩ := ⟨by kernel_rfl, by kernel_rfl, by kernel_rfl⟩
theorem ty165 : TyOk Try.prog 165 ⟨.fn, 1, 8, [.nilFunc]⟩ := ⟨by kernel_rfl, by kernel_rfl, by kernel_rfl⟩
theorem ty167 : TyOk Try.prog 167 ⟨.fn, 1, 8, [.nilFunc]⟩ := ⟨by kernel_rfl, by kernel_rfl, by kernel_rfl⟩
theorem ty168 : TyOk Try.prog 168 ⟨.fn, 1, 8, [.nilFunc]⟩ := ⟨by kernel_rfl, by kernel_rfl, by kernel_rfl⟩
theorem ty170 : TyOk Try.prog 170 ⟨.fn, 1, 8, [.nilFunc]⟩ := ⟨by kernel_rfl, by kernel_rfl, by kernel_rfl⟩
theorem ty171 : TyOk Try.prog 171 ⟨.fn, 1, 8, [.nilFunc]⟩ := ⟨by kernel_rfl, by kernel_rfl, by kernel_rfl⟩
theorem ty172 : TyOk Try.prog 172 ⟨.fn, 1, 8, [.nilFunc]⟩ := ⟨by kernel_rfl, by kernel_rfl, by kernel_rfl⟩
theorem ty173 : TyOk Try.prog 173 ⟨.fn, 1, 8, [.nilFunc]⟩ := ⟨by kernel_rfl, by kernel_rfl, by kernel_rfl⟩
theorem ty174 : TyOk Try.prog 174 ⟨.fn, 1, 8, [.nilFunc]⟩ := ⟨by kernel_rfl, by kernel_rfl, by kernel_rfl⟩
theorem ty175 : TyOk Try.prog 175 ⟨.fn, 1, 8, [.nilFunc]⟩ := ⟨by kernel_rfl, by kernel_rfl, by kernel_rfl⟩
theorem ty176 : TyOk Try.prog 176 ⟨.fn, 1, 8, [.nilFunc]⟩ := ⟨by kernel_rfl, by kernel_rfl, by kernel_rfl⟩
theorem ty177 : TyOk Try.prog 177 ⟨.fn, 1, 8, [.nilFunc]⟩ := ⟨by kernel_rfl, by kernel_rfl, by kernel_rfl⟩
theorem ty179 : TyOk Try.prog 179 ⟨.fn, 1, 8, [.nilFunc]⟩ := ⟨by kernel_rfl, by kernel_rfl, by kernel_rfl⟩
theorem ty180 : TyOk Try.prog 180 ⟨.fn, 1, 8, [.nilFunc]⟩ := ⟨by kernel_rfl, by kernel_rfl, by kernel_rfl⟩
theorem ty181 : TyOk Try.prog 181 ⟨.fn, 1, 8, [.nilFunc]⟩ := ⟨by kernel_rfl, by kernel_rfl, by kernel_rfl⟩
theorem ty182 : TyOk Try.prog 182 ⟨.fn, 1, 8, [.nilFunc]⟩ := ⟨by kernel_rfl, by kernel_rfl, by kernel_rfl⟩
theorem ty183 : TyOk Try.prog 183 ⟨.fn, 1, 8, [.nilFunc]⟩ := ⟨by kernel_rfl, by kernel_rfl, by kernel_rfl⟩
theorem ty184 : TyOk Try.prog 184 ⟨.fn, 1, 8, [.nilFunc]⟩ := ⟨by kernel_rfl, by kernel_rfl, by kernel_rfl⟩
theorem ty185 : TyOk Try.prog 185 ⟨.fn, 1, 8, [.nilFunc]⟩ := ⟨by kernel_rfl, by kernel_rfl, by kernel_rfl⟩
theorem ty186 : TyOk Try.prog 186 ⟨.fn, 1, 8, [.nilFunc]⟩ := ⟨by kernel_rfl, by kernel_rfl, by kernel_rfl⟩
theorem ty188 : TyOk Try.prog 188 ⟨.fn, 1, 8, [.nilFunc]⟩ := ⟨by kernel_rfl, by kernel_rfl, by kernel_rfl⟩
theorem ty189 : TyOk Try.prog 189 ⟨.fn, 1, 8, [.nilFunc]⟩ := ⟨by kernel_rfl, by kernel_rfl, by kernel_rfl⟩
theorem ty190 : TyOk Try.prog 190 ⟨.fn, 1, 8, [.nilFunc]⟩ := ⟨by kernel_rfl, by kernel_rfl, by kernel_rfl⟩
theorem ty191 : TyOk Try.prog 191 ⟨.fn, 1, 8, [.nilFunc]⟩ := ⟨by kernel_rfl, by kernel_rfl, by kernel_rfl⟩
theorem ty192 : TyOk Try.prog 192 ⟨.fn, 1, 8, [.nilFunc]⟩ := ⟨by kernel_rfl, by kernel_rfl, by kernel_rfl⟩
theorem ty193 : TyOk Try.prog 193 ⟨.int .i64, 1, 8, [.int .i64 0]⟩ := ⟨by kernel_rfl, by kernel_rfl, by kernel_rfl⟩
theorem ty195 : TyOk Try.prog 195 ⟨.fn, 1, 8, [.nilFunc]⟩ := ⟨by kernel_rfl, by kernel_rfl, by kernel_rfl⟩
theorem ty196 : TyOk Try.prog 196 ⟨.fn, 1, 8, [.nilFunc]⟩ := ⟨by kernel_rfl, by kernel_rfl, by kernel_rfl⟩
theorem ty197 : TyOk Try.prog 197 ⟨.fn, 1, 8, [.nilFunc]⟩ := ⟨by kernel_rfl, by kernel_rfl, by kernel_rfl⟩
theorem ty199 : TyOk Try.prog 199 ⟨.fn, 1, 8, [.nilFunc]⟩ := ⟨by kernel_rfl, by kernel_rfl, by kernel_rfl⟩
theorem ty200 : TyOk Try.prog 200 ⟨.fn, 1, 8, [.nilFunc]⟩ := ⟨by kernel_rfl, by kernel_rfl, by kernel_rfl⟩
theorem ty201 : TyOk Try.prog 201 ⟨.int .u32, 1, 4, [.int .u32 0]⟩ := ⟨by kernel_rfl, by kernel_rfl, by kernel_rfl⟩
theorem ty202 : TyOk Try.prog 202 ⟨.fn, 1, 8, [.nilFunc]⟩ := ⟨by kernel_rfl, by kernel_rfl, by kernel_rfl⟩
theorem ty203 : TyOk Try.prog 203 ⟨.int .u64, 1, 8, [.int .u64 0]⟩ := ⟨by kernel_rfl, by kernel_rfl, by kernel_rfl⟩
theorem ty204 : TyOk Try.prog 204 ⟨.fn, 1, 8, [.nilFunc]⟩ := ⟨by kernel_rfl, by kernel_rfl, by kernel_rfl⟩
theorem ty205 : TyOk Try.prog 205 ⟨.fn, 1, 8, [.nilFunc]⟩ := ⟨by kernel_rfl, by kernel_rfl, by kernel_rfl⟩
theorem ty206 : TyOk Try.prog 206 ⟨.fn, 1, 8, [.nilFunc]⟩ := ⟨by kernel_rfl, by kernel_rfl, by kernel_rfl⟩
theorem ty207 : TyOk Try.prog 207 ⟨.ptr 3, 1, 8, [.pointer none]⟩ := ⟨by kernel_rfl, by kernel_rfl, by kernel_rfl⟩
theorem ty208 : TyOk Try.prog 208 ⟨.fn, 1, 8, [.nilFunc]⟩ := ⟨by kernel_rfl, by kernel_rfl, by kernel_rfl⟩
theorem ty209 : TyOk Try.prog 209 ⟨.ptr 203, 1, 8, [.pointer none]⟩ := ⟨by kernel_rfl, by kernel_rfl, by kernel_rfl⟩
theorem ty211 : TyOk Try.prog 211 ⟨.fn, 1, 8, [.nilFunc]⟩ := ⟨by kernel_rfl, by kernel_rfl, by kernel_rfl⟩
theorem ty212 : TyOk Try.prog 212 ⟨.fn, 1, 8, [.nilFunc]⟩ := ⟨by kernel_rfl, by kernel_rfl, by kernel_rfl⟩
theorem ty218 : TyOk Try.prog 218 ⟨.fn, 1, 8, [.nilFunc]⟩ := ⟨by kernel_rfl, by kernel_rfl, by kernel_rfl⟩
theorem ty221 : TyOk Try.prog 221 ⟨.fn, 1, 8, [.nilFunc]⟩ := ⟨by kernel_rfl, by kernel_rfl, by kernel_rfl⟩
theorem ty222 : TyOk Try.prog 222 ⟨.ptr 5, 1, 8, [.pointer none]⟩ := ⟨by kernel_rfl, by kernel_rfl, by kernel_rfl⟩
theorem ty225 : TyOk Try.prog 225 ⟨.struct [(0, 12), (1, 12), (2, 201), (3, 219), (4, 5), (5, 5), (6, 220), (7, 221), (8, 222), (9, 223), (10, 224)], 11, 48, [.int .u64 0, .int .u64 0, .int .u32 0, .int .u8 0, .int .u8 0, .int .u8 0, .int .u8 0, .nilFunc, .pointer none, .int .i32 0, .int .i32 0]⟩ := ⟨by kernel_rfl, by kernel_rfl, by kernel_rfl⟩
def lay : Lay := [(1, ⟨.fn, 1, 8, [.nilFunc]⟩),
  (2, ⟨.int .i64, 1, 8, [.int .i64 0]⟩),
  (3, ⟨.int .i64, 1, 8, [.int .i64 0]⟩),
  (4, ⟨.bool, 1, 1, [.bool false]⟩),
  (5, ⟨.int .u8, 1, 1, [.int .u8 0]⟩),
  (9, ⟨.str, 1, 16, [.string ByteArray.empty]⟩),
  (12, ⟨.int .u64, 1, 8, [.int .u64 0]⟩),
  (17, ⟨.ptr 226, 1, 8, [.pointer none]⟩),
  (20, ⟨.iface, 1, 16, [.nilIface]⟩),
  (21, ⟨.int .i32, 1, 4, [.int .i32 0]⟩),
  (22, ⟨.struct [(0, 3), (1, 3)], 2, 16, [.int .i64 0, .int .i64 0]⟩),
  (23, ⟨.struct [(0, 3), (1, 3)], 2, 16, [.int .i64 0, .int .i64 0]⟩),
  (24, ⟨.slice 45, 1, 24, [.slice none 0 0]⟩),
  (25, ⟨.fn, 1, 8, [.nilFunc]⟩),
  (26, ⟨.int .i64, 1, 8, [.int .i64 0]⟩),
  (27, ⟨.struct [(0, 3), (1, 26)], 2, 16, [.int .i64 0, .int .i64 0]⟩),
  (28, ⟨.struct [(0, 3), (1, 26)], 2, 16, [.int .i64 0, .int .i64 0]⟩),
  (29, ⟨.fn, 1, 8, [.nilFunc]⟩),
  (30, ⟨.fn, 1, 8, [.nilFunc]⟩),
  (31, ⟨.fn, 1, 8, [.nilFunc]⟩),
  (32, ⟨.fn, 1, 8, [.nilFunc]⟩),
  (33, ⟨.fn, 1, 8, [.nilFunc]⟩),
  (34, ⟨.slice 43, 1, 24, [.slice none 0 0]⟩),
  (35, ⟨.fn, 1, 8, [.nilFunc]⟩),
  (36, ⟨.fn, 1, 8, [.nilFunc]⟩),
  (37, ⟨.fn, 1, 8, [.nilFunc]⟩),
  (38, ⟨.int .u64, 1, 8, [.int .u64 0]⟩),
  (39, ⟨.int .u16, 1, 2, [.int .u16 0]⟩),
  (40, ⟨.array 4 39, 4, 8, [.int .u16 0, .int .u16 0, .int .u16 0, .int .u16 0]⟩),
  (41, ⟨.array 4 39, 4, 8, [.int .u16 0, .int .u16 0, .int .u16 0, .int .u16 0]⟩),
  (42, ⟨.struct [(0, 38), (1, 3), (2, 41)], 6, 24, [.int .u64 0, .int .i64 0, .int .u16 0, .int .u16 0, .int .u16 0, .int .u16 0]⟩),
  (43, ⟨.struct [(0, 38), (1, 3), (2, 41)], 6, 24, [.int .u64 0, .int .i64 0, .int .u16 0, .int .u16 0, .int .u16 0, .int .u16 0]⟩),
  (44, ⟨.struct [(0, 3), (1, 4), (2, 4), (3, 38), (4, 38), (5, 3), (6, 43)], 12, 64, [.int .i64 0, .bool false, .bool false, .int .u64 0, .int .u64 0, .int .i64 0, .int .u64 0, .int .i64 0, .int .u16 0, .int .u16 0, .int .u16 0, .int .u16 0]⟩),
  (45, ⟨.struct [(0, 3), (1, 4), (2, 4), (3, 38), (4, 38), (5, 3), (6, 43)], 12, 64, [.int .i64 0, .bool false, .bool false, .int .u64 0, .int .u64 0, .int .i64 0, .int .u64 0, .int .i64 0, .int .u16 0, .int .u16 0, .int .u16 0, .int .u16 0]⟩),
  (46, ⟨.fn, 1, 8, [.nilFunc]⟩),
  (47, ⟨.slice 67, 1, 24, [.slice none 0 0]⟩),
  (48, ⟨.struct [(0, 23), (2, 47)], 3, 40, [.int .i64 0, .int .i64 0, .slice none 0 0]⟩),
  (49, ⟨.struct [(0, 23), (2, 47)], 3, 40, [.int .i64 0, .int .i64 0, .slice none 0 0]⟩),
  (51, ⟨.fn, 1, 8, [.nilFunc]⟩),
  (52, ⟨.struct [(0, 49), (3, 3)], 4, 48, [.int .i64 0, .int .i64 0, .slice none 0 0, .int .i64 0]⟩),
  (53, ⟨.struct [(0, 49), (3, 3)], 4, 48, [.int .i64 0, .int .i64 0, .slice none 0 0, .int .i64 0]⟩),
  (54, ⟨.fn, 1, 8, [.nilFunc]⟩),
  (55, ⟨.fn, 1, 8, [.nilFunc]⟩),
  (56, ⟨.fn, 1, 8, [.nilFunc]⟩),
  (57, ⟨.fn, 1, 8, [.nilFunc]⟩),
  (59, ⟨.fn, 1, 8, [.nilFunc]⟩),
  (60, ⟨.struct [(0, 9), (1, 4)], 2, 24, [.string ByteArray.empty, .bool false]⟩),
  (61, ⟨.struct [(0, 9), (1, 4)], 2, 24, [.string ByteArray.empty, .bool false]⟩),
  (62, ⟨.fn, 1, 8, [.nilFunc]⟩),
  (63, ⟨.fn, 1, 8, [.nilFunc]⟩),
  (64, ⟨.slice 79, 1, 24, [.slice none 0 0]⟩),
  (65, ⟨.slice 119, 1, 24, [.slice none 0 0]⟩),
  (66, ⟨.struct [(0, 3), (1, 64), (2, 65), (3, 43), (9, 38)], 10, 88, [.int .i64 0, .slice none 0 0, .slice none 0 0, .int .u64 0, .int .i64 0, .int .u16 0, .int .u16 0, .int .u16 0, .int .u16 0, .int .u64 0]⟩),
  (67, ⟨.struct [(0, 3), (1, 64), (2, 65), (3, 43), (9, 38)], 10, 88, [.int .i64 0, .slice none 0 0, .slice none 0 0, .int .u64 0, .int .i64 0, .int .u16 0, .int .u16 0, .int .u16 0, .int .u16 0, .int .u64 0]⟩),
  (68, ⟨.fn, 1, 8, [.nilFunc]⟩),
  (69, ⟨.fn, 1, 8, [.nilFunc]⟩),
  (70, ⟨.fn, 1, 8, [.nilFunc]⟩),
  (71, ⟨.ptr 128, 1, 8, [.pointer none]⟩),
  (72, ⟨.fn, 1, 8, [.nilFunc]⟩),
  (73, ⟨.slice 77, 1, 24, [.slice none 0 0]⟩),
  (74, ⟨.struct [(0, 38), (1, 38), (2, 38)], 3, 24, [.int .u64 0, .int .u64 0, .int .u64 0]⟩),
  (75, ⟨.struct [(0, 38), (1, 38), (2, 38)], 3, 24, [.int .u64 0, .int .u64 0, .int .u64 0]⟩),
  (76, ⟨.struct [(0, 3), (1, 3), (2, 4), (3, 75), (6, 75), (9, 75), (12, 3), (13, 3)], 14, 112, [.int .i64 0, .int .i64 0, .bool false, .int .u64 0, .int .u64 0, .int .u64 0, .int .u64 0, .int .u64 0, .int .u64 0, .int .u64 0, .int .u64 0, .int .u64 0, .int .i64 0, .int .i64 0]⟩),
  (77, ⟨.struct [(0, 3), (1, 3), (2, 4), (3, 75), (6, 75), (9, 75), (12, 3), (13, 3)], 14, 112, [.int .i64 0, .int .i64 0, .bool false, .int .u64 0, .int .u64 0, .int .u64 0, .int .u64 0, .int .u64 0, .int .u64 0, .int .u64 0, .int .u64 0, .int .u64 0, .int .i64 0, .int .i64 0]⟩),
  (78, ⟨.struct [(0, 3), (1, 77)], 15, 120, [.int .i64 0, .int .i64 0, .int .i64 0, .bool false, .int .u64 0, .int .u64 0, .int .u64 0, .int .u64 0, .int .u64 0, .int .u64 0, .int .u64 0, .int .u64 0, .int .u64 0, .int .i64 0, .int .i64 0]⟩),
  (79, ⟨.struct [(0, 3), (1, 77)], 15, 120, [.int .i64 0, .int .i64 0, .int .i64 0, .bool false, .int .u64 0, .int .u64 0, .int .u64 0, .int .u64 0, .int .u64 0, .int .u64 0, .int .u64 0, .int .u64 0, .int .u64 0, .int .i64 0, .int .i64 0]⟩),
  (80, ⟨.fn, 1, 8, [.nilFunc]⟩),
  (81, ⟨.fn, 1, 8, [.nilFunc]⟩),
  (82, ⟨.struct [(0, 73), (1, 3)], 2, 32, [.slice none 0 0, .int .i64 0]⟩),
  (83, ⟨.struct [(0, 73), (1, 3)], 2, 32, [.slice none 0 0, .int .i64 0]⟩),
  (84, ⟨.fn, 1, 8, [.nilFunc]⟩),
  (85, ⟨.fn, 1, 8, [.nilFunc]⟩),
  (86, ⟨.slice 3, 1, 24, [.slice none 0 0]⟩),
  (87, ⟨.fn, 1, 8, [.nilFunc]⟩),
  (88, ⟨.fn, 1, 8, [.nilFunc]⟩),
  (89, ⟨.fn, 1, 8, [.nilFunc]⟩),
  (90, ⟨.ptr 95, 1, 8, [.pointer none]⟩),
  (91, ⟨.fn, 1, 8, [.nilFunc]⟩),
  (92, ⟨.map 3 34, 1, 8, [.map none]⟩),
  (93, ⟨.slice 98, 1, 24, [.slice none 0 0]⟩),
  (94, ⟨.struct [(0, 23), (2, 92), (3, 45), (15, 38), (16, 93)], 17, 120, [.int .i64 0, .int .i64 0, .map none, .int .i64 0, .bool false, .bool false, .int .u64 0, .int .u64 0, .int .i64 0, .int .u64 0, .int .i64 0, .int .u16 0, .int .u16 0, .int .u16 0, .int .u16 0, .int .u64 0, .slice none 0 0]⟩),
  (95, ⟨.struct [(0, 23), (2, 92), (3, 45), (15, 38), (16, 93)], 17, 120, [.int .i64 0, .int .i64 0, .map none, .int .i64 0, .bool false, .bool false, .int .u64 0, .int .u64 0, .int .i64 0, .int .u64 0, .int .i64 0, .int .u16 0, .int .u16 0, .int .u16 0, .int .u16 0, .int .u64 0, .slice none 0 0]⟩),
  (96, ⟨.fn, 1, 8, [.nilFunc]⟩),
  (97, ⟨.struct [(0, 26), (1, 96)], 2, 16, [.int .i64 0, .nilFunc]⟩),
  (98, ⟨.struct [(0, 26), (1, 96)], 2, 16, [.int .i64 0, .nilFunc]⟩),
  (99, ⟨.fn, 1, 8, [.nilFunc]⟩),
  (100, ⟨.fn, 1, 8, [.nilFunc]⟩),
  (101, ⟨.fn, 1, 8, [.nilFunc]⟩),
  (102, ⟨.slice 5, 1, 24, [.slice none 0 0]⟩),
  (103, ⟨.ptr 106, 1, 8, [.pointer none]⟩),
  (104, ⟨.fn, 1, 8, [.nilFunc]⟩),
  (105, ⟨.struct [(0, 104), (1, 26)], 2, 16, [.nilFunc, .int .i64 0]⟩),
  (106, ⟨.struct [(0, 104), (1, 26)], 2, 16, [.nilFunc, .int .i64 0]⟩),
  (107, ⟨.int .u64, 1, 8, [.int .u64 0]⟩),
  (108, ⟨.struct [(0, 9), (1, 3), (2, 38), (3, 3)], 4, 40, [.string ByteArray.empty, .int .i64 0, .int .u64 0, .int .i64 0]⟩),
  (109, ⟨.struct [(0, 9), (1, 3), (2, 38), (3, 3)], 4, 40, [.string ByteArray.empty, .int .i64 0, .int .u64 0, .int .i64 0]⟩),
  (110, ⟨.fn, 1, 8, [.nilFunc]⟩),
  (112, ⟨.fn, 1, 8, [.nilFunc]⟩),
  (113, ⟨.slice 116, 1, 24, [.slice none 0 0]⟩),
  (114, ⟨.fn, 1, 8, [.nilFunc]⟩),
  (115, ⟨.struct [(0, 38), (1, 3), (2, 38), (3, 38)], 4, 32, [.int .u64 0, .int .i64 0, .int .u64 0, .int .u64 0]⟩),
  (116, ⟨.struct [(0, 38), (1, 3), (2, 38), (3, 38)], 4, 32, [.int .u64 0, .int .i64 0, .int .u64 0, .int .u64 0]⟩),
  (117, ⟨.fn, 1, 8, [.nilFunc]⟩),
  (118, ⟨.struct [(0, 41), (4, 41), (8, 3)], 9, 24, [.int .u16 0, .int .u16 0, .int .u16 0, .int .u16 0, .int .u16 0, .int .u16 0, .int .u16 0, .int .u16 0, .int .i64 0]⟩),
  (119, ⟨.struct [(0, 41), (4, 41), (8, 3)], 9, 24, [.int .u16 0, .int .u16 0, .int .u16 0, .int .u16 0, .int .u16 0, .int .u16 0, .int .u16 0, .int .u16 0, .int .i64 0]⟩),
  (120, ⟨.fn, 1, 8, [.nilFunc]⟩),
  (121, ⟨.slice 124, 1, 24, [.slice none 0 0]⟩),
  (122, ⟨.fn, 1, 8, [.nilFunc]⟩),
  (123, ⟨.struct [(0, 38), (1, 38), (2, 3), (3, 3), (4, 4)], 5, 40, [.int .u64 0, .int .u64 0, .int .i64 0, .int .i64 0, .bool false]⟩),
  (124, ⟨.struct [(0, 38), (1, 38), (2, 3), (3, 3), (4, 4)], 5, 40, [.int .u64 0, .int .u64 0, .int .i64 0, .int .i64 0, .bool false]⟩),
  (125, ⟨.fn, 1, 8, [.nilFunc]⟩),
  (126, ⟨.map 3 77, 1, 8, [.map none]⟩),
  (127, ⟨.struct [(0, 126)], 1, 8, [.map none]⟩),
  (128, ⟨.struct [(0, 126)], 1, 8, [.map none]⟩),
  (130, ⟨.fn, 1, 8, [.nilFunc]⟩),
  (131, ⟨.fn, 1, 8, [.nilFunc]⟩),
  (132, ⟨.fn, 1, 8, [.nilFunc]⟩),
  (133, ⟨.fn, 1, 8, [.nilFunc]⟩),
  (134, ⟨.fn, 1, 8, [.nilFunc]⟩),
  (135, ⟨.fn, 1, 8, [.nilFunc]⟩),
  (136, ⟨.fn, 1, 8, [.nilFunc]⟩),
  (137, ⟨.fn, 1, 8, [.nilFunc]⟩),
  (138, ⟨.fn, 1, 8, [.nilFunc]⟩),
  (139, ⟨.fn, 1, 8, [.nilFunc]⟩),
  (140, ⟨.fn, 1, 8, [.nilFunc]⟩),
  (141, ⟨.fn, 1, 8, [.nilFunc]⟩),
  (142, ⟨.fn, 1, 8, [.nilFunc]⟩),
  (144, ⟨.fn, 1, 8, [.nilFunc]⟩),
  (146, ⟨.fn, 1, 8, [.nilFunc]⟩),
  (148, ⟨.fn, 1, 8, [.nilFunc]⟩),
  (149, ⟨.fn, 1, 8, [.nilFunc]⟩),
  (150, ⟨.fn, 1, 8, [.nilFunc]⟩),
  (151, ⟨.fn, 1, 8, [.nilFunc]⟩),
  (152, ⟨.ptr 124, 1, 8, [.pointer none]⟩),
  (153, ⟨.fn, 1, 8, [.nilFunc]⟩),
  (154, ⟨.array 3 75, 9, 72, [.int .u64 0, .int .u64 0, .int .u64 0, .int .u64 0, .int .u64 0, .int .u64 0, .int .u64 0, .int .u64 0, .int .u64 0]⟩),
  (155, ⟨.fn, 1, 8, [.nilFunc]⟩),
  (156, ⟨.int .i64, 1, 8, [.int .i64 0]⟩),
  (157, ⟨.fn, 1, 8, [.nilFunc]⟩),
  (158, ⟨.fn, 1, 8, [.nilFunc]⟩),
  (159, ⟨.fn, 1, 8, [.nilFunc]⟩),
  (160, ⟨.fn, 1, 8, [.nilFunc]⟩),
  (161, ⟨.fn, 1, 8, [.nilFunc]⟩),
  (162, ⟨.fn, 1, 8, [.nilFunc]⟩),
  (163, ⟨.fn, 1, 8, [.nilFunc]⟩),
  (164, ⟨.fn, 1, 8, [.nilFunc]⟩),
  (165, ⟨.fn, 1, 8, [.nilFunc]⟩),
  (167, ⟨.fn, 1, 8, [.nilFunc]⟩),
  (168, ⟨.fn, 1, 8, [.nilFunc]⟩),
  (170, ⟨.fn, 1, 8, [.nilFunc]⟩),
  (171, ⟨.fn, 1, 8, [.nilFunc]⟩),
  (172, ⟨.fn, 1, 8, [.nilFunc]⟩),
  (173, ⟨.fn, 1, 8, [.nilFunc]⟩),
  (174, ⟨.fn, 1, 8, [.nilFunc]⟩),
  (175, ⟨.fn, 1, 8, [.nilFunc]⟩),
  (176, ⟨.fn, 1, 8, [.nilFunc]⟩),
  (177, ⟨.fn, 1, 8, [.nilFunc]⟩),
  (179, ⟨.fn, 1, 8, [.nilFunc]⟩),
  (180, ⟨.fn, 1, 8, [.nilFunc]⟩),
  (181, ⟨.fn, 1, 8, [.nilFunc]⟩),
  (182, ⟨.fn, 1, 8, [.nilFunc]⟩),
  (183, ⟨.fn, 1, 8, [.nilFunc]⟩),
  (184, ⟨.fn, 1, 8, [.nilFunc]⟩),
  (185, ⟨.fn, 1, 8, [.nilFunc]⟩),
  (186, ⟨.fn, 1, 8, [.nilFunc]⟩),
  (188, ⟨.fn, 1, 8, [.nilFunc]⟩),
  (189, ⟨.fn, 1, 8, [.nilFunc]⟩),
  (190, ⟨.fn, 1, 8, [.nilFunc]⟩),
  (191, ⟨.fn, 1, 8, [.nilFunc]⟩),
  (192, ⟨.fn, 1, 8, [.nilFunc]⟩),
  (193, ⟨.int .i64, 1, 8, [.int .i64 0]⟩),
  (195, ⟨.fn, 1, 8, [.nilFunc]⟩),
  (196, ⟨.fn, 1, 8, [.nilFunc]⟩),
  (197, ⟨.fn, 1, 8, [.nilFunc]⟩),
  (199, ⟨.fn, 1, 8, [.nilFunc]⟩),
  (200, ⟨.fn, 1, 8, [.nilFunc]⟩),
  (201, ⟨.int .u32, 1, 4, [.int .u32 0]⟩),
  (202, ⟨.fn, 1, 8, [.nilFunc]⟩),
  (203, ⟨.int .u64, 1, 8, [.int .u64 0]⟩),
  (204, ⟨.fn, 1, 8, [.nilFunc]⟩),
  (205, ⟨.fn, 1, 8, [.nilFunc]⟩),
  (206, ⟨.fn, 1, 8, [.nilFunc]⟩),
  (207, ⟨.ptr 3, 1, 8, [.pointer none]⟩),
  (208, ⟨.fn, 1, 8, [.nilFunc]⟩),
  (209, ⟨.ptr 203, 1, 8, [.pointer none]⟩),
  (211, ⟨.fn, 1, 8, [.nilFunc]⟩),
  (212, ⟨.fn, 1, 8, [.nilFunc]⟩),
  (218, ⟨.fn, 1, 8, [.nilFunc]⟩),
  (221, ⟨.fn, 1, 8, [.nilFunc]⟩),
  (222, ⟨.ptr 5, 1, 8, [.pointer none]⟩),
  (225, ⟨.struct [(0, 12), (1, 12), (2, 201), (3, 219), (4, 5), (5, 5), (6, 220), (7, 221), (8, 222), (9, 223), (10, 224)], 11, 48, [.int .u64 0, .int .u64 0, .int .u32 0, .int .u8 0, .int .u8 0, .int .u8 0, .int .u8 0, .nilFunc, .pointer none, .int .i32 0, .int .i32 0]⟩)]
theorem lay_ok : LayOk Try.prog lay := .cons ty1 <| .cons ty2 <| .cons ty3 <| .cons ty4 <| .cons ty5 <| .cons ty9 <| .cons ty12 <| .cons ty17 <| .cons ty20 <| .cons ty21 <| .cons ty22 <| .cons ty23 <| .cons ty24 <| .cons ty25 <| .cons ty26 <| .cons ty27 <| .cons ty28 <| .cons ty29 <| .cons ty30 <| .cons ty31 <| .cons ty32 <| .cons ty33 <| .cons ty34 <| .cons ty35 <| .cons ty36 <| .cons ty37 <| .cons ty38 <| .cons ty39 <| .cons ty40 <| .cons ty41 <| .cons ty42 <| .cons ty43 <| .cons ty44 <| .cons ty45 <| .cons ty46 <| .cons ty47 <| .cons ty48 <| .cons ty49 <| .cons ty51 <| .cons ty52 <| .cons ty53 <| .cons ty54 <| .cons ty55 <| .cons ty56 <| .cons ty57 <| .cons ty59 <| .cons ty60 <| .cons ty61 <| .cons ty62 <| .cons ty63 <| .cons ty64 <| .cons ty65 <| .cons ty66 <| .cons ty67 <| .cons ty68 <| .cons ty69 <| .cons ty70 <| .cons ty71 <| .cons ty72 <| .cons ty73 <| .cons ty74 <| .cons ty75 <| .cons ty76 <| .cons ty77 <| .cons ty78 <| .cons ty79 <| .cons ty80 <| .cons ty81 <| .cons ty82 <| .cons ty83 <| .cons ty84 <| .cons ty85 <| .cons ty86 <| .cons ty87 <| .cons ty88 <| .cons ty89 <| .cons ty90 <| .cons ty91 <| .cons ty92 <| .cons ty93 <| .cons ty94 <| .cons ty95 <| .cons ty96 <| .cons ty97 <| .cons ty98 <| .cons ty99 <| .cons ty100 <| .cons ty101 <| .cons ty102 <| .cons ty103 <| .cons ty104 <| .cons ty105 <| .cons ty106 <| .cons ty107 <| .cons ty108 <| .cons ty109 <| .cons ty110 <| .cons ty112 <| .cons ty113 <| .cons ty114 <| .cons ty115 <| .cons ty116 <| .cons ty117 <| .cons ty118 <| .cons ty119 <| .cons ty120 <| .cons ty121 <| .cons ty122 <| .cons ty123 <| .cons ty124 <| .cons ty125 <| .cons ty126 <| .cons ty127 <| .cons ty128 <| .cons ty130 <| .cons ty131 <| .cons ty132 <| .cons ty133 <| .cons ty134 <| .cons ty135 <| .cons ty136 <| .cons ty137 <| .cons ty138 <| .cons ty139 <| .cons ty140 <| .cons ty141 <| .cons ty142 <| .cons ty144 <| .cons ty146 <| .cons ty148 <| .cons ty149 <| .cons ty150 <| .cons ty151 <| .cons ty152 <| .cons ty153 <| .cons ty154 <| .cons ty155 <| .cons ty156 <| .cons ty157 <| .cons ty158 <| .cons ty159 <| .cons ty160 <| .cons ty161 <| .cons ty162 <| .cons ty163 <| .cons ty164 <| .cons ty165 <| .cons ty167 <| .cons ty168 <| .cons ty170 <| .cons ty171 <| .cons ty172 <| .cons ty173 <| .cons ty174 <| .cons ty175 <| .cons ty176 <| .cons ty177 <| .cons ty179 <| .cons ty180 <| .cons ty181 <| .cons ty182 <| .cons ty183 <| .cons ty184 <| .cons ty185 <| .cons ty186 <| .cons ty188 <| .cons ty189 <| .cons ty190 <| .cons ty191 <| .cons ty192 <| .cons ty193 <| .cons ty195 <| .cons ty196 <| .cons ty197 <| .cons ty199 <| .cons ty200 <| .cons ty201 <| .cons ty202 <| .cons ty203 <| .cons ty204 <| .cons ty205 <| .cons ty206 <| .cons ty207 <| .cons ty208 <| .cons ty209 <| .cons ty211 <| .cons ty212 <| .cons ty218 <| .cons ty221 <| .cons ty222 <| .cons ty225 <| .nil _
theorem L1 : ty lay 1 = some ⟨.fn, 1, 8, [.nilFunc]⟩ := rfl
theorem L2 : ty lay 2 = some ⟨.int .i64, 1, 8, [.int .i64 0]⟩ := rfl
theorem L3 : ty lay 3 = some ⟨.int .i64, 1, 8, [.int .i64 0]⟩ := rfl
theorem L4 : ty lay 4 = some ⟨.bool, 1, 1, [.bool false]⟩ := rfl
theorem L5 : ty lay 5 = some ⟨.int .u8, 1, 1, [.int .u8 0]⟩ := rfl
theorem L9 : ty lay 9 = some ⟨.str, 1, 16, [.string ByteArray.empty]⟩ := rfl
theorem L12 : ty lay 12 = some ⟨.int .u64, 1, 8, [.int .u64 0]⟩ := rfl
theorem L17 : ty lay 17 = some ⟨.ptr 226, 1, 8, [.pointer none]⟩ := rfl
theorem L20 : ty lay 20 = some ⟨.iface, 1, 16, [.nilIface]⟩ := rfl
theorem L21 : ty lay 21 = some ⟨.int .i32, 1, 4, [.int .i32 0]⟩ := rfl
theorem L22 : ty lay 22 = some ⟨.struct [(0, 3), (1, 3)], 2, 16, [.int .i64 0, .int .i64 0]⟩ := rfl
theorem L23 : ty lay 23 = some ⟨.struct [(0, 3), (1, 3)], 2, 16, [.int .i64 0, .int .i64 0]⟩ := rfl
theorem L24 : ty lay 24 = some ⟨.slice 45, 1, 24, [.slice none 0 0]⟩ := rfl
theorem L25 : ty lay 25 = some ⟨.fn, 1, 8, [.nilFunc]⟩ := rfl
theorem L26 : ty lay 26 = some ⟨.int .i64, 1, 8, [.int .i64 0]⟩ := rfl
theorem L27 : ty lay 27 = some ⟨.struct [(0, 3), (1, 26)], 2, 16, [.int .i64 0, .int .i64 0]⟩ := rfl
theorem L28 : ty lay 28 = some ⟨.struct [(0, 3), (1, 26)], 2, 16, [.int .i64 0, .int .i64 0]⟩ := rfl
theorem L29 : ty lay 29 = some ⟨.fn, 1, 8, [.nilFunc]⟩ := rfl
theorem L30 : ty lay 30 = some ⟨.fn, 1, 8, [.nilFunc]⟩ := rfl
theorem L31 : ty lay 31 = some ⟨.fn, 1, 8, [.nilFunc]⟩ := rfl
theorem L32 : ty lay 32 = some ⟨.fn, 1, 8, [.nilFunc]⟩ := rfl
theorem L33 : ty lay 33 = some ⟨.fn, 1, 8, [.nilFunc]⟩ := rfl
theorem L34 : ty lay 34 = some ⟨.slice 43, 1, 24, [.slice none 0 0]⟩ := rfl
theorem L35 : ty lay 35 = some ⟨.fn, 1, 8, [.nilFunc]⟩ := rfl
theorem L36 : ty lay 36 = some ⟨.fn, 1, 8, [.nilFunc]⟩ := rfl
theorem L37 : ty lay 37 = some ⟨.fn, 1, 8, [.nilFunc]⟩ := rfl
theorem L38 : ty lay 38 = some ⟨.int .u64, 1, 8, [.int .u64 0]⟩ := rfl
theorem L39 : ty lay 39 = some ⟨.int .u16, 1, 2, [.int .u16 0]⟩ := rfl
theorem L40 : ty lay 40 = some ⟨.array 4 39, 4, 8, [.int .u16 0, .int .u16 0, .int .u16 0, .int .u16 0]⟩ := rfl
theorem L41 : ty lay 41 = some ⟨.array 4 39, 4, 8, [.int .u16 0, .int .u16 0, .int .u16 0, .int .u16 0]⟩ := rfl
theorem L42 : ty lay 42 = some ⟨.struct [(0, 38), (1, 3), (2, 41)], 6, 24, [.int .u64 0, .int .i64 0, .int .u16 0, .int .u16 0, .int .u16 0, .int .u16 0]⟩ := rfl
theorem L43 : ty lay 43 = some ⟨.struct [(0, 38), (1, 3), (2, 41)], 6, 24, [.int .u64 0, .int .i64 0, .int .u16 0, .int .u16 0, .int .u16 0, .int .u16 0]⟩ := rfl
theorem L44 : ty lay 44 = some ⟨.struct [(0, 3), (1, 4), (2, 4), (3, 38), (4, 38), (5, 3), (6, 43)], 12, 64, [.int .i64 0, .bool false, .bool false, .int .u64 0, .int .u64 0, .int .i64 0, .int .u64 0, .int .i64 0, .int .u16 0, .int .u16 0, .int .u16 0, .int .u16 0]⟩ := rfl
theorem L45 : ty lay 45 = some ⟨.struct [(0, 3), (1, 4), (2, 4), (3, 38), (4, 38), (5, 3), (6, 43)], 12, 64, [.int .i64 0, .bool false, .bool false, .int .u64 0, .int .u64 0, .int .i64 0, .int .u64 0, .int .i64 0, .int .u16 0, .int .u16 0, .int .u16 0, .int .u16 0]⟩ := rfl
theorem L46 : ty lay 46 = some ⟨.fn, 1, 8, [.nilFunc]⟩ := rfl
theorem L47 : ty lay 47 = some ⟨.slice 67, 1, 24, [.slice none 0 0]⟩ := rfl
theorem L48 : ty lay 48 = some ⟨.struct [(0, 23), (2, 47)], 3, 40, [.int .i64 0, .int .i64 0, .slice none 0 0]⟩ := rfl
theorem L49 : ty lay 49 = some ⟨.struct [(0, 23), (2, 47)], 3, 40, [.int .i64 0, .int .i64 0, .slice none 0 0]⟩ := rfl
theorem L51 : ty lay 51 = some ⟨.fn, 1, 8, [.nilFunc]⟩ := rfl
theorem L52 : ty lay 52 = some ⟨.struct [(0, 49), (3, 3)], 4, 48, [.int .i64 0, .int .i64 0, .slice none 0 0, .int .i64 0]⟩ := rfl
theorem L53 : ty lay 53 = some ⟨.struct [(0, 49), (3, 3)], 4, 48, [.int .i64 0, .int .i64 0, .slice none 0 0, .int .i64 0]⟩ := rfl
theorem L54 : ty lay 54 = some ⟨.fn, 1, 8, [.nilFunc]⟩ := rfl
theorem L55 : ty lay 55 = some ⟨.fn, 1, 8, [.nilFunc]⟩ := rfl
theorem L56 : ty lay 56 = some ⟨.fn, 1, 8, [.nilFunc]⟩ := rfl
theorem L57 : ty lay 57 = some ⟨.fn, 1, 8, [.nilFunc]⟩ := rfl
theorem L59 : ty lay 59 = some ⟨.fn, 1, 8, [.nilFunc]⟩ := rfl
theorem L60 : ty lay 60 = some ⟨.struct [(0, 9), (1, 4)], 2, 24, [.string ByteArray.empty, .bool false]⟩ := rfl
theorem L61 : ty lay 61 = some ⟨.struct [(0, 9), (1, 4)], 2, 24, [.string ByteArray.empty, .bool false]⟩ := rfl
theorem L62 : ty lay 62 = some ⟨.fn, 1, 8, [.nilFunc]⟩ := rfl
theorem L63 : ty lay 63 = some ⟨.fn, 1, 8, [.nilFunc]⟩ := rfl
theorem L64 : ty lay 64 = some ⟨.slice 79, 1, 24, [.slice none 0 0]⟩ := rfl
theorem L65 : ty lay 65 = some ⟨.slice 119, 1, 24, [.slice none 0 0]⟩ := rfl
theorem L66 : ty lay 66 = some ⟨.struct [(0, 3), (1, 64), (2, 65), (3, 43), (9, 38)], 10, 88, [.int .i64 0, .slice none 0 0, .slice none 0 0, .int .u64 0, .int .i64 0, .int .u16 0, .int .u16 0, .int .u16 0, .int .u16 0, .int .u64 0]⟩ := rfl
theorem L67 : ty lay 67 = some ⟨.struct [(0, 3), (1, 64), (2, 65), (3, 43), (9, 38)], 10, 88, [.int .i64 0, .slice none 0 0, .slice none 0 0, .int .u64 0, .int .i64 0, .int .u16 0, .int .u16 0, .int .u16 0, .int .u16 0, .int .u64 0]⟩ := rfl
theorem L68 : ty lay 68 = some ⟨.fn, 1, 8, [.nilFunc]⟩ := rfl
theorem L69 : ty lay 69 = some ⟨.fn, 1, 8, [.nilFunc]⟩ := rfl
theorem L70 : ty lay 70 = some ⟨.fn, 1, 8, [.nilFunc]⟩ := rfl
theorem L71 : ty lay 71 = some ⟨.ptr 128, 1, 8, [.pointer none]⟩ := rfl
theorem L72 : ty lay 72 = some ⟨.fn, 1, 8, [.nilFunc]⟩ := rfl
theorem L73 : ty lay 73 = some ⟨.slice 77, 1, 24, [.slice none 0 0]⟩ := rfl
theorem L74 : ty lay 74 = some ⟨.struct [(0, 38), (1, 38), (2, 38)], 3, 24, [.int .u64 0, .int .u64 0, .int .u64 0]⟩ := rfl
theorem L75 : ty lay 75 = some ⟨.struct [(0, 38), (1, 38), (2, 38)], 3, 24, [.int .u64 0, .int .u64 0, .int .u64 0]⟩ := rfl
theorem L76 : ty lay 76 = some ⟨.struct [(0, 3), (1, 3), (2, 4), (3, 75), (6, 75), (9, 75), (12, 3), (13, 3)], 14, 112, [.int .i64 0, .int .i64 0, .bool false, .int .u64 0, .int .u64 0, .int .u64 0, .int .u64 0, .int .u64 0, .int .u64 0, .int .u64 0, .int .u64 0, .int .u64 0, .int .i64 0, .int .i64 0]⟩ := rfl
theorem L77 : ty lay 77 = some ⟨.struct [(0, 3), (1, 3), (2, 4), (3, 75), (6, 75), (9, 75), (12, 3), (13, 3)], 14, 112, [.int .i64 0, .int .i64 0, .bool false, .int .u64 0, .int .u64 0, .int .u64 0, .int .u64 0, .int .u64 0, .int .u64 0, .int .u64 0, .int .u64 0, .int .u64 0, .int .i64 0, .int .i64 0]⟩ := rfl
theorem L78 : ty lay 78 = some ⟨.struct [(0, 3), (1, 77)], 15, 120, [.int .i64 0, .int .i64 0, .int .i64 0, .bool false, .int .u64 0, .int .u64 0, .int .u64 0, .int .u64 0, .int .u64 0, .int .u64 0, .int .u64 0, .int .u64 0, .int .u64 0, .int .i64 0, .int .i64 0]⟩ := rfl
theorem L79 : ty lay 79 = some ⟨.struct [(0, 3), (1, 77)], 15, 120, [.int .i64 0, .int .i64 0, .int .i64 0, .bool false, .int .u64 0, .int .u64 0, .int .u64 0, .int .u64 0, .int .u64 0, .int .u64 0, .int .u64 0, .int .u64 0, .int .u64 0, .int .i64 0, .int .i64 0]⟩ := rfl
theorem L80 : ty lay 80 = some ⟨.fn, 1, 8, [.nilFunc]⟩ := rfl
theorem L81 : ty lay 81 = some ⟨.fn, 1, 8, [.nilFunc]⟩ := rfl
theorem L82 : ty lay 82 = some ⟨.struct [(0, 73), (1, 3)], 2, 32, [.slice none 0 0, .int .i64 0]⟩ := rfl
theorem L83 : ty lay 83 = some ⟨.struct [(0, 73), (1, 3)], 2, 32, [.slice none 0 0, .int .i64 0]⟩ := rfl
theorem L84 : ty lay 84 = some ⟨.fn, 1, 8, [.nilFunc]⟩ := rfl
theorem L85 : ty lay 85 = some ⟨.fn, 1, 8, [.nilFunc]⟩ := rfl
theorem L86 : ty lay 86 = some ⟨.slice 3, 1, 24, [.slice none 0 0]⟩ := rfl
theorem L87 : ty lay 87 = some ⟨.fn, 1, 8, [.nilFunc]⟩ := rfl
theorem L88 : ty lay 88 = some ⟨.fn, 1, 8, [.nilFunc]⟩ := rfl
theorem L89 : ty lay 89 = some ⟨.fn, 1, 8, [.nilFunc]⟩ := rfl
theorem L90 : ty lay 90 = some ⟨.ptr 95, 1, 8, [.pointer none]⟩ := rfl
theorem L91 : ty lay 91 = some ⟨.fn, 1, 8, [.nilFunc]⟩ := rfl
theorem L92 : ty lay 92 = some ⟨.map 3 34, 1, 8, [.map none]⟩ := rfl
theorem L93 : ty lay 93 = some ⟨.slice 98, 1, 24, [.slice none 0 0]⟩ := rfl
theorem L94 : ty lay 94 = some ⟨.struct [(0, 23), (2, 92), (3, 45), (15, 38), (16, 93)], 17, 120, [.int .i64 0, .int .i64 0, .map none, .int .i64 0, .bool false, .bool false, .int .u64 0, .int .u64 0, .int .i64 0, .int .u64 0, .int .i64 0, .int .u16 0, .int .u16 0, .int .u16 0, .int .u16 0, .int .u64 0, .slice none 0 0]⟩ := rfl
theorem L95 : ty lay 95 = some ⟨.struct [(0, 23), (2, 92), (3, 45), (15, 38), (16, 93)], 17, 120, [.int .i64 0, .int .i64 0, .map none, .int .i64 0, .bool false, .bool false, .int .u64 0, .int .u64 0, .int .i64 0, .int .u64 0, .int .i64 0, .int .u16 0, .int .u16 0, .int .u16 0, .int .u16 0, .int .u64 0, .slice none 0 0]⟩ := rfl
theorem L96 : ty lay 96 = some ⟨.fn, 1, 8, [.nilFunc]⟩ := rfl
theorem L97 : ty lay 97 = some ⟨.struct [(0, 26), (1, 96)], 2, 16, [.int .i64 0, .nilFunc]⟩ := rfl
theorem L98 : ty lay 98 = some ⟨.struct [(0, 26), (1, 96)], 2, 16, [.int .i64 0, .nilFunc]⟩ := rfl
theorem L99 : ty lay 99 = some ⟨.fn, 1, 8, [.nilFunc]⟩ := rfl
theorem L100 : ty lay 100 = some ⟨.fn, 1, 8, [.nilFunc]⟩ := rfl
theorem L101 : ty lay 101 = some ⟨.fn, 1, 8, [.nilFunc]⟩ := rfl
theorem L102 : ty lay 102 = some ⟨.slice 5, 1, 24, [.slice none 0 0]⟩ := rfl
theorem L103 : ty lay 103 = some ⟨.ptr 106, 1, 8, [.pointer none]⟩ := rfl
theorem L104 : ty lay 104 = some ⟨.fn, 1, 8, [.nilFunc]⟩ := rfl
theorem L105 : ty lay 105 = some ⟨.struct [(0, 104), (1, 26)], 2, 16, [.nilFunc, .int .i64 0]⟩ := rfl
theorem L106 : ty lay 106 = some ⟨.struct [(0, 104), (1, 26)], 2, 16, [.nilFunc, .int .i64 0]⟩ := rfl
theorem L107 : ty lay 107 = some ⟨.int .u64, 1, 8, [.int .u64 0]⟩ := rfl
theorem L108 : ty lay 108 = some ⟨.struct [(0, 9), (1, 3), (2, 38), (3, 3)], 4, 40, [.string ByteArray.empty, .int .i64 0, .int .u64 0, .int .i64 0]⟩ := rfl
theorem L109 : ty lay 109 = some ⟨.struct [(0, 9), (1, 3), (2, 38), (3, 3)], 4, 40, [.string ByteArray.empty, .int .i64 0, .int .u64 0, .int .i64 0]⟩ := rfl
theorem L110 : ty lay 110 = some ⟨.fn, 1, 8, [.nilFunc]⟩ := rfl
theorem L112 : ty lay 112 = some ⟨.fn, 1, 8, [.nilFunc]⟩ := rfl
theorem L113 : ty lay 113 = some ⟨.slice 116, 1, 24, [.slice none 0 0]⟩ := rfl
theorem L114 : ty lay 114 = some ⟨.fn, 1, 8, [.nilFunc]⟩ := rfl
theorem L115 : ty lay 115 = some ⟨.struct [(0, 38), (1, 3), (2, 38), (3, 38)], 4, 32, [.int .u64 0, .int .i64 0, .int .u64 0, .int .u64 0]⟩ := rfl
theorem L116 : ty lay 116 = some ⟨.struct [(0, 38), (1, 3), (2, 38), (3, 38)], 4, 32, [.int .u64 0, .int .i64 0, .int .u64 0, .int .u64 0]⟩ := rfl
theorem L117 : ty lay 117 = some ⟨.fn, 1, 8, [.nilFunc]⟩ := rfl
theorem L118 : ty lay 118 = some ⟨.struct [(0, 41), (4, 41), (8, 3)], 9, 24, [.int .u16 0, .int .u16 0, .int .u16 0, .int .u16 0, .int .u16 0, .int .u16 0, .int .u16 0, .int .u16 0, .int .i64 0]⟩ := rfl
theorem L119 : ty lay 119 = some ⟨.struct [(0, 41), (4, 41), (8, 3)], 9, 24, [.int .u16 0, .int .u16 0, .int .u16 0, .int .u16 0, .int .u16 0, .int .u16 0, .int .u16 0, .int .u16 0, .int .i64 0]⟩ := rfl
theorem L120 : ty lay 120 = some ⟨.fn, 1, 8, [.nilFunc]⟩ := rfl
theorem L121 : ty lay 121 = some ⟨.slice 124, 1, 24, [.slice none 0 0]⟩ := rfl
theorem L122 : ty lay 122 = some ⟨.fn, 1, 8, [.nilFunc]⟩ := rfl
theorem L123 : ty lay 123 = some ⟨.struct [(0, 38), (1, 38), (2, 3), (3, 3), (4, 4)], 5, 40, [.int .u64 0, .int .u64 0, .int .i64 0, .int .i64 0, .bool false]⟩ := rfl
theorem L124 : ty lay 124 = some ⟨.struct [(0, 38), (1, 38), (2, 3), (3, 3), (4, 4)], 5, 40, [.int .u64 0, .int .u64 0, .int .i64 0, .int .i64 0, .bool false]⟩ := rfl
theorem L125 : ty lay 125 = some ⟨.fn, 1, 8, [.nilFunc]⟩ := rfl
theorem L126 : ty lay 126 = some ⟨.map 3 77, 1, 8, [.map none]⟩ := rfl
theorem L127 : ty lay 127 = some ⟨.struct [(0, 126)], 1, 8, [.map none]⟩ := rfl
theorem L128 : ty lay 128 = some ⟨.struct [(0, 126)], 1, 8, [.map none]⟩ := rfl
theorem L130 : ty lay 130 = some ⟨.fn, 1, 8, [.nilFunc]⟩ := rfl
theorem L131 : ty lay 131 = some ⟨.fn, 1, 8, [.nilFunc]⟩ := rfl
theorem L132 : ty lay 132 = some ⟨.fn, 1, 8, [.nilFunc]⟩ := rfl
theorem L133 : ty lay 133 = some ⟨.fn, 1, 8, [.nilFunc]⟩ := rfl
theorem L134 : ty lay 134 = some ⟨.fn, 1, 8, [.nilFunc]⟩ := rfl
theorem L135 : ty lay 135 = some ⟨.fn, 1, 8, [.nilFunc]⟩ := rfl
theorem L136 : ty lay 136 = some ⟨.fn, 1, 8, [.nilFunc]⟩ := rfl
theorem L137 : ty lay 137 = some ⟨.fn, 1, 8, [.nilFunc]⟩ := rfl
theorem L138 : ty lay 138 = some ⟨.fn, 1, 8, [.nilFunc]⟩ := rfl
theorem L139 : ty lay 139 = some ⟨.fn, 1, 8, [.nilFunc]⟩ := rfl
theorem L140 : ty lay 140 = some ⟨.fn, 1, 8, [.nilFunc]⟩ := rfl
theorem L141 : ty lay 141 = some ⟨.fn, 1, 8, [.nilFunc]⟩ := rfl
theorem L142 : ty lay 142 = some ⟨.fn, 1, 8, [.nilFunc]⟩ := rfl
theorem L144 : ty lay 144 = some ⟨.fn, 1, 8, [.nilFunc]⟩ := rfl
theorem L146 : ty lay 146 = some ⟨.fn, 1, 8, [.nilFunc]⟩ := rfl
theorem L148 : ty lay 148 = some ⟨.fn, 1, 8, [.nilFunc]⟩ := rfl
theorem L149 : ty lay 149 = some ⟨.fn, 1, 8, [.nilFunc]⟩ := rfl
theorem L150 : ty lay 150 = some ⟨.fn, 1, 8, [.nilFunc]⟩ := rfl
theorem L151 : ty lay 151 = some ⟨.fn, 1, 8, [.nilFunc]⟩ := rfl
theorem L152 : ty lay 152 = some ⟨.ptr 124, 1, 8, [.pointer none]⟩ := rfl
theorem L153 : ty lay 153 = some ⟨.fn, 1, 8, [.nilFunc]⟩ := rfl
theorem L154 : ty lay 154 = some ⟨.array 3 75, 9, 72, [.int .u64 0, .int .u64 0, .int .u64 0, .int .u64 0, .int .u64 0, .int .u64 0, .int .u64 0, .int .u64 0, .int .u64 0]⟩ := rfl
theorem L155 : ty lay 155 = some ⟨.fn, 1, 8, [.nilFunc]⟩ := rfl
theorem L156 : ty lay 156 = some ⟨.int .i64, 1, 8, [.int .i64 0]⟩ := rfl
theorem L157 : ty lay 157 = some ⟨.fn, 1, 8, [.nilFunc]⟩ := rfl
theorem L158 : ty lay 158 = some ⟨.fn, 1, 8, [.nilFunc]⟩ := rfl
theorem L159 : ty lay 159 = some ⟨.fn, 1, 8, [.nilFunc]⟩ := rfl
theorem L160 : ty lay 160 = some ⟨.fn, 1, 8, [.nilFunc]⟩ := rfl
theorem L161 : ty lay 161 = some ⟨.fn, 1, 8, [.nilFunc]⟩ := rfl
theorem L162 : ty lay 162 = some ⟨.fn, 1, 8, [.nilFunc]⟩ := rfl
theorem L163 : ty lay 163 = some ⟨.fn, 1, 8, [.nilFunc]⟩ := rfl
theorem L164 : ty lay 164 = some ⟨.fn, 1, 8, [.nilFunc]⟩ := rfl
theorem L165 : ty lay 165 = some ⟨.fn, 1, 8, [.nilFunc]⟩ := rfl
theorem L167 : ty lay 167 = some ⟨.fn, 1, 8, [.nilFunc]⟩ := rfl
theorem L168 : ty lay 168 = some ⟨.fn, 1, 8, [.nilFunc]⟩ := rfl
theorem L170 : ty lay 170 = some ⟨.fn, 1, 8, [.nilFunc]⟩ := rfl
theorem L171 : ty lay 171 = some ⟨.fn, 1, 8, [.nilFunc]⟩ := rfl
theorem L172 : ty lay 172 = some ⟨.fn, 1, 8, [.nilFunc]⟩ := rfl
theorem L173 : ty lay 173 = some ⟨.fn, 1, 8, [.nilFunc]⟩ := rfl
theorem L174 : ty lay 174 = some ⟨.fn, 1, 8, [.nilFunc]⟩ := rfl
theorem L175 : ty lay 175 = some ⟨.fn, 1, 8, [.nilFunc]⟩ := rfl
theorem L176 : ty lay 176 = some ⟨.fn, 1, 8, [.nilFunc]⟩ := rfl
theorem L177 : ty lay 177 = some ⟨.fn, 1, 8, [.nilFunc]⟩ := rfl
theorem L179 : ty lay 179 = some ⟨.fn, 1, 8, [.nilFunc]⟩ := rfl
theorem L180 : ty lay 180 = some ⟨.fn, 1, 8, [.nilFunc]⟩ := rfl
theorem L181 : ty lay 181 = some ⟨.fn, 1, 8, [.nilFunc]⟩ := rfl
theorem L182 : ty lay 182 = some ⟨.fn, 1, 8, [.nilFunc]⟩ := rfl
theorem L183 : ty lay 183 = some ⟨.fn, 1, 8, [.nilFunc]⟩ := rfl
theorem L184 : ty lay 184 = some ⟨.fn, 1, 8, [.nilFunc]⟩ := rfl
theorem L185 : ty lay 185 = some ⟨.fn, 1, 8, [.nilFunc]⟩ := rfl
theorem L186 : ty lay 186 = some ⟨.fn, 1, 8, [.nilFunc]⟩ := rfl
theorem L188 : ty lay 188 = some ⟨.fn, 1, 8, [.nilFunc]⟩ := rfl
theorem L189 : ty lay 189 = some ⟨.fn, 1, 8, [.nilFunc]⟩ := rfl
theorem L190 : ty lay 190 = some ⟨.fn, 1, 8, [.nilFunc]⟩ := rfl
theorem L191 : ty lay 191 = some ⟨.fn, 1, 8, [.nilFunc]⟩ := rfl
theorem L192 : ty lay 192 = some ⟨.fn, 1, 8, [.nilFunc]⟩ := rfl
theorem L193 : ty lay 193 = some ⟨.int .i64, 1, 8, [.int .i64 0]⟩ := rfl
theorem L195 : ty lay 195 = some ⟨.fn, 1, 8, [.nilFunc]⟩ := rfl
theorem L196 : ty lay 196 = some ⟨.fn, 1, 8, [.nilFunc]⟩ := rfl
theorem L197 : ty lay 197 = some ⟨.fn, 1, 8, [.nilFunc]⟩ := rfl
theorem L199 : ty lay 199 = some ⟨.fn, 1, 8, [.nilFunc]⟩ := rfl
theorem L200 : ty lay 200 = some ⟨.fn, 1, 8, [.nilFunc]⟩ := rfl
theorem L201 : ty lay 201 = some ⟨.int .u32, 1, 4, [.int .u32 0]⟩ := rfl
theorem L202 : ty lay 202 = some ⟨.fn, 1, 8, [.nilFunc]⟩ := rfl
theorem L203 : ty lay 203 = some ⟨.int .u64, 1, 8, [.int .u64 0]⟩ := rfl
theorem L204 : ty lay 204 = some ⟨.fn, 1, 8, [.nilFunc]⟩ := rfl
theorem L205 : ty lay 205 = some ⟨.fn, 1, 8, [.nilFunc]⟩ := rfl
theorem L206 : ty lay 206 = some ⟨.fn, 1, 8, [.nilFunc]⟩ := rfl
theorem L207 : ty lay 207 = some ⟨.ptr 3, 1, 8, [.pointer none]⟩ := rfl
theorem L208 : ty lay 208 = some ⟨.fn, 1, 8, [.nilFunc]⟩ := rfl
theorem L209 : ty lay 209 = some ⟨.ptr 203, 1, 8, [.pointer none]⟩ := rfl
theorem L211 : ty lay 211 = some ⟨.fn, 1, 8, [.nilFunc]⟩ := rfl
theorem L212 : ty lay 212 = some ⟨.fn, 1, 8, [.nilFunc]⟩ := rfl
theorem L218 : ty lay 218 = some ⟨.fn, 1, 8, [.nilFunc]⟩ := rfl
theorem L221 : ty lay 221 = some ⟨.fn, 1, 8, [.nilFunc]⟩ := rfl
theorem L222 : ty lay 222 = some ⟨.ptr 5, 1, 8, [.pointer none]⟩ := rfl
theorem L225 : ty lay 225 = some ⟨.struct [(0, 12), (1, 12), (2, 201), (3, 219), (4, 5), (5, 5), (6, 220), (7, 221), (8, 222), (9, 223), (10, 224)], 11, 48, [.int .u64 0, .int .u64 0, .int .u32 0, .int .u8 0, .int .u8 0, .int .u8 0, .int .u8 0, .nilFunc, .pointer none, .int .i32 0, .int .i32 0]⟩ := rfl
theorem eq22 : EqTyOk Try.prog 22 [0, 0] := ⟨by kernel_rfl, by kernel_rfl, by kernel_rfl⟩
theorem eq23 : EqTyOk Try.prog 23 [0, 0] := ⟨by kernel_rfl, by kernel_rfl, by kernel_rfl⟩
theorem eq27 : EqTyOk Try.prog 27 [0, 0] := ⟨by kernel_rfl, by kernel_rfl, by kernel_rfl⟩
theorem eq28 : EqTyOk Try.prog 28 [0, 0] := ⟨by kernel_rfl, by kernel_rfl, by kernel_rfl⟩
theorem eq40 : EqTyOk Try.prog 40 [0, 0, 0, 0] := ⟨by kernel_rfl, by kernel_rfl, by kernel_rfl⟩
theorem eq41 : EqTyOk Try.prog 41 [0, 0, 0, 0] := ⟨by kernel_rfl, by kernel_rfl, by kernel_rfl⟩
theorem eq42 : EqTyOk Try.prog 42 [0, 0, 0, 0, 0, 0] := ⟨by kernel_rfl, by kernel_rfl, by kernel_rfl⟩
theorem eq43 : EqTyOk Try.prog 43 [0, 0, 0, 0, 0, 0] := ⟨by kernel_rfl, by kernel_rfl, by kernel_rfl⟩
theorem eq44 : EqTyOk Try.prog 44 [0, 1, 1, 0, 0, 0, 0, 0, 0, 0, 0, 0] := ⟨by kernel_rfl, by kernel_rfl, by kernel_rfl⟩
theorem eq45 : EqTyOk Try.prog 45 [0, 1, 1, 0, 0, 0, 0, 0, 0, 0, 0, 0] := ⟨by kernel_rfl, by kernel_rfl, by kernel_rfl⟩
theorem eq60 : EqTyOk Try.prog 60 [2, 1] := ⟨by kernel_rfl, by kernel_rfl, by kernel_rfl⟩
theorem eq61 : EqTyOk Try.prog 61 [2, 1] := ⟨by kernel_rfl, by kernel_rfl, by kernel_rfl⟩
theorem eq74 : EqTyOk Try.prog 74 [0, 0, 0] := ⟨by kernel_rfl, by kernel_rfl, by kernel_rfl⟩
theorem eq75 : EqTyOk Try.prog 75 [0, 0, 0] := ⟨by kernel_rfl, by kernel_rfl, by kernel_rfl⟩
theorem eq76 : EqTyOk Try.prog 76 [0, 0, 1, 0, 0, 0, 0, 0, 0, 0, 0, 0, 0, 0] := ⟨by kernel_rfl, by kernel_rfl, by kernel_rfl⟩
theorem eq77 : EqTyOk Try.prog 77 [0, 0, 1, 0, 0, 0, 0, 0, 0, 0, 0, 0, 0, 0] := ⟨by kernel_rfl, by kernel_rfl, by kernel_rfl⟩
theorem eq78 : EqTyOk Try.prog 78 [0, 0, 0, 1, 0, 0, 0, 0, 0, 0, 0, 0, 0, 0, 0] := ⟨by kernel_rfl, by kernel_rfl, by kernel_rfl⟩
theorem eq79 : EqTyOk Try.prog 79 [0, 0, 0, 1, 0, 0, 0, 0, 0, 0, 0, 0, 0, 0, 0] := ⟨by kernel_rfl, by kernel_rfl, by kernel_rfl⟩
theorem eq108 : EqTyOk Try.prog 108 [2, 0, 0, 0] := ⟨by kernel_rfl, by kernel_rfl, by kernel_rfl⟩
theorem eq109 : EqTyOk Try.prog 109 [2, 0, 0, 0] := ⟨by kernel_rfl, by kernel_rfl, by kernel_rfl⟩
theorem eq115 : EqTyOk Try.prog 115 [0, 0, 0, 0] := ⟨by kernel_rfl, by kernel_rfl, by kernel_rfl⟩
theorem eq116 : EqTyOk Try.prog 116 [0, 0, 0, 0] := ⟨by kernel_rfl, by kernel_rfl, by kernel_rfl⟩
theorem eq118 : EqTyOk Try.prog 118 [0, 0, 0, 0, 0, 0, 0, 0, 0] := ⟨by kernel_rfl, by kernel_rfl, by kernel_rfl⟩
theorem eq119 : EqTyOk Try.prog 119 [0, 0, 0, 0, 0, 0, 0, 0, 0] := ⟨by kernel_rfl, by kernel_rfl, by kernel_rfl⟩
theorem eq123 : EqTyOk Try.prog 123 [0, 0, 0, 0, 1] := ⟨by kernel_rfl, by kernel_rfl, by kernel_rfl⟩
theorem eq124 : EqTyOk Try.prog 124 [0, 0, 0, 0, 1] := ⟨by kernel_rfl, by kernel_rfl, by kernel_rfl⟩
theorem eq154 : EqTyOk Try.prog 154 [0, 0, 0, 0, 0, 0, 0, 0, 0] := ⟨by kernel_rfl, by kernel_rfl, by kernel_rfl⟩
def eqs : EqT := [(22, [0, 0]), (23, [0, 0]), (27, [0, 0]), (28, [0, 0]), (40, [0, 0, 0, 0]), (41, [0, 0, 0, 0]), (42, [0, 0, 0, 0, 0, 0]), (43, [0, 0, 0, 0, 0, 0]), (44, [0, 1, 1, 0, 0, 0, 0, 0, 0, 0, 0, 0]), (45, [0, 1, 1, 0, 0, 0, 0, 0, 0, 0, 0, 0]), (60, [2, 1]), (61, [2, 1]), (74, [0, 0, 0]), (75, [0, 0, 0]), (76, [0, 0, 1, 0, 0, 0, 0, 0, 0, 0, 0, 0, 0, 0]), (77, [0, 0, 1, 0, 0, 0, 0, 0, 0, 0, 0, 0, 0, 0]), (78, [0, 0, 0, 1, 0, 0, 0, 0, 0, 0, 0, 0, 0, 0, 0]), (79, [0, 0, 0, 1, 0, 0, 0, 0, 0, 0, 0, 0, 0, 0, 0]), (108, [2, 0, 0, 0]), (109, [2, 0, 0, 0]), (115, [0, 0, 0, 0]), (116, [0, 0, 0, 0]), (118, [0, 0, 0, 0, 0, 0, 0, 0, 0]), (119, [0, 0, 0, 0, 0, 0, 0, 0, 0]), (123, [0, 0, 0, 0, 1]), (124, [0, 0, 0, 0, 1]), (154, [0, 0, 0, 0, 0, 0, 0, 0, 0])]
theorem eqs_ok : EqOk Try.prog eqs := .cons eq22 <| .cons eq23 <| .cons eq27 <| .cons eq28 <| .cons eq40 <| .cons eq41 <| .cons eq42 <| .cons eq43 <| .cons eq44 <| .cons eq45 <| .cons eq60 <| .cons eq61 <| .cons eq74 <| .cons eq75 <| .cons eq76 <| .cons eq77 <| .cons eq78 <| .cons eq79 <| .cons eq108 <| .cons eq109 <| .cons eq115 <| .cons eq116 <| .cons eq118 <| .cons eq119 <| .cons eq123 <| .cons eq124 <| .cons eq154 <| .nil _
theorem E22 : eqty eqs 22 = some [0, 0] := rfl
theorem E23 : eqty eqs 23 = some [0, 0] := rfl
theorem E27 : eqty eqs 27 = some [0, 0] := rfl
theorem E28 : eqty eqs 28 = some [0, 0] := rfl
theorem E40 : eqty eqs 40 = some [0, 0, 0, 0] := rfl
theorem E41 : eqty eqs 41 = some [0, 0, 0, 0] := rfl
theorem E42 : eqty eqs 42 = some [0, 0, 0, 0, 0, 0] := rfl
theorem E43 : eqty eqs 43 = some [0, 0, 0, 0, 0, 0] := rfl
theorem E44 : eqty eqs 44 = some [0, 1, 1, 0, 0, 0, 0, 0, 0, 0, 0, 0] := rfl
theorem E45 : eqty eqs 45 = some [0, 1, 1, 0, 0, 0, 0, 0, 0, 0, 0, 0] := rfl
theorem E60 : eqty eqs 60 = some [2, 1] := rfl
theorem E61 : eqty eqs 61 = some [2, 1] := rfl
theorem E74 : eqty eqs 74 = some [0, 0, 0] := rfl
theorem E75 : eqty eqs 75 = some [0, 0, 0] := rfl
theorem E76 : eqty eqs 76 = some [0, 0, 1, 0, 0, 0, 0, 0, 0, 0, 0, 0, 0, 0] := rfl
theorem E77 : eqty eqs 77 = some [0, 0, 1, 0, 0, 0, 0, 0, 0, 0, 0, 0, 0, 0] := rfl
theorem E78 : eqty eqs 78 = some [0, 0, 0, 1, 0, 0, 0, 0, 0, 0, 0, 0, 0, 0, 0] := rfl
theorem E79 : eqty eqs 79 = some [0, 0, 0, 1, 0, 0, 0, 0, 0, 0, 0, 0, 0, 0, 0] := rfl
theorem E108 : eqty eqs 108 = some [2, 0, 0, 0] := rfl
theorem E109 : eqty eqs 109 = some [2, 0, 0, 0] := rfl
theorem E115 : eqty eqs 115 = some [0, 0, 0, 0] := rfl
theorem E116 : eqty eqs 116 = some [0, 0, 0, 0] := rfl
theorem E118 : eqty eqs 118 = some [0, 0, 0, 0, 0, 0, 0, 0, 0] := rfl
theorem E119 : eqty eqs 119 = some [0, 0, 0, 0, 0, 0, 0, 0, 0] := rfl
theorem E123 : eqty eqs 123 = some [0, 0, 0, 0, 1] := rfl
theorem E124 : eqty eqs 124 = some [0, 0, 0, 0, 1] := rfl
theorem E154 : eqty eqs 154 = some [0, 0, 0, 0, 0, 0, 0, 0, 0] := rfl
def cx : Cx := ⟨lay, eqs⟩
theorem cx_ok : CxOk Try.prog cx := ⟨lay_ok, eqs_ok⟩
/-- floodgate/floodgatelaw36.AuditChecks -/
theorem fn3 : FnOk Try.prog 3 := fun args w => Try.call3 args w
/-- floodgate/floodgatelaw36.AuditWaits -/
theorem fn4 : FnOk Try.prog 4 := fun args w => Try.call4 args w
/-- floodgate/floodgatelaw36.AuditEnough -/
theorem fn5 : FnOk Try.prog 5 := fun args w => Try.call5 args w
/-- floodgate/floodgatelaw29.ScriptDecodes -/
theorem fn6 : FnOk Try.prog 6 := fun args w => Try.call6 args w
/-- floodgate/floodgatelaw29.ScriptEncodes -/
theorem fn7 : FnOk Try.prog 7 := fun args w => Try.call7 args w
/-- floodgate/floodgatelaw29.ScriptBack -/
theorem fn8 : FnOk Try.prog 8 := fun args w => Try.call8 args w
/-- floodgate/floodgatelaw29.ScriptForth -/
theorem fn9 : FnOk Try.prog 9 := fun args w => Try.call9 args w
/-- floodgate/floodgatelaw31.SpansBelow -/
theorem fn10 : FnOk Try.prog 10 := fun args w => Try.call10 args w
/-- floodgate/floodgatelaw36.late -/
theorem fn11 : FnOk Try.prog 11 := fun args w => Try.call11 args w
/-- floodgate/audit.Check -/
theorem fn12 : FnOk Try.prog 12 := fun args w => Try.call12 args w
/-- floodgate/floodgateref24.May -/
theorem fn13 : FnOk Try.prog 13 := fun args w => Try.call13 args w
/-- floodgate/floodgateref36.Wrong -/
theorem fn14 : FnOk Try.prog 14 := fun args w => Try.call14 args w
/-- floodgate/floodgateref11.Same -/
theorem fn15 : FnOk Try.prog 15 := fun args w => Try.call15 args w
/-- floodgate/audit.Waiting -/
theorem fn16 : FnOk Try.prog 16 := fun args w => Try.call16 args w
/-- floodgate/floodgateref36.Waiting -/
theorem fn17 : FnOk Try.prog 17 := fun args w => Try.call17 args w
/-- floodgate/floodgateref36.Of -/
theorem fn18 : FnOk Try.prog 18 := fun args w => Try.call18 args w
/-- floodgate/floodgatelaw29.five -/
theorem fn19 : FnOk Try.prog 19 := fun args w => Try.call19 args w
/-- floodgate/script.Decode -/
theorem fn20 : FnOk Try.prog 20 := fun args w => Try.call20 args w
/-- floodgate/floodgateref29.Decode -/
theorem fn21 : FnOk Try.prog 21 := fun args w => Try.call21 args w
/-- floodgate/floodgateref29.Alike -/
theorem fn22 : FnOk Try.prog 22 := fun args w => Try.call22 args w
/-- floodgate/floodgatelaw29.few -/
theorem fn23 : FnOk Try.prog 23 := fun args w => Try.call23 args w
/-- floodgate/script.Encode -/
theorem fn24 : FnOk Try.prog 24 := fun args w => Try.call24 args w
/-- floodgate/floodgateref29.Encode -/
theorem fn25 : FnOk Try.prog 25 := fun args w => Try.call25 args w
/-- floodgate/script.Plain -/
theorem fn26 : FnOk Try.prog 26 := fun args w => Try.call26 args w
/-- floodgate/floodgateref29.Same -/
theorem fn27 : FnOk Try.prog 27 := fun args w => Try.call27 args w
/-- floodgate/floodgateref29.Plain -/
theorem fn28 : FnOk Try.prog 28 := fun args w => Try.call28 args w
/-- floodgate/floodgatelaw31.two -/
theorem fn29 : FnOk Try.prog 29 := fun args w => Try.call29 args w
/-- floodgate/hier.New -/
theorem fn30 : FnOk Try.prog 30 := fun args w => Try.call30 args w
/-- (*floodgate/hier.Tree).Add -/
theorem fn31 : FnOk Try.prog 31 := fun args w => Try.call31 args w
/-- (*floodgate/hier.Tree).Del -/
theorem fn32 : FnOk Try.prog 32 := fun args w => Try.call32 args w
/-- (*floodgate/hier.Tree).Set -/
theorem fn33 : FnOk Try.prog 33 := fun args w => Try.call33 args w
/-- floodgate/floodgateref19.One -/
theorem fn34 : FnOk Try.prog 34 := fun args w => Try.call34 args w
/-- floodgate/floodgateplain.Ints -/
theorem fn35 : FnOk Try.prog 35 := fun args w => Try.call35 args w
/-- floodgate/spans.Below -/
theorem fn36 : FnOk Try.prog 36 := fun args w => Try.call36 args w
/-- floodgate/floodgateref31.Below -/
theorem fn37 : FnOk Try.prog 37 := fun args w => Try.call37 args w
/-- floodgate/audit.newAuditor -/
theorem fn38 : FnOk Try.prog 38 := fun args w => Try.call38 args w
/-- (*floodgate/audit.auditor).take -/
theorem fn39 : FnOk Try.prog 39 := fun args w => Try.call39 args w
/-- floodgate/floodgateref36.done -/
theorem fn40 : FnOk Try.prog 40 := fun args w => Try.call40 args w
/-- floodgate/floodgateref25.Ticks -/
theorem fn41 : FnOk Try.prog 41 := fun args w => Try.call41 args w
/-- floodgate/script.Decode$1 -/
theorem fn42 : FnOk Try.prog 42 := fun args w => Try.call42 args w
/-- (*floodgate/script.coder).script -/
theorem fn43 : FnOk Try.prog 43 := fun args w => Try.call43 args w
/-- (floodgate/floodgateref29.In).next -/
theorem fn44 : FnOk Try.prog 44 := fun args w => Try.call44 args w
/-- (floodgate/floodgateref29.In).op -/
theorem fn45 : FnOk Try.prog 45 := fun args w => Try.call45 args w
/-- floodgate/floodgateref28.Few -/
theorem fn46 : FnOk Try.prog 46 := fun args w => Try.call46 args w
/-- floodgate/script.Encode$1 -/
theorem fn47 : FnOk Try.prog 47 := fun args w => Try.call47 args w
/-- floodgate/floodgateref29.Fields -/
theorem fn48 : FnOk Try.prog 48 := fun args w => Try.call48 args w
/-- floodgate/floodgateref29.byteAt -/
theorem fn49 : FnOk Try.prog 49 := fun args w => Try.call49 args w
/-- floodgate/floodgatelaw31.two$1 -/
theorem fn50 : FnOk Try.prog 50 := fun args w => Try.call50 args w
/-- floodgate/floodgatelaw31.two$2 -/
theorem fn51 : FnOk Try.prog 51 := fun args w => Try.call51 args w
/-- floodgate/spans.Of -/
theorem fn52 : FnOk Try.prog 52 := fun args w => Try.call52 args w
/-- floodgate/spans.Backlogged -/
theorem fn53 : FnOk Try.prog 53 := fun args w => Try.call53 args w
/-- floodgate/spec.Right -/
theorem fn54 : FnOk Try.prog 54 := fun args w => Try.call54 args w
/-- floodgate/spec.Shares -/
theorem fn55 : FnOk Try.prog 55 := fun args w => Try.call55 args w
/-- (*floodgate/hier.Tree).shares -/
theorem fn56 : FnOk Try.prog 56 := fun args w => Try.call56 args w
/-- (*floodgate/hier.Tree).Depth -/
theorem fn57 : FnOk Try.prog 57 := fun args w => Try.call57 args w
/-- (*floodgate/hier.Tree).Children -/
theorem fn58 : FnOk Try.prog 58 := fun args w => Try.call58 args w
/-- (*floodgate/hier.Tree).Set$1 -/
theorem fn59 : FnOk Try.prog 59 := fun args w => Try.call59 args w
/-- slices.ContainsFunc[[]int,int] -/
theorem fn60 : FnOk Try.prog 60 := fun args w => Try.call60 args w
/-- floodgate/floodgateref18.Add -/
theorem fn61 : FnOk Try.prog 61 := fun args w => Try.call61 args w
/-- floodgate/floodgateref18.Del -/
theorem fn62 : FnOk Try.prog 62 := fun args w => Try.call62 args w
/-- floodgate/floodgateref18.Set -/
theorem fn63 : FnOk Try.prog 63 := fun args w => Try.call63 args w
/-- slices.DeleteFunc[[]int,int] -/
theorem fn64 : FnOk Try.prog 64 := fun args w => Try.call64 args w
/-- (*floodgate/hier.Tree).Leaves -/
theorem fn65 : FnOk Try.prog 65 := fun args w => Try.call65 args w
/-- floodgate/spans.Below$1 -/
theorem fn66 : FnOk Try.prog 66 := fun args w => Try.call66 args w
/-- slices.Contains[[]int,int] -/
theorem fn67 : FnOk Try.prog 67 := fun args w => Try.call67 args w
/-- (*floodgate/hier.Tree).Up -/
theorem fn68 : FnOk Try.prog 68 := fun args w => Try.call68 args w
/-- floodgate/floodgateref31.has -/
theorem fn69 : FnOk Try.prog 69 := fun args w => Try.call69 args w
/-- floodgate/floodgateref18.Up -/
theorem fn70 : FnOk Try.prog 70 := fun args w => Try.call70 args w
/-- floodgate/audit.newAuditor$1 -/
theorem fn71 : FnOk Try.prog 71 := fun args w => Try.call71 args w
/-- floodgate/audit.newAuditor$1$1 -/
theorem fn72 : FnOk Try.prog 72 := fun args w => Try.call72 args w
/-- floodgate/audit.newAuditor$2 -/
theorem fn73 : FnOk Try.prog 73 := fun args w => Try.call73 args w
/-- floodgate/audit.newAuditor$3 -/
theorem fn74 : FnOk Try.prog 74 := fun args w => Try.call74 args w
/-- floodgate/audit.newAuditor$4 -/
theorem fn75 : FnOk Try.prog 75 := fun args w => Try.call75 args w
/-- floodgate/packet.May -/
theorem fn76 : FnOk Try.prog 76 := fun args w => Try.call76 args w
/-- floodgate/audit.newAuditor$5 -/
theorem fn77 : FnOk Try.prog 77 := fun args w => Try.call77 args w
/-- floodgate/audit.newAuditor$6 -/
theorem fn78 : FnOk Try.prog 78 := fun args w => Try.call78 args w
/-- floodgate/audit.newAuditor$7 -/
theorem fn79 : FnOk Try.prog 79 := fun args w => Try.call79 args w
/-- floodgate/audit.newAuditor$8 -/
theorem fn80 : FnOk Try.prog 80 := fun args w => Try.call80 args w
/-- (*floodgate/audit.auditor).late -/
theorem fn81 : FnOk Try.prog 81 := fun args w => Try.call81 args w
/-- (*floodgate/script.coder).num -/
theorem fn82 : FnOk Try.prog 82 := fun args w => Try.call82 args w
/-- (*floodgate/script.coder).op -/
theorem fn83 : FnOk Try.prog 83 := fun args w => Try.call83 args w
/-- (floodgate/floodgateref29.In).changes -/
theorem fn84 : FnOk Try.prog 84 := fun args w => Try.call84 args w
/-- (floodgate/floodgateref29.In).rules -/
theorem fn85 : FnOk Try.prog 85 := fun args w => Try.call85 args w
/-- (floodgate/floodgateref29.In).head -/
theorem fn86 : FnOk Try.prog 86 := fun args w => Try.call86 args w
/-- floodgate/floodgateref29.num -/
theorem fn87 : FnOk Try.prog 87 := fun args w => Try.call87 args w
/-- floodgate/floodgateref29.op -/
theorem fn88 : FnOk Try.prog 88 := fun args w => Try.call88 args w
/-- floodgate/spans.length -/
theorem fn89 : FnOk Try.prog 89 := fun args w => Try.call89 args w
/-- floodgate/spec.from -/
theorem fn90 : FnOk Try.prog 90 := fun args w => Try.call90 args w
/-- floodgate/curve.Right -/
theorem fn91 : FnOk Try.prog 91 := fun args w => Try.call91 args w
/-- floodgate/curve.Of -/
theorem fn92 : FnOk Try.prog 92 := fun args w => Try.call92 args w
/-- floodgate/spec.Real -/
theorem fn93 : FnOk Try.prog 93 := fun args w => Try.call93 args w
/-- floodgate/spec.Capped -/
theorem fn94 : FnOk Try.prog 94 := fun args w => Try.call94 args w
/-- floodgate/spec.has -/
theorem fn95 : FnOk Try.prog 95 := fun args w => Try.call95 args w
/-- (*floodgate/hier.Tree).which -/
theorem fn96 : FnOk Try.prog 96 := fun args w => Try.call96 args w
/-- (*floodgate/hier.Tree).Children$1 -/
theorem fn97 : FnOk Try.prog 97 := fun args w => Try.call97 args w
/-- slices.IndexFunc[[]int,int] -/
theorem fn98 : FnOk Try.prog 98 := fun args w => Try.call98 args w
/-- floodgate/floodgateref17.Wrong -/
theorem fn99 : FnOk Try.prog 99 := fun args w => Try.call99 args w
/-- floodgate/floodgateref18.Find -/
theorem fn100 : FnOk Try.prog 100 := fun args w => Try.call100 args w
/-- floodgate/floodgateref04.Of -/
theorem fn101 : FnOk Try.prog 101 := fun args w => Try.call101 args w
/-- floodgate/floodgateref18.Shares -/
theorem fn102 : FnOk Try.prog 102 := fun args w => Try.call102 args w
/-- floodgate/floodgateref18.put -/
theorem fn103 : FnOk Try.prog 103 := fun args w => Try.call103 args w
/-- floodgate/floodgateref18.Children -/
theorem fn104 : FnOk Try.prog 104 := fun args w => Try.call104 args w
/-- (*floodgate/hier.Tree).Leaves$1 -/
theorem fn105 : FnOk Try.prog 105 := fun args w => Try.call105 args w
/-- slices.Index[[]int,int] -/
theorem fn106 : FnOk Try.prog 106 := fun args w => Try.call106 args w
/-- (*floodgate/hier.Tree).Get -/
theorem fn107 : FnOk Try.prog 107 := fun args w => Try.call107 args w
/-- floodgate/packet.fits -/
theorem fn108 : FnOk Try.prog 108 := fun args w => Try.call108 args w
/-- floodgate/packet.Ticks -/
theorem fn109 : FnOk Try.prog 109 := fun args w => Try.call109 args w
/-- floodgate/script.list[floodgate/api.Change] -/
theorem fn110 : FnOk Try.prog 110 := fun args w => Try.call110 args w
/-- (*floodgate/script.coder).op$1 -/
theorem fn111 : FnOk Try.prog 111 := fun args w => Try.call111 args w
/-- (*floodgate/script.coder).class -/
theorem fn112 : FnOk Try.prog 112 := fun args w => Try.call112 args w
/-- floodgate/script.list[floodgate/api.Rule] -/
theorem fn113 : FnOk Try.prog 113 := fun args w => Try.call113 args w
/-- (*floodgate/script.coder).rule -/
theorem fn114 : FnOk Try.prog 114 := fun args w => Try.call114 args w
/-- (*floodgate/script.coder).packet -/
theorem fn115 : FnOk Try.prog 115 := fun args w => Try.call115 args w
/-- (*floodgate/script.coder).word -/
theorem fn116 : FnOk Try.prog 116 := fun args w => Try.call116 args w
/-- (floodgate/floodgateref29.In).change -/
theorem fn117 : FnOk Try.prog 117 := fun args w => Try.call117 args w
/-- floodgate/floodgateref29.change -/
theorem fn118 : FnOk Try.prog 118 := fun args w => Try.call118 args w
/-- floodgate/floodgateref29.rule -/
theorem fn119 : FnOk Try.prog 119 := fun args w => Try.call119 args w
/-- floodgate/floodgateref29.head -/
theorem fn120 : FnOk Try.prog 120 := fun args w => Try.call120 args w
/-- slices.Sort[[]int,int] -/
theorem fn121 : FnOk Try.prog 121 := fun args w => Try.call121 args w
/-- (*floodgate/script.coder).curve -/
theorem fn122 : FnOk Try.prog 122 := fun args w => Try.call122 args w
/-- (*floodgate/script.coder).header -/
theorem fn123 : FnOk Try.prog 123 := fun args w => Try.call123 args w
/-- floodgate/script.bits -/
theorem fn124 : FnOk Try.prog 124 := fun args w => Try.call124 args w
/-- (floodgate/floodgateref29.In).curve -/
theorem fn125 : FnOk Try.prog 125 := fun args w => Try.call125 args w
/-- floodgate/floodgateref29.curve -/
theorem fn126 : FnOk Try.prog 126 := fun args w => Try.call126 args w
/-- slices.pdqsortOrdered[int] -/
theorem fn127 : FnOk Try.prog 127 := fun args w => Try.call127 args w
/-- math/bits.Len -/
theorem fn128 : FnOk Try.prog 128 := fun args w => Try.call128 args w
/-- slices.insertionSortOrdered[int] -/
theorem fn129 : FnOk Try.prog 129 := fun args w => Try.call129 args w
/-- slices.heapSortOrdered[int] -/
theorem fn130 : FnOk Try.prog 130 := fun args w => Try.call130 args w
/-- slices.breakPatternsOrdered[int] -/
theorem fn131 : FnOk Try.prog 131 := fun args w => Try.call131 args w
/-- slices.choosePivotOrdered[int] -/
theorem fn132 : FnOk Try.prog 132 := fun args w => Try.call132 args w
/-- slices.reverseRangeOrdered[int] -/
theorem fn133 : FnOk Try.prog 133 := fun args w => Try.call133 args w
/-- slices.partialInsertionSortOrdered[int] -/
theorem fn134 : FnOk Try.prog 134 := fun args w => Try.call134 args w
/-- cmp.Less[int] -/
theorem fn135 : FnOk Try.prog 135 := fun args w => Try.call135 args w
/-- slices.partitionEqualOrdered[int] -/
theorem fn136 : FnOk Try.prog 136 := fun args w => Try.call136 args w
/-- slices.partitionOrdered[int] -/
theorem fn137 : FnOk Try.prog 137 := fun args w => Try.call137 args w
/-- math/bits.Len32 -/
theorem fn138 : FnOk Try.prog 138 := fun args w => Try.call138 args w
/-- math/bits.Len64 -/
theorem fn139 : FnOk Try.prog 139 := fun args w => Try.call139 args w
/-- slices.siftDownOrdered[int] -/
theorem fn140 : FnOk Try.prog 140 := fun args w => Try.call140 args w
/-- slices.nextPowerOfTwo -/
theorem fn141 : FnOk Try.prog 141 := fun args w => Try.call141 args w
/-- (*slices.xorshift).Next -/
theorem fn142 : FnOk Try.prog 142 := fun args w => Try.call142 args w
/-- slices.medianAdjacentOrdered[int] -/
theorem fn143 : FnOk Try.prog 143 := fun args w => Try.call143 args w
/-- slices.medianOrdered[int] -/
theorem fn144 : FnOk Try.prog 144 := fun args w => Try.call144 args w
/-- cmp.isNaN[int] -/
theorem fn145 : FnOk Try.prog 145 := fun args w => Try.call145 args w
/-- slices.order2Ordered[int] -/
theorem fn146 : FnOk Try.prog 146 := fun args w => Try.call146 args w
attribute [go_sem] cx L1 L2 L3 L4 L5 L9 L12 L17 L20 L21 L22 L23 L24 L25 L26 L27 L28 L29 L30 L31 L32 L33 L34 L35 L36 L37 L38 L39 L40 L41 L42 L43 L44 L45 L46 L47 L48 L49 L51 L52 L53 L54 L55 L56 L57 L59 L60 L61 L62 L63 L64 L65 L66 L67 L68 L69 L70 L71 L72 L73 L74 L75 L76 L77 L78 L79 L80 L81 L82 L83 L84 L85 L86 L87 L88 L89 L90 L91 L92 L93 L94 L95 L96 L97 L98 L99 L100 L101 L102 L103 L104 L105 L106 L107 L108 L109 L110 L112 L113 L114 L115 L116 L117 L118 L119 L120 L121 L122 L123 L124 L125 L126 L127 L128 L130 L131 L132 L133 L134 L135 L136 L137 L138 L139 L140 L141 L142 L144 L146 L148 L149 L150 L151 L152 L153 L154 L155 L156 L157 L158 L159 L160 L161 L162 L163 L164 L165 L167 L168 L170 L171 L172 L173 L174 L175 L176 L177 L179 L180 L181 L182 L183 L184 L185 L186 L188 L189 L190 L191 L192 L193 L195 L196 L197 L199 L200 L201 L202 L203 L204 L205 L206 L207 L208 L209 L211 L212 L218 L221 L222 L225 E22 E23 E27 E28 E40 E41 E42 E43 E44 E45 E60 E61 E74 E75 E76 E77 E78 E79 E108 E109 E115 E116 E118 E119 E123 E124 E154
end Go.Fg.X
