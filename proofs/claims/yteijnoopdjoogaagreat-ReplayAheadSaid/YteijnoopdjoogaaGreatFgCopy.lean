/- Walks of the functions that the statement reaches. No conditions: contracts and laws. -/
import Derived.Test.YteijnoopdjoogaaGreatFgTell
import Derived.Test.YteijnoopdjoogaaGreatProg
import Derived.KernelRfl
import Derived.Deep.Slices
import Derived.ChangeArms
import Derived.OpenShut
import Derived.ProofKit
import Derived.ChangeOld
import Derived.Below
import Derived.WideShapes
namespace Go.Fg
set_option linter.unusedSimpArgs false
set_option linter.unusedVariables false
open Go.RowKit (Below)
variable {Z : Nat → Prop}
/-- Only the kinds differ. -/
theorem RelV.kds {h h' : List Ob} {pl : List Pl} {w : World} (key : ∀ (l : Nat) (o : Ob), h[l]? = some o → ∃ o', h'[l]? = some o' ∧ o'.gen = o.gen ∧ o'.sz = o.sz ∧ o'.kd.ty = o.kd.ty) {d : D} {v : Value} (r : RelV Z h pl w d v) : RelV Z h' pl w d v := by
  induction r with
  | cl d v hc => exact .cl d v hc
  | ref l g off len o p a cap ho hp hk hg hs =>
    obtain ⟨o', h3, h4, h5, h6⟩ := key l o ho
    exact .ref l g off len o' p a cap h3 hp (by rw [h6]; exact hk) (by rw [h4]; exact hg) (fun e => by rw [h5]; exact hs (by rw [e, h4]))
  | ptr l g i j o p a ho hp hk hg hs =>
    obtain ⟨o', h3, h4, h5, h6⟩ := key l o ho
    exact .ptr l g i j o' p a h3 hp (by rw [h6]; exact hk) (by rw [h4]; exact hg) (fun e => by rw [h5]; exact hs (by rw [e, h4]))
  | mref l g o p b ho hp hk hg hs =>
    obtain ⟨o', h3, h4, h5, h6⟩ := key l o ho
    exact .mref l g o' p b h3 hp (by rw [h6]; exact hk) (by rw [h4]; exact hg) (fun e => hs (by rw [e, h4]))
  | clo f nf cs vs hl hr ih => exact .clo f nf cs vs hl ih
  | agg cs vs hl hr ih => exact .agg cs vs hl ih
  | tup cs vs hl hr ih => exact .tup cs vs hl ih
theorem ro_get {h : List Ob} {l : Nat} {o : Ob} (e : h[l]? = some o) : (h.map Ob.ro)[l]? = some o.ro := by rw [List.getElem?_map, e]; rfl
theorem ro_get' {h : List Ob} {l : Nat} {o : Ob} (e : (h.map Ob.ro)[l]? = some o) : ∃ o', h[l]? = some o' ∧ o = o'.ro := by
  rw [List.getElem?_map, Option.map_eq_some_iff] at e
  obtain ⟨o', h1, h2⟩ := e
  exact ⟨o', h1, h2.symm⟩
@[go_sem] theorem ro_mk (k : Kd) (g z n : Nat) (r : Nat → List D) : Ob.ro ⟨k, g, z, n, r⟩ = ⟨k.toRo, g, z, n, r⟩ := rfl
theorem ro_ro (o : Ob) : o.ro.ro = o.ro := by
  obtain ⟨k, g, z, n, r⟩ := o
  cases k <;> rfl
/-- Called with the objects h lent to be read alone, function f returns what meets R: a value, and objects of its own. -/
def RFn (P : Program) (f : FuncId) (h : List Ob) (args : List D) (R : D → List Ob → Prop) : Prop :=
  MFn P f (h.map Ob.ro) args fun d h' => ∃ g, h' = h.map Ob.ro ++ g ∧ R d g
theorem RFn.mono {P : Program} {f : FuncId} {h : List Ob} {args : List D} {R R' : D → List Ob → Prop} (hh : RFn P f h args R) (hr : ∀ d g, R d g → R' d g) : RFn P f h args R' := MFn.mono hh fun _ _ ⟨g, h1, h2⟩ => ⟨g, h1, hr _ _ h2⟩
section
variable {P : Program} {base nt : Nat} {w0 : Start} {Q : Exit → St → Prop}
theorem callH_wp (hbase : base ≤ w0.w.heap.size) {o : Oper} {s : St} {x : Operand} {args : Array Operand} {tys : Array TypeId} {f : FuncId} {nf : Nat} {caps : List D} (hf : FnOk P f) (ho : o.op = .call ⟨.value x, args, tys⟩)
    (hx : calleeD (evalO s.fr x) = some (f, nf, caps)) {R : D → List Ob → Prop} (hF : MFn P f s.h (argsD nf caps (args.toList.map (evalO s.fr))) R)
    (ht : okO nt o.dst = true) (pl : List Pl) (a : Act) (w : World) (r : Rel Z base nt s pl a w) (b : Since Z base w0 s.h pl w) (Q' : Exit → Act → World → Prop) :
    o.wp P a w (fun a' w' => ∃ d h pl', R d h ∧ Rel Z base nt ⟨putO s.fr o.dst d, h⟩ pl' a' w' ∧ Since Z base w0 h pl' w' ∧ Tr s.h pl w h pl' w' ∧ ∃ v, a' = a.put o.dst v) Q' := by
  obtain ⟨vs, hv, hvl, hvr⟩ := callee_ok (r.eval x) hx
  have hsize : base ≤ w.heap.size := Nat.le_trans hbase b.1.size
  obtain ⟨q1, hall⟩ := argsD_rel (r := fun d v => RelV Z s.h pl w d v) (nf := nf) hvl hvr (us := args.toList.map a.eval) (args := args.toList.map (evalO s.fr)) (by simp) (fun i hi => by
    have hi' : i < args.toList.length := by simpa using hi
    simp only [nth, nthV, List.getD_eq_getElem?_getD, List.getElem?_map]
    rw [List.getElem?_eq_getElem hi']
    exact r.eval _)
  have hc := hF Z base w pl (argsD nf vs (args.toList.map a.eval)) hsize b.2.2.new r.o q1 hall
  unfold Oper.wp
  rw [run_callop hf ho hv w]
  simp only [Oper.upon_enter]
  refine hc.mono fun e w' he => ?_
  obtain ⟨v, d, h', pl', rfl, hR, hO, hV, hT, hB⟩ := he
  refine ⟨d, h', pl', hR, ?_, b.step hT hB, hT, v, rfl⟩
  cases hd : o.dst with
  | none => exact r.to' hT hO v
  | some t => rw [hd] at ht; exact r.to hT hO (okO_lt ht) hV
/-- The rule: a call that is lent the whole heap. -/
theorem kont_callH (hbase : base ≤ w0.w.heap.size) {k : List Item} {dst : Option Nat} {ty : TypeId} {pos : String} {after : Array Edge} {gd : Option (Nat × Bool)} {r : List (Oper × G)} {s : St} {x : Operand} {args : Array Operand} {tys : Array TypeId} {f : FuncId} {nf : Nat} {caps : List D} (hf : FnOk P f)
    (hx : calleeD (evalO s.fr x) = some (f, nf, caps)) {cs : List D} (he : argsEq (argsD nf caps (args.toList.map (evalO s.fr))) cs)
    {R : D → List Ob → Prop} (hF : MFn P f s.h cs R) (ht : okO nt dst = true) (hk : ∀ d h, R d h → kont P base nt w0 Q (.ops r :: k) .normal ⟨putO s.fr dst d, h⟩) :
    kont P base nt w0 Q (.ops ((⟨dst, .call ⟨.value x, args, tys⟩, ty, pos, after, gd⟩, none) :: r) :: k) .normal s := by
  simp only [kont] at hk ⊢
  intro Z z pl a w rr b
  simp only [wpG, wantedG, if_true]
  exact Oper.wp_mono (fun a' w' ⟨d, h, pl', hR, r', b', _⟩ => hk d h hR Z z pl' a' w' r' b') (callH_wp hbase hf rfl hx (hF.args he) ht pl a w rr b _)
theorem callR_wp (hbase : base ≤ w0.w.heap.size) {o : Oper} {s : St} {x : Operand} {args : Array Operand} {tys : Array TypeId} {f : FuncId} {nf : Nat} {caps : List D} (hf : FnOk P f) (ho : o.op = .call ⟨.value x, args, tys⟩)
    (hx : calleeD (evalO s.fr x) = some (f, nf, caps)) {R : D → List Ob → Prop} (hF : RFn P f s.h (argsD nf caps (args.toList.map (evalO s.fr))) R)
    (ht : okO nt o.dst = true) (pl : List Pl) (a : Act) (w : World) (r : Rel Z base nt s pl a w) (b : Since Z base w0 s.h pl w) (Q' : Exit → Act → World → Prop) :
    o.wp P a w (fun a' w' => Ext w w' ∧ ∃ d g pl', R d g ∧ Rel Z base nt ⟨putO s.fr o.dst d, s.h ++ g⟩ pl' a' w' ∧ Since Z base w0 (s.h ++ g) pl' w' ∧ Tr s.h pl w (s.h ++ g) pl' w' ∧ ∃ v, a' = a.put o.dst v) Q' := by
  obtain ⟨vs, hv, hvl, hvr⟩ := callee_ok (r.eval x) hx
  have hsize : base ≤ w.heap.size := Nat.le_trans hbase b.1.size
  obtain ⟨q1, hall⟩ := argsD_rel (r := fun d v => RelV Z s.h pl w d v) (nf := nf) hvl hvr (us := args.toList.map a.eval) (args := args.toList.map (evalO s.fr)) (by simp) (fun i hi => by
    have hi' : i < args.toList.length := by simpa using hi
    simp only [nth, nthV, List.getD_eq_getElem?_getD, List.getElem?_map]
    rw [List.getElem?_eq_getElem hi']
    exact r.eval _)
  have k1 : ∀ (l : Nat) (o : Ob), s.h[l]? = some o → ∃ o', (s.h.map Ob.ro)[l]? = some o' ∧ o'.gen = o.gen ∧ o'.sz = o.sz ∧ o'.kd.ty = o.kd.ty := fun l o e => ⟨o.ro, ro_get e, rfl, rfl, Kd.toRo_ty _⟩
  have hO0 : RelO Z w.heap.size (s.h.map Ob.ro) pl w := by
    refine ⟨by simp [r.o.len], r.o.inj, fun l o ho hp => ?_, fun l o b q ho hp => ?_⟩
    · obtain ⟨o', h1, rfl⟩ := ro_get' ho
      exact r.o.noRow l o' h1 hp
    · obtain ⟨o', h1, rfl⟩ := ro_get' ho
      obtain ⟨_, x⟩ := r.o.at_ l o' b q h1 hp
      exact ⟨fun hr => (by rw [ro_kd, Kd.toRo_ro] at hr; cases hr), x.to (Kd.toRo_ty _) rfl rfl rfl (fun _ _ => rfl) fun i j v _ _ hr => hr.kds k1⟩
  have hc := hF Z w.heap.size w pl (argsD nf vs (args.toList.map a.eval)) (Nat.le_refl _) b.2.2.new hO0 q1 (fun i hi => (hall i hi).kds k1)
  unfold Oper.wp
  rw [run_callop hf ho hv w]
  simp only [Oper.upon_enter]
  refine hc.mono fun e w' he => ?_
  obtain ⟨v, d, _, pl', rfl, ⟨g, rfl, hR⟩, hO, hV, hT, hB⟩ := he
  have hpl : ∀ (l : Nat) (p : Pl), l < s.h.length → pl'[l]? = some p → pl[l]? = some p := fun l p hl e => by
    have hl2 : l < pl.length := by rw [r.o.len]; exact hl
    obtain ⟨o', p', e1, e2, _, _, e3⟩ := hT.obj l _ _ (ro_get (List.getElem?_eq_getElem hl)) (List.getElem?_eq_getElem hl2)
    rw [List.getElem?_append_left (by simpa using hl), ro_get (List.getElem?_eq_getElem hl)] at e1
    cases e1
    obtain ⟨_, e4⟩ := e3 rfl
    rw [e] at e2; cases e2
    rw [e4]; exact List.getElem?_eq_getElem hl2
  have hpl' : ∀ (l : Nat) (p : Pl), l < s.h.length → pl[l]? = some p → pl'[l]? = some p := fun l p hl e => by
    have hl2 : l < pl'.length := by have := hO.len; simp at this; omega
    have h1 := hpl l _ hl (List.getElem?_eq_getElem hl2)
    rw [e] at h1; cases h1
    exact List.getElem?_eq_getElem hl2
  have T : Tr s.h pl w (s.h ++ g) pl' w' := by
    refine ⟨hT.old, fun l o p ho hp => ⟨o, p, by rw [List.getElem?_append_left (lt_of_some ho)]; exact ho, hpl' l p (lt_of_some ho) hp, Nat.le_refl _, rfl, fun _ => ⟨rfl, rfl⟩⟩, fun l o o' b q ho ho' hg hp c el hc => ⟨c, ?_, rfl⟩⟩
    rw [hB.block b (r.o.lt hp).1]; exact hc
  have k2 : ∀ (l : Nat) (o : Ob), (s.h.map Ob.ro ++ g)[l]? = some o → ∃ o', (s.h ++ g)[l]? = some o' ∧ o'.gen = o.gen ∧ o'.sz = o.sz ∧ o'.kd.ty = o.kd.ty := fun l o e => by
    by_cases hl : l < s.h.length
    · rw [List.getElem?_append_left (by simpa using hl)] at e
      obtain ⟨o', h1, rfl⟩ := ro_get' e
      exact ⟨o', by rw [List.getElem?_append_left hl]; exact h1, rfl, rfl, (Kd.toRo_ty _).symm⟩
    · rw [List.getElem?_append_right (by simpa using hl)] at e
      exact ⟨o, by rw [List.getElem?_append_right (by omega)]; simpa using e, rfl, rfl, rfl⟩
  have hO2 : RelO Z base (s.h ++ g) pl' w' := by
    refine ⟨by have := hO.len; simpa using this, hO.inj, fun l o ho hp => ?_, fun l o b q ho hp => ?_⟩
    · by_cases hl : l < s.h.length
      · rw [List.getElem?_append_left hl] at ho
        exact r.o.noRow l o ho (hpl l _ hl hp)
      · refine hO.noRow l o ?_ hp
        rw [List.getElem?_append_right (by omega)] at ho
        rw [List.getElem?_append_right (by simpa using hl)]; simpa using ho
    · by_cases hl : l < s.h.length
      · rw [List.getElem?_append_left hl] at ho
        have hp0 := hpl l _ hl hp
        obtain ⟨g1, x⟩ := r.o.at_ l o b q ho hp0
        exact ⟨g1, x.to rfl rfl rfl (hB.block b (r.o.lt hp0).1) (fun _ _ => rfl) fun i j v _ _ hr => hr.tr T⟩
      · have e2 : (s.h.map Ob.ro ++ g)[l]? = some o := by
          rw [List.getElem?_append_right (by omega)] at ho
          rw [List.getElem?_append_right (by simpa using hl)]; simpa using ho
        obtain ⟨g1, x⟩ := hO.at_ l o b q e2 hp
        exact ⟨fun hr => Nat.le_trans hsize (g1 hr), x.to rfl rfl rfl rfl (fun _ _ => rfl) fun i j v _ _ hr => hr.kds k2⟩
  refine ⟨fun b hb => hB.block b hb, d, g, pl', hR, ?_, b.step T (hB.mono hsize), T, v, rfl⟩
  cases hd : o.dst with
  | none => exact r.to' T hO2 v
  | some t => rw [hd] at ht; exact r.to T hO2 (okO_lt ht) (hV.kds k2)
theorem RFn.args {f : FuncId} {h : List Ob} {cs' cs : List D} {R : D → List Ob → Prop} (hh : RFn P f h cs R) (e : argsEq cs' cs) : RFn P f h cs' R := MFn.args hh e
/-- The rule: a call that is lent the whole heap to be read. -/
theorem kont_callR (hbase : base ≤ w0.w.heap.size) {k : List Item} {dst : Option Nat} {ty : TypeId} {pos : String} {after : Array Edge} {gd : Option (Nat × Bool)} {r : List (Oper × G)} {s : St} {x : Operand} {args : Array Operand} {tys : Array TypeId} {f : FuncId} {nf : Nat} {caps : List D} (hf : FnOk P f)
    (hx : calleeD (evalO s.fr x) = some (f, nf, caps)) {cs : List D} (he : argsEq (argsD nf caps (args.toList.map (evalO s.fr))) cs)
    {R : D → List Ob → Prop} (hF : RFn P f s.h cs R) (ht : okO nt dst = true) (hk : ∀ d g, R d g → kont P base nt w0 Q (.ops r :: k) .normal ⟨putO s.fr dst d, s.h ++ g⟩) :
    kont P base nt w0 Q (.ops ((⟨dst, .call ⟨.value x, args, tys⟩, ty, pos, after, gd⟩, none) :: r) :: k) .normal s := by
  simp only [kont] at hk ⊢
  intro Z z pl a w rr b
  simp only [wpG, wantedG, if_true]
  exact Oper.wp_mono (fun a' w' ⟨_, d, h, pl', hR, r', b', _⟩ => hk d h hR Z z pl' a' w' r' b') (callR_wp hbase hf rfl hx (hF.args he) ht pl a w rr b _)
theorem AX_callR (hbase : base ≤ w0.w.heap.size) {K : St → Prop} {dst : Option Nat} {ty : TypeId} {pos : String} {after : Array Edge} {gd : Option (Nat × Bool)} {r : List (Bool × Oper × G)} {s : St} {x : Operand} {args : Array Operand} {tys : Array TypeId} {f : FuncId} {nf : Nat} {caps : List D} (hf : FnOk P f)
    (hx : calleeD (evalO s.fr x) = some (f, nf, caps)) {cs : List D} (he : argsEq (argsD nf caps (args.toList.map (evalO s.fr))) cs) {R : D → List Ob → Prop} (hF : RFn P f s.h cs R)
    (ht : okO nt dst = true) (hk : ∀ d g, R d g → AX P base nt w0 K r ⟨putO s.fr dst d, s.h ++ g⟩) :
    AX P base nt w0 K ((false, ⟨dst, .call ⟨.value x, args, tys⟩, ty, pos, after, gd⟩, none) :: r) s := by
  simp only [AX, AXo, lateT]
  intro Z z pl a w rr b
  exact Oper.wp_mono (fun a' w' ⟨hE, d, g, pl', hR, r', b', T, v, e⟩ => ⟨fun _ => hE, _, _, pl', v, hk d g hR, r', b', T, e⟩) (callR_wp hbase hf rfl hx (hF.args he) ht pl a w rr b _)
/-- A step of an iterator over a map. -/
theorem kont_next (hbase : base ≤ w0.w.heap.size) {k : List Item} {dst : Option Nat} {ty : TypeId} {pos : String} {after : Array Edge} {gd : Option (Nat × Bool)} {r : List (Oper × G)} {s : St} {x : Operand} {li l c : Nat} {es : List Ent} {seen : List Nat} {q : IntKind}
    (hx : evalO s.fr x = .mref li 0) (hit : s.h[li]? = some (iterOb l c c seen)) {kd : Kd} (hkd : kd.ty = 1) (hob : s.h[l]? = some (mapObK kd q c es)) (ht : okO nt dst = true)
    (h0 : (∀ e ∈ es, e.b ∈ seen) → kont P base nt w0 Q (.ops r :: k) .normal ⟨putO s.fr dst (.tup [.raw (.bool false)]), s.h⟩)
    (h1 : ∀ e ∈ es, e.b ∉ seen → kont P base nt w0 Q (.ops r :: k) .normal ⟨putO s.fr dst (.tup [.raw (.bool true), .raw (.int q e.k), e.v]), s.h.set li (iterOb l c c (seen ++ [e.b]))⟩) :
    kont P base nt w0 Q (.ops ((⟨dst, .next x false, ty, pos, after, gd⟩, none) :: r) :: k) .normal s := by
  simp only [kont] at h0 h1 ⊢
  intro Z z pl a w rr b
  have hsize : base ≤ w.heap.size := Nat.le_trans hbase b.1.size
  simp only [wpG, wantedG, if_true]
  unfold Oper.wp
  rcases next_run (o := ⟨dst, .next x false, ty, pos, after, gd⟩) rfl rr hsize hx hit hkd hob with ⟨g1, g2⟩ | ⟨e, he, g1, v, w', g2, T, O, V, B⟩
  · rw [g2]
    simp only [Oper.upon_value]
    refine h0 g1 Z z pl _ w ?_ b
    have hv : RelV Z s.h pl w (.tup [.raw (.bool false)]) (.tuple #[.bool false]) := .tup _ [.bool false] rfl fun i hi => match i, hi with
      | 0, _ => .cl _ _ (.raw _)
    cases dst with
    | none => exact rr.to' (Tr.refl _ _ _) rr.o _
    | some t => exact rr.to (Tr.refl _ _ _) rr.o (okO_lt ht) hv
  · rw [g2]
    simp only [Oper.upon_value]
    refine h1 e he g1 Z z pl _ w' ?_ (b.step T B)
    cases dst with
    | none => exact rr.to' T O _
    | some t => exact rr.to T O (okO_lt ht) V
end
/-- The same, of a function that hands back what leans on no object of its own: nothing of it is kept. -/
def RFn0 (P : Program) (f : FuncId) (h : List Ob) (args : List D) (R : D → Prop) : Prop := RFn P f h args fun d _ => d.upto h.length = true ∧ R d
theorem RFn0.mono {P : Program} {f : FuncId} {h : List Ob} {args : List D} {R R' : D → Prop} (hh : RFn0 P f h args R) (hr : ∀ d, R d → R' d) : RFn0 P f h args R' := RFn.mono hh fun _ _ h => ⟨h.1, hr _ h.2⟩
theorem RFn0.args {P : Program} {f : FuncId} {h : List Ob} {cs' cs : List D} {R : D → Prop} (hh : RFn0 P f h cs R) (e : argsEq cs' cs) : RFn0 P f h cs' R := RFn.args hh e
section
variable {P : Program} {base nt : Nat} {w0 : Start} {Q : Exit → St → Prop}
theorem callR0_wp (hbase : base ≤ w0.w.heap.size) {o : Oper} {s : St} {x : Operand} {args : Array Operand} {tys : Array TypeId} {f : FuncId} {nf : Nat} {caps : List D} (hf : FnOk P f) (ho : o.op = .call ⟨.value x, args, tys⟩)
    (hx : calleeD (evalO s.fr x) = some (f, nf, caps)) {R : D → Prop} (hF : RFn0 P f s.h (argsD nf caps (args.toList.map (evalO s.fr))) R)
    (ht : okO nt o.dst = true) (pl : List Pl) (a : Act) (w : World) (r : Rel Z base nt s pl a w) (b : Since Z base w0 s.h pl w) (Q' : Exit → Act → World → Prop) :
    o.wp P a w (fun a' w' => Ext w w' ∧ ∃ d, R d ∧ Rel Z base nt ⟨putO s.fr o.dst d, s.h⟩ pl a' w' ∧ Since Z base w0 s.h pl w' ∧ Tr s.h pl w s.h pl w' ∧ ∃ v, a' = a.put o.dst v) Q' := by
  obtain ⟨vs, hv, hvl, hvr⟩ := callee_ok (r.eval x) hx
  have hsize : base ≤ w.heap.size := Nat.le_trans hbase b.1.size
  obtain ⟨q1, hall⟩ := argsD_rel (r := fun d v => RelV Z s.h pl w d v) (nf := nf) hvl hvr (us := args.toList.map a.eval) (args := args.toList.map (evalO s.fr)) (by simp) (fun i hi => by
    have hi' : i < args.toList.length := by simpa using hi
    simp only [nth, nthV, List.getD_eq_getElem?_getD, List.getElem?_map]
    rw [List.getElem?_eq_getElem hi']
    exact r.eval _)
  have k1 : ∀ (l : Nat) (o : Ob), s.h[l]? = some o → ∃ o', (s.h.map Ob.ro)[l]? = some o' ∧ o'.gen = o.gen ∧ o'.sz = o.sz ∧ o'.kd.ty = o.kd.ty := fun l o e => ⟨o.ro, ro_get e, rfl, rfl, Kd.toRo_ty _⟩
  have k3 : ∀ (g : List Ob) (l : Nat) (o : Ob), (s.h.map Ob.ro ++ g)[l]? = some o → ∃ o', (s.h ++ g)[l]? = some o' ∧ o'.gen = o.gen ∧ o'.sz = o.sz ∧ o'.kd.ty = o.kd.ty := fun g l o e => by
    by_cases hl : l < s.h.length
    · rw [List.getElem?_append_left (by simpa using hl)] at e
      obtain ⟨o', h1, rfl⟩ := ro_get' e
      exact ⟨o', by rw [List.getElem?_append_left hl]; exact h1, rfl, rfl, (Kd.toRo_ty _).symm⟩
    · rw [List.getElem?_append_right (by simpa using hl)] at e
      exact ⟨o, by rw [List.getElem?_append_right (by omega)]; simpa using e, rfl, rfl, rfl⟩
  have hO0 : RelO Z w.heap.size (s.h.map Ob.ro) pl w := by
    refine ⟨by simp [r.o.len], r.o.inj, fun l o ho hp => ?_, fun l o b q ho hp => ?_⟩
    · obtain ⟨o', h1, rfl⟩ := ro_get' ho
      exact r.o.noRow l o' h1 hp
    · obtain ⟨o', h1, rfl⟩ := ro_get' ho
      obtain ⟨_, x⟩ := r.o.at_ l o' b q h1 hp
      exact ⟨fun hr => (by rw [ro_kd, Kd.toRo_ro] at hr; cases hr), x.to (Kd.toRo_ty _) rfl rfl rfl (fun _ _ => rfl) fun i j v _ _ hr => hr.kds k1⟩
  have hc := hF Z w.heap.size w pl (argsD nf vs (args.toList.map a.eval)) (Nat.le_refl _) b.2.2.new hO0 q1 (fun i hi => (hall i hi).kds k1)
  unfold Oper.wp
  rw [run_callop hf ho hv w]
  simp only [Oper.upon_enter]
  refine hc.mono fun e w' he => ?_
  obtain ⟨v, d, _, pl', rfl, ⟨g, rfl, hu, hR⟩, hO, hV, hT, hB⟩ := he
  have hE : Ext w w' := fun b hb => hB.block b hb
  have T0 : Tr s.h pl w s.h pl w' := Tr.ext r.o hE
  have hfin : RelV Z s.h pl w' d v := by
    have h1 := hV.take hu
    have e1 : (s.h.map Ob.ro ++ g).take s.h.length = s.h.map Ob.ro := List.take_left' (by simp)
    have e2 : pl'.take s.h.length = pl := by
      apply List.ext_getElem?
      intro i
      rw [List.getElem?_take]
      by_cases hi : i < s.h.length
      · rw [if_pos hi]
        have hi2 : i < pl.length := by rw [r.o.len]; exact hi
        obtain ⟨o', p', m1, m2, _, _, m3⟩ := hT.obj i _ _ (ro_get (List.getElem?_eq_getElem hi)) (List.getElem?_eq_getElem hi2)
        rw [List.getElem?_append_left (by simpa using hi), ro_get (List.getElem?_eq_getElem hi)] at m1
        cases m1
        obtain ⟨_, rfl⟩ := m3 rfl
        rw [m2, List.getElem?_eq_getElem hi2]
      · rw [if_neg hi, List.getElem?_eq_none (by rw [r.o.len]; omega)]
    rw [e1, e2] at h1
    exact h1.kds fun l o e => by
      obtain ⟨o', h1, rfl⟩ := ro_get' e
      exact ⟨o', h1, rfl, rfl, (Kd.toRo_ty _).symm⟩
  refine ⟨hE, d, hR, ?_, b.step T0 (hB.mono hsize), T0, v, rfl⟩
  have r' := r.ext hE
  cases hd : o.dst with
  | none => exact r'.to' (Tr.refl _ _ _) r'.o v
  | some t => rw [hd] at ht; exact r'.to (Tr.refl _ _ _) r'.o (okO_lt ht) hfin
theorem kont_callR0 (hbase : base ≤ w0.w.heap.size) {k : List Item} {dst : Option Nat} {ty : TypeId} {pos : String} {after : Array Edge} {gd : Option (Nat × Bool)} {r : List (Oper × G)} {s : St} {x : Operand} {args : Array Operand} {tys : Array TypeId} {f : FuncId} {nf : Nat} {caps : List D} (hf : FnOk P f)
    (hx : calleeD (evalO s.fr x) = some (f, nf, caps)) {cs : List D} (he : argsEq (argsD nf caps (args.toList.map (evalO s.fr))) cs)
    {R : D → Prop} (hF : RFn0 P f s.h cs R) (ht : okO nt dst = true) (hk : ∀ d, R d → kont P base nt w0 Q (.ops r :: k) .normal ⟨putO s.fr dst d, s.h⟩) :
    kont P base nt w0 Q (.ops ((⟨dst, .call ⟨.value x, args, tys⟩, ty, pos, after, gd⟩, none) :: r) :: k) .normal s := by
  simp only [kont] at hk ⊢
  intro Z z pl a w rr b
  simp only [wpG, wantedG, if_true]
  exact Oper.wp_mono (fun a' w' ⟨_, d, hR, r', b', _⟩ => hk d hR Z z pl a' w' r' b') (callR0_wp hbase hf rfl hx (hF.args he) ht pl a w rr b _)
theorem AX_callR0 (hbase : base ≤ w0.w.heap.size) {K : St → Prop} {dst : Option Nat} {ty : TypeId} {pos : String} {after : Array Edge} {gd : Option (Nat × Bool)} {r : List (Bool × Oper × G)} {s : St} {x : Operand} {args : Array Operand} {tys : Array TypeId} {f : FuncId} {nf : Nat} {caps : List D} (hf : FnOk P f)
    (hx : calleeD (evalO s.fr x) = some (f, nf, caps)) {cs : List D} (he : argsEq (argsD nf caps (args.toList.map (evalO s.fr))) cs) {R : D → Prop} (hF : RFn0 P f s.h cs R)
    (ht : okO nt dst = true) (hk : ∀ d, R d → AX P base nt w0 K r ⟨putO s.fr dst d, s.h⟩) :
    AX P base nt w0 K ((false, ⟨dst, .call ⟨.value x, args, tys⟩, ty, pos, after, gd⟩, none) :: r) s := by
  simp only [AX, AXo, lateT]
  intro Z z pl a w rr b
  exact Oper.wp_mono (fun a' w' ⟨hE, d, hR, r', b', T, v, e⟩ => ⟨fun _ => hE, _, _, pl, v, hk d hR, r', b', T, e⟩) (callR0_wp hbase hf rfl hx (hF.args he) ht pl a w rr b _)
end
/-! Heaps that are not told object by object. -/
theorem hlt {h : List Ob} {l : Nat} {o : Ob} (e : h[l]? = some o) : l < h.length := lt_of_some e
theorem hgetA {h t : List Ob} {l : Nat} (hl : l < h.length) : (h ++ t)[l]? = h[l]? := List.getElem?_append_left hl
theorem hgetL {h t : List Ob} {n : Nat} (hn : h.length = n) : (h ++ t)[n]? = t[0]? := by rw [← hn, List.getElem?_append_right (Nat.le_refl _), Nat.sub_self]
theorem hgetLk {h t : List Ob} {n k : Nat} (hn : h.length = n) : (h ++ t)[n + k]? = t[k]? := by rw [← hn, List.getElem?_append_right (by omega), Nat.add_sub_cancel_left]
theorem hsetA {h t : List Ob} {l : Nat} {o : Ob} (hl : l < h.length) : (h ++ t).set l o = h.set l o ++ t := List.set_append_left _ _ hl
theorem hsetL {h t : List Ob} {n : Nat} {o : Ob} (hn : h.length = n) : (h ++ t).set n o = h ++ t.set 0 o := by rw [← hn, List.set_append_right _ _ (Nat.le_refl _), Nat.sub_self]
theorem hsetLk {h t : List Ob} {n k : Nat} {o : Ob} (hn : h.length = n) : (h ++ t).set (n + k) o = h ++ t.set k o := by rw [← hn, List.set_append_right _ _ (by omega), Nat.add_sub_cancel_left]
theorem hgetS {h : List Ob} {l : Nat} {o : Ob} (hl : l < h.length) : (h.set l o)[l]? = some o := List.getElem?_set_self hl
theorem hgetN {h : List Ob} {l m : Nat} {o : Ob} (hn : l ≠ m) : (h.set l o)[m]? = h[m]? := List.getElem?_set_ne hn
/-- The walk of a function that is lent a heap to be read. -/
theorem RFn0_hx {P : Program} {X : Cx} (hX : CxOk P X) {f : FuncId} {fn : Func} {c : Code} (n : Nat) (hf : P.funcs[f]? = some fn) (hb : fn.body = some c) {h : List Ob} {args : List D} {R : D → Prop} {nt : Nat} {rs : Array ResultVar} (hnt : fn.ntmps = nt) (hrs : fn.results = rs) (hn : Nat.ble args.length nt = true)
    (hh : ∀ (base : Nat) (w : World) (pl : List Pl) (F : List Ob), F = h.map Ob.ro → F.length = h.length → base ≤ w.heap.size → hx P base ⟨w, F, pl⟩ (Post X.L rs.toList fun d h' => ∃ g, h' = F ++ g ∧ d.upto F.length = true ∧ R d) X nt n [.code c] ⟨initFr args 0, F⟩) : RFn0 P f h args R :=
  (MFn_hx hX n hf hb hnt hrs hn fun base w pl hb => hh base w pl _ rfl (by simp) hb).mono fun d h' ⟨g, h1, h2, h3⟩ => ⟨g, h1, by simpa using h2, h3⟩
theorem RFn_hx {P : Program} {X : Cx} (hX : CxOk P X) {f : FuncId} {fn : Func} {c : Code} (n : Nat) (hf : P.funcs[f]? = some fn) (hb : fn.body = some c) {h : List Ob} {args : List D} {R : D → List Ob → Prop} {nt : Nat} {rs : Array ResultVar} (hnt : fn.ntmps = nt) (hrs : fn.results = rs) (hn : Nat.ble args.length nt = true)
    (hh : ∀ (base : Nat) (w : World) (pl : List Pl) (F : List Ob), F = h.map Ob.ro → F.length = h.length → base ≤ w.heap.size → hx P base ⟨w, F, pl⟩ (Post X.L rs.toList fun d h' => ∃ g, h' = F ++ g ∧ R d g) X nt n [.code c] ⟨initFr args 0, F⟩) : RFn P f h args R :=
  MFn_hx hX n hf hb hnt hrs hn fun base w pl hb => hh base w pl _ rfl (by simp) hb
attribute [go_sem] plook pmlen pmake pupd pdel prange entsOf_map entsOf_mapK clockOf_map clockOf_mapK IsMap_map clockOf_ro entsOf_ro IsMap_ro mapOb_kd mapOb_n mapOb_gen ro_kd ro_n ro_gen ro_ro zeroD
end Go.Fg
namespace Go.Fg.X
set_option linter.unusedSimpArgs false
set_option linter.unusedVariables false
open Go.Proofs Go.Fg
set_option maxRecDepth 100000

theorem ty1 : TyOk Tryz.prog 1 ⟨.fn, 1, 8, [.nilFunc]⟩ := ⟨by kernel_rfl, by kernel_rfl, by kernel_rfl⟩
theorem ty2 : TyOk Tryz.prog 2 ⟨.int .i64, 1, 8, [.int .i64 0]⟩ := ⟨by kernel_rfl, by kernel_rfl, by kernel_rfl⟩
theorem ty3 : TyOk Tryz.prog 3 ⟨.int .i64, 1, 8, [.int .i64 0]⟩ := ⟨by kernel_rfl, by kernel_rfl, by kernel_rfl⟩
theorem ty4 : TyOk Tryz.prog 4 ⟨.bool, 1, 1, [.bool false]⟩ := ⟨by kernel_rfl, by kernel_rfl, by kernel_rfl⟩
theorem ty5 : TyOk Tryz.prog 5 ⟨.int .u8, 1, 1, [.int .u8 0]⟩ := ⟨by kernel_rfl, by kernel_rfl, by kernel_rfl⟩
theorem ty9 : TyOk Tryz.prog 9 ⟨.str, 1, 16, [.string ByteArray.empty]⟩ := ⟨by kernel_rfl, by kernel_rfl, by kernel_rfl⟩
theorem ty12 : TyOk Tryz.prog 12 ⟨.int .u64, 1, 8, [.int .u64 0]⟩ := ⟨by kernel_rfl, by kernel_rfl, by kernel_rfl⟩
theorem ty17 : TyOk Tryz.prog 17 ⟨.ptr 383, 1, 8, [.pointer none]⟩ := ⟨by kernel_rfl, by kernel_rfl, by kernel_rfl⟩
theorem ty20 : TyOk Tryz.prog 20 ⟨.iface, 1, 16, [.nilIface]⟩ := ⟨by kernel_rfl, by kernel_rfl, by kernel_rfl⟩
theorem ty21 : TyOk Tryz.prog 21 ⟨.int .i32, 1, 4, [.int .i32 0]⟩ := ⟨by kernel_rfl, by kernel_rfl, by kernel_rfl⟩
theorem ty22 : TyOk Tryz.prog 22 ⟨.struct [(0, 3), (1, 3)], 2, 16, [.int .i64 0, .int .i64 0]⟩ := ⟨by kernel_rfl, by kernel_rfl, by kernel_rfl⟩
theorem ty23 : TyOk Tryz.prog 23 ⟨.struct [(0, 3), (1, 3)], 2, 16, [.int .i64 0, .int .i64 0]⟩ := ⟨by kernel_rfl, by kernel_rfl, by kernel_rfl⟩
theorem ty24 : TyOk Tryz.prog 24 ⟨.slice 41, 1, 24, [.slice none 0 0]⟩ := ⟨by kernel_rfl, by kernel_rfl, by kernel_rfl⟩
theorem ty25 : TyOk Tryz.prog 25 ⟨.fn, 1, 8, [.nilFunc]⟩ := ⟨by kernel_rfl, by kernel_rfl, by kernel_rfl⟩
theorem ty26 : TyOk Tryz.prog 26 ⟨.fn, 1, 8, [.nilFunc]⟩ := ⟨by kernel_rfl, by kernel_rfl, by kernel_rfl⟩
theorem ty27 : TyOk Tryz.prog 27 ⟨.fn, 1, 8, [.nilFunc]⟩ := ⟨by kernel_rfl, by kernel_rfl, by kernel_rfl⟩
theorem ty28 : TyOk Tryz.prog 28 ⟨.ptr 121, 1, 8, [.pointer none]⟩ := ⟨by kernel_rfl, by kernel_rfl, by kernel_rfl⟩
theorem ty29 : TyOk Tryz.prog 29 ⟨.int .i64, 1, 8, [.int .i64 0]⟩ := ⟨by kernel_rfl, by kernel_rfl, by kernel_rfl⟩
theorem ty31 : TyOk Tryz.prog 31 ⟨.fn, 1, 8, [.nilFunc]⟩ := ⟨by kernel_rfl, by kernel_rfl, by kernel_rfl⟩
theorem ty32 : TyOk Tryz.prog 32 ⟨.slice 38, 1, 24, [.slice none 0 0]⟩ := ⟨by kernel_rfl, by kernel_rfl, by kernel_rfl⟩
theorem ty33 : TyOk Tryz.prog 33 ⟨.int .u64, 1, 8, [.int .u64 0]⟩ := ⟨by kernel_rfl, by kernel_rfl, by kernel_rfl⟩
theorem ty34 : TyOk Tryz.prog 34 ⟨.int .u16, 1, 2, [.int .u16 0]⟩ := ⟨by kernel_rfl, by kernel_rfl, by kernel_rfl⟩
theorem ty35 : TyOk Tryz.prog 35 ⟨.array 4 34, 4, 8, [.int .u16 0, .int .u16 0, .int .u16 0, .int .u16 0]⟩ := ⟨by kernel_rfl, by kernel_rfl, by kernel_rfl⟩
theorem ty36 : TyOk Tryz.prog 36 ⟨.array 4 34, 4, 8, [.int .u16 0, .int .u16 0, .int .u16 0, .int .u16 0]⟩ := ⟨by kernel_rfl, by kernel_rfl, by kernel_rfl⟩
theorem ty37 : TyOk Tryz.prog 37 ⟨.struct [(0, 33), (1, 3), (2, 36)], 6, 24, [.int .u64 0, .int .i64 0, .int .u16 0, .int .u16 0, .int .u16 0, .int .u16 0]⟩ := ⟨by kernel_rfl, by kernel_rfl, by kernel_rfl⟩
theorem ty38 : TyOk Tryz.prog 38 ⟨.struct [(0, 33), (1, 3), (2, 36)], 6, 24, [.int .u64 0, .int .i64 0, .int .u16 0, .int .u16 0, .int .u16 0, .int .u16 0]⟩ := ⟨by kernel_rfl, by kernel_rfl, by kernel_rfl⟩
theorem ty39 : TyOk Tryz.prog 39 ⟨.slice 111, 1, 24, [.slice none 0 0]⟩ := ⟨by kernel_rfl, by kernel_rfl, by kernel_rfl⟩
theorem ty40 : TyOk Tryz.prog 40 ⟨.struct [(0, 3), (1, 33), (2, 3), (3, 38), (9, 4), (10, 39)], 11, 80, [.int .i64 0, .int .u64 0, .int .i64 0, .int .u64 0, .int .i64 0, .int .u16 0, .int .u16 0, .int .u16 0, .int .u16 0, .bool false, .slice none 0 0]⟩ := ⟨by kernel_rfl, by kernel_rfl, by kernel_rfl⟩
theorem ty41 : TyOk Tryz.prog 41 ⟨.struct [(0, 3), (1, 33), (2, 3), (3, 38), (9, 4), (10, 39)], 11, 80, [.int .i64 0, .int .u64 0, .int .i64 0, .int .u64 0, .int .i64 0, .int .u16 0, .int .u16 0, .int .u16 0, .int .u16 0, .bool false, .slice none 0 0]⟩ := ⟨by kernel_rfl, by kernel_rfl, by kernel_rfl⟩
theorem ty42 : TyOk Tryz.prog 42 ⟨.struct [(0, 3), (1, 38), (7, 4)], 8, 40, [.int .i64 0, .int .u64 0, .int .i64 0, .int .u16 0, .int .u16 0, .int .u16 0, .int .u16 0, .bool false]⟩ := ⟨by kernel_rfl, by kernel_rfl, by kernel_rfl⟩
theorem ty43 : TyOk Tryz.prog 43 ⟨.struct [(0, 3), (1, 38), (7, 4)], 8, 40, [.int .i64 0, .int .u64 0, .int .i64 0, .int .u16 0, .int .u16 0, .int .u16 0, .int .u16 0, .bool false]⟩ := ⟨by kernel_rfl, by kernel_rfl, by kernel_rfl⟩
theorem ty45 : TyOk Tryz.prog 45 ⟨.fn, 1, 8, [.nilFunc]⟩ := ⟨by kernel_rfl, by kernel_rfl, by kernel_rfl⟩
theorem ty46 : TyOk Tryz.prog 46 ⟨.fn, 1, 8, [.nilFunc]⟩ := ⟨by kernel_rfl, by kernel_rfl, by kernel_rfl⟩
theorem ty48 : TyOk Tryz.prog 48 ⟨.fn, 1, 8, [.nilFunc]⟩ := ⟨by kernel_rfl, by kernel_rfl, by kernel_rfl⟩
theorem ty49 : TyOk Tryz.prog 49 ⟨.fn, 1, 8, [.nilFunc]⟩ := ⟨by kernel_rfl, by kernel_rfl, by kernel_rfl⟩
theorem ty50 : TyOk Tryz.prog 50 ⟨.fn, 1, 8, [.nilFunc]⟩ := ⟨by kernel_rfl, by kernel_rfl, by kernel_rfl⟩
theorem ty51 : TyOk Tryz.prog 51 ⟨.fn, 1, 8, [.nilFunc]⟩ := ⟨by kernel_rfl, by kernel_rfl, by kernel_rfl⟩
theorem ty52 : TyOk Tryz.prog 52 ⟨.fn, 1, 8, [.nilFunc]⟩ := ⟨by kernel_rfl, by kernel_rfl, by kernel_rfl⟩
theorem ty53 : TyOk Tryz.prog 53 ⟨.ptr 180, 1, 8, [.pointer none]⟩ := ⟨by kernel_rfl, by kernel_rfl, by kernel_rfl⟩
theorem ty54 : TyOk Tryz.prog 54 ⟨.fn, 1, 8, [.nilFunc]⟩ := ⟨by kernel_rfl, by kernel_rfl, by kernel_rfl⟩
theorem ty55 : TyOk Tryz.prog 55 ⟨.slice 3, 1, 24, [.slice none 0 0]⟩ := ⟨by kernel_rfl, by kernel_rfl, by kernel_rfl⟩
theorem ty56 : TyOk Tryz.prog 56 ⟨.fn, 1, 8, [.nilFunc]⟩ := ⟨by kernel_rfl, by kernel_rfl, by kernel_rfl⟩
theorem ty57 : TyOk Tryz.prog 57 ⟨.struct [(0, 33), (1, 33), (2, 33)], 3, 24, [.int .u64 0, .int .u64 0, .int .u64 0]⟩ := ⟨by kernel_rfl, by kernel_rfl, by kernel_rfl⟩
theorem ty58 : TyOk Tryz.prog 58 ⟨.struct [(0, 33), (1, 33), (2, 33)], 3, 24, [.int .u64 0, .int .u64 0, .int .u64 0]⟩ := ⟨by kernel_rfl, by kernel_rfl, by kernel_rfl⟩
theorem ty59 : TyOk Tryz.prog 59 ⟨.struct [(0, 3), (1, 3), (2, 4), (3, 58), (6, 58), (9, 58), (12, 3), (13, 3)], 14, 112, [.int .i64 0, .int .i64 0, .bool false, .int .u64 0, .int .u64 0, .int .u64 0, .int .u64 0, .int .u64 0, .int .u64 0, .int .u64 0, .int .u64 0, .int .u64 0, .int .i64 0, .int .i64 0]⟩ := ⟨by kernel_rfl, by kernel_rfl, by kernel_rfl⟩
theorem ty60 : TyOk Tryz.prog 60 ⟨.struct [(0, 3), (1, 3), (2, 4), (3, 58), (6, 58), (9, 58), (12, 3), (13, 3)], 14, 112, [.int .i64 0, .int .i64 0, .bool false, .int .u64 0, .int .u64 0, .int .u64 0, .int .u64 0, .int .u64 0, .int .u64 0, .int .u64 0, .int .u64 0, .int .u64 0, .int .i64 0, .int .i64 0]⟩ := ⟨by kernel_rfl, by kernel_rfl, by kernel_rfl⟩
theorem ty61 : TyOk Tryz.prog 61 ⟨.struct [(0, 33), (1, 33)], 2, 16, [.int .u64 0, .int .u64 0]⟩ := ⟨by kernel_rfl, by kernel_rfl, by kernel_rfl⟩
theorem ty62 : TyOk Tryz.prog 62 ⟨.struct [(0, 33), (1, 33)], 2, 16, [.int .u64 0, .int .u64 0]⟩ := ⟨by kernel_rfl, by kernel_rfl, by kernel_rfl⟩
theorem ty63 : TyOk Tryz.prog 63 ⟨.struct [(0, 33), (1, 62), (3, 33)], 4, 32, [.int .u64 0, .int .u64 0, .int .u64 0, .int .u64 0]⟩ := ⟨by kernel_rfl, by kernel_rfl, by kernel_rfl⟩
theorem ty64 : TyOk Tryz.prog 64 ⟨.struct [(0, 33), (1, 62), (3, 33)], 4, 32, [.int .u64 0, .int .u64 0, .int .u64 0, .int .u64 0]⟩ := ⟨by kernel_rfl, by kernel_rfl, by kernel_rfl⟩
theorem ty65 : TyOk Tryz.prog 65 ⟨.struct [(0, 64), (4, 64), (8, 4)], 9, 72, [.int .u64 0, .int .u64 0, .int .u64 0, .int .u64 0, .int .u64 0, .int .u64 0, .int .u64 0, .int .u64 0, .bool false]⟩ := ⟨by kernel_rfl, by kernel_rfl, by kernel_rfl⟩
theorem ty66 : TyOk Tryz.prog 66 ⟨.struct [(0, 64), (4, 64), (8, 4)], 9, 72, [.int .u64 0, .int .u64 0, .int .u64 0, .int .u64 0, .int .u64 0, .int .u64 0, .int .u64 0, .int .u64 0, .bool false]⟩ := ⟨by kernel_rfl, by kernel_rfl, by kernel_rfl⟩
theorem ty67 : TyOk Tryz.prog 67 ⟨.struct [(0, 4), (1, 66), (10, 66), (19, 33), (20, 33), (21, 33)], 22, 176, [.bool false, .int .u64 0, .int .u64 0, .int .u64 0, .int .u64 0, .int .u64 0, .int .u64 0, .int .u64 0, .int .u64 0, .bool false, .int .u64 0, .int .u64 0, .int .u64 0, .int .u64 0, .int .u64 0, .int .u64 0, .int .u64 0, .int .u64 0, .bool false, .int .u64 0, .int .u64 0, .int .u64 0]⟩ := ⟨by kernel_rfl, by kernel_rfl, by kernel_rfl⟩
theorem ty68 : TyOk Tryz.prog 68 ⟨.struct [(0, 4), (1, 66), (10, 66), (19, 33), (20, 33), (21, 33)], 22, 176, [.bool false, .int .u64 0, .int .u64 0, .int .u64 0, .int .u64 0, .int .u64 0, .int .u64 0, .int .u64 0, .int .u64 0, .bool false, .int .u64 0, .int .u64 0, .int .u64 0, .int .u64 0, .int .u64 0, .int .u64 0, .int .u64 0, .int .u64 0, .bool false, .int .u64 0, .int .u64 0, .int .u64 0]⟩ := ⟨by kernel_rfl, by kernel_rfl, by kernel_rfl⟩
theorem ty69 : TyOk Tryz.prog 69 ⟨.struct [(0, 4), (1, 66), (10, 33)], 11, 88, [.bool false, .int .u64 0, .int .u64 0, .int .u64 0, .int .u64 0, .int .u64 0, .int .u64 0, .int .u64 0, .int .u64 0, .bool false, .int .u64 0]⟩ := ⟨by kernel_rfl, by kernel_rfl, by kernel_rfl⟩
theorem ty70 : TyOk Tryz.prog 70 ⟨.struct [(0, 4), (1, 66), (10, 33)], 11, 88, [.bool false, .int .u64 0, .int .u64 0, .int .u64 0, .int .u64 0, .int .u64 0, .int .u64 0, .int .u64 0, .int .u64 0, .bool false, .int .u64 0]⟩ := ⟨by kernel_rfl, by kernel_rfl, by kernel_rfl⟩
theorem ty71 : TyOk Tryz.prog 71 ⟨.struct [(0, 4), (1, 66), (10, 33)], 11, 88, [.bool false, .int .u64 0, .int .u64 0, .int .u64 0, .int .u64 0, .int .u64 0, .int .u64 0, .int .u64 0, .int .u64 0, .bool false, .int .u64 0]⟩ := ⟨by kernel_rfl, by kernel_rfl, by kernel_rfl⟩
theorem ty72 : TyOk Tryz.prog 72 ⟨.struct [(0, 4), (1, 66), (10, 33)], 11, 88, [.bool false, .int .u64 0, .int .u64 0, .int .u64 0, .int .u64 0, .int .u64 0, .int .u64 0, .int .u64 0, .int .u64 0, .bool false, .int .u64 0]⟩ := ⟨by kernel_rfl, by kernel_rfl, by kernel_rfl⟩
theorem ty73 : TyOk Tryz.prog 73 ⟨.struct [(0, 33), (1, 33), (2, 33), (3, 33), (4, 33), (5, 33)], 6, 48, [.int .u64 0, .int .u64 0, .int .u64 0, .int .u64 0, .int .u64 0, .int .u64 0]⟩ := ⟨by kernel_rfl, by kernel_rfl, by kernel_rfl⟩
theorem ty74 : TyOk Tryz.prog 74 ⟨.struct [(0, 33), (1, 33), (2, 33), (3, 33), (4, 33), (5, 33)], 6, 48, [.int .u64 0, .int .u64 0, .int .u64 0, .int .u64 0, .int .u64 0, .int .u64 0]⟩ := ⟨by kernel_rfl, by kernel_rfl, by kernel_rfl⟩
theorem ty75 : TyOk Tryz.prog 75 ⟨.struct [(0, 60), (14, 4), (15, 33), (16, 68), (38, 70), (49, 72), (60, 33), (61, 74)], 67, 536, [.int .i64 0, .int .i64 0, .bool false, .int .u64 0, .int .u64 0, .int .u64 0, .int .u64 0, .int .u64 0, .int .u64 0, .int .u64 0, .int .u64 0, .int .u64 0, .int .i64 0, .int .i64 0, .bool false, .int .u64 0, .bool false, .int .u64 0, .int .u64 0, .int .u64 0, .int .u64 0, .int .u64 0, .int .u64 0, .int .u64 0, .int .u64 0, .bool false, .int .u64 0, .int .u64 0, .int .u64 0, .int .u64 0, .int .u64 0, .int .u64 0, .int .u64 0, .int .u64 0, .bool false, .int .u64 0, .int .u64 0, .int .u64 0, .bool false, .int .u64 0, .int .u64 0, .int .u64 0, .int .u64 0, .int .u64 0, .int .u64 0, .int .u64 0, .int .u64 0, .bool false, .int .u64 0, .bool false, .int .u64 0, .int .u64 0, .int .u64 0, .int .u64 0, .int .u64 0, .int .u64 0, .int .u64 0, .int .u64 0, .bool false, .int .u64 0, .int .u64 0, .int .u64 0, .int .u64 0, .int .u64 0, .int .u64 0, .int .u64 0, .int .u64 0]⟩ := ⟨by kernel_rfl, by kernel_rfl, by kernel_rfl⟩
theorem ty76 : TyOk Tryz.prog 76 ⟨.struct [(0, 60), (14, 4), (15, 33), (16, 68), (38, 70), (49, 72), (60, 33), (61, 74)], 67, 536, [.int .i64 0, .int .i64 0, .bool false, .int .u64 0, .int .u64 0, .int .u64 0, .int .u64 0, .int .u64 0, .int .u64 0, .int .u64 0, .int .u64 0, .int .u64 0, .int .i64 0, .int .i64 0, .bool false, .int .u64 0, .bool false, .int .u64 0, .int .u64 0, .int .u64 0, .int .u64 0, .int .u64 0, .int .u64 0, .int .u64 0, .int .u64 0, .bool false, .int .u64 0, .int .u64 0, .int .u64 0, .int .u64 0, .int .u64 0, .int .u64 0, .int .u64 0, .int .u64 0, .bool false, .int .u64 0, .int .u64 0, .int .u64 0, .bool false, .int .u64 0, .int .u64 0, .int .u64 0, .int .u64 0, .int .u64 0, .int .u64 0, .int .u64 0, .int .u64 0, .bool false, .int .u64 0, .bool false, .int .u64 0, .int .u64 0, .int .u64 0, .int .u64 0, .int .u64 0, .int .u64 0, .int .u64 0, .int .u64 0, .bool false, .int .u64 0, .int .u64 0, .int .u64 0, .int .u64 0, .int .u64 0, .int .u64 0, .int .u64 0, .int .u64 0]⟩ := ⟨by kernel_rfl, by kernel_rfl, by kernel_rfl⟩
theorem ty78 : TyOk Tryz.prog 78 ⟨.fn, 1, 8, [.nilFunc]⟩ := ⟨by kernel_rfl, by kernel_rfl, by kernel_rfl⟩
theorem ty79 : TyOk Tryz.prog 79 ⟨.fn, 1, 8, [.nilFunc]⟩ := ⟨by kernel_rfl, by kernel_rfl, by kernel_rfl⟩
theorem ty80 : TyOk Tryz.prog 80 ⟨.fn, 1, 8, [.nilFunc]⟩ := ⟨by kernel_rfl, by kernel_rfl, by kernel_rfl⟩
theorem ty81 : TyOk Tryz.prog 81 ⟨.fn, 1, 8, [.nilFunc]⟩ := ⟨by kernel_rfl, by kernel_rfl, by kernel_rfl⟩
theorem ty82 : TyOk Tryz.prog 82 ⟨.fn, 1, 8, [.nilFunc]⟩ := ⟨by kernel_rfl, by kernel_rfl, by kernel_rfl⟩
theorem ty84 : TyOk Tryz.prog 84 ⟨.fn, 1, 8, [.nilFunc]⟩ := ⟨by kernel_rfl, by kernel_rfl, by kernel_rfl⟩
theorem ty85 : TyOk Tryz.prog 85 ⟨.fn, 1, 8, [.nilFunc]⟩ := ⟨by kernel_rfl, by kernel_rfl, by kernel_rfl⟩
theorem ty86 : TyOk Tryz.prog 86 ⟨.fn, 1, 8, [.nilFunc]⟩ := ⟨by kernel_rfl, by kernel_rfl, by kernel_rfl⟩
theorem ty87 : TyOk Tryz.prog 87 ⟨.slice 102, 1, 24, [.slice none 0 0]⟩ := ⟨by kernel_rfl, by kernel_rfl, by kernel_rfl⟩
theorem ty88 : TyOk Tryz.prog 88 ⟨.slice 157, 1, 24, [.slice none 0 0]⟩ := ⟨by kernel_rfl, by kernel_rfl, by kernel_rfl⟩
theorem ty89 : TyOk Tryz.prog 89 ⟨.struct [(0, 87), (1, 88)], 2, 48, [.slice none 0 0, .slice none 0 0]⟩ := ⟨by kernel_rfl, by kernel_rfl, by kernel_rfl⟩
theorem ty90 : TyOk Tryz.prog 90 ⟨.struct [(0, 87), (1, 88)], 2, 48, [.slice none 0 0, .slice none 0 0]⟩ := ⟨by kernel_rfl, by kernel_rfl, by kernel_rfl⟩
theorem ty91 : TyOk Tryz.prog 91 ⟨.fn, 1, 8, [.nilFunc]⟩ := ⟨by kernel_rfl, by kernel_rfl, by kernel_rfl⟩
theorem ty92 : TyOk Tryz.prog 92 ⟨.fn, 1, 8, [.nilFunc]⟩ := ⟨by kernel_rfl, by kernel_rfl, by kernel_rfl⟩
theorem ty93 : TyOk Tryz.prog 93 ⟨.fn, 1, 8, [.nilFunc]⟩ := ⟨by kernel_rfl, by kernel_rfl, by kernel_rfl⟩
theorem ty95 : TyOk Tryz.prog 95 ⟨.fn, 1, 8, [.nilFunc]⟩ := ⟨by kernel_rfl, by kernel_rfl, by kernel_rfl⟩
theorem ty96 : TyOk Tryz.prog 96 ⟨.fn, 1, 8, [.nilFunc]⟩ := ⟨by kernel_rfl, by kernel_rfl, by kernel_rfl⟩
theorem ty97 : TyOk Tryz.prog 97 ⟨.slice 243, 1, 24, [.slice none 0 0]⟩ := ⟨by kernel_rfl, by kernel_rfl, by kernel_rfl⟩
theorem ty98 : TyOk Tryz.prog 98 ⟨.struct [(0, 3), (1, 39), (2, 97), (3, 38), (9, 33)], 10, 88, [.int .i64 0, .slice none 0 0, .slice none 0 0, .int .u64 0, .int .i64 0, .int .u16 0, .int .u16 0, .int .u16 0, .int .u16 0, .int .u64 0]⟩ := ⟨by kernel_rfl, by kernel_rfl, by kernel_rfl⟩
theorem ty99 : TyOk Tryz.prog 99 ⟨.struct [(0, 3), (1, 39), (2, 97), (3, 38), (9, 33)], 10, 88, [.int .i64 0, .slice none 0 0, .slice none 0 0, .int .u64 0, .int .i64 0, .int .u16 0, .int .u16 0, .int .u16 0, .int .u16 0, .int .u64 0]⟩ := ⟨by kernel_rfl, by kernel_rfl, by kernel_rfl⟩
theorem ty100 : TyOk Tryz.prog 100 ⟨.ptr 169, 1, 8, [.pointer none]⟩ := ⟨by kernel_rfl, by kernel_rfl, by kernel_rfl⟩
theorem ty101 : TyOk Tryz.prog 101 ⟨.struct [(0, 29), (1, 3), (2, 3)], 3, 24, [.int .i64 0, .int .i64 0, .int .i64 0]⟩ := ⟨by kernel_rfl, by kernel_rfl, by kernel_rfl⟩
theorem ty102 : TyOk Tryz.prog 102 ⟨.struct [(0, 29), (1, 3), (2, 3)], 3, 24, [.int .i64 0, .int .i64 0, .int .i64 0]⟩ := ⟨by kernel_rfl, by kernel_rfl, by kernel_rfl⟩
theorem ty104 : TyOk Tryz.prog 104 ⟨.fn, 1, 8, [.nilFunc]⟩ := ⟨by kernel_rfl, by kernel_rfl, by kernel_rfl⟩
theorem ty105 : TyOk Tryz.prog 105 ⟨.fn, 1, 8, [.nilFunc]⟩ := ⟨by kernel_rfl, by kernel_rfl, by kernel_rfl⟩
theorem ty106 : TyOk Tryz.prog 106 ⟨.struct [(0, 33), (1, 33), (2, 33), (3, 33), (4, 33)], 5, 40, [.int .u64 0, .int .u64 0, .int .u64 0, .int .u64 0, .int .u64 0]⟩ := ⟨by kernel_rfl, by kernel_rfl, by kernel_rfl⟩
theorem ty107 : TyOk Tryz.prog 107 ⟨.struct [(0, 33), (1, 33), (2, 33), (3, 33), (4, 33)], 5, 40, [.int .u64 0, .int .u64 0, .int .u64 0, .int .u64 0, .int .u64 0]⟩ := ⟨by kernel_rfl, by kernel_rfl, by kernel_rfl⟩
theorem ty108 : TyOk Tryz.prog 108 ⟨.fn, 1, 8, [.nilFunc]⟩ := ⟨by kernel_rfl, by kernel_rfl, by kernel_rfl⟩
theorem ty109 : TyOk Tryz.prog 109 ⟨.fn, 1, 8, [.nilFunc]⟩ := ⟨by kernel_rfl, by kernel_rfl, by kernel_rfl⟩
theorem ty110 : TyOk Tryz.prog 110 ⟨.struct [(0, 3), (1, 60)], 15, 120, [.int .i64 0, .int .i64 0, .int .i64 0, .bool false, .int .u64 0, .int .u64 0, .int .u64 0, .int .u64 0, .int .u64 0, .int .u64 0, .int .u64 0, .int .u64 0, .int .u64 0, .int .i64 0, .int .i64 0]⟩ := ⟨by kernel_rfl, by kernel_rfl, by kernel_rfl⟩
theorem ty111 : TyOk Tryz.prog 111 ⟨.struct [(0, 3), (1, 60)], 15, 120, [.int .i64 0, .int .i64 0, .int .i64 0, .bool false, .int .u64 0, .int .u64 0, .int .u64 0, .int .u64 0, .int .u64 0, .int .u64 0, .int .u64 0, .int .u64 0, .int .u64 0, .int .i64 0, .int .i64 0]⟩ := ⟨by kernel_rfl, by kernel_rfl, by kernel_rfl⟩
theorem ty112 : TyOk Tryz.prog 112 ⟨.fn, 1, 8, [.nilFunc]⟩ := ⟨by kernel_rfl, by kernel_rfl, by kernel_rfl⟩
theorem ty113 : TyOk Tryz.prog 113 ⟨.map 3 126, 1, 8, [.map none]⟩ := ⟨by kernel_rfl, by kernel_rfl, by kernel_rfl⟩
theorem ty114 : TyOk Tryz.prog 114 ⟨.ptr 185, 1, 8, [.pointer none]⟩ := ⟨by kernel_rfl, by kernel_rfl, by kernel_rfl⟩
theorem ty115 : TyOk Tryz.prog 115 ⟨.fn, 1, 8, [.nilFunc]⟩ := ⟨by kernel_rfl, by kernel_rfl, by kernel_rfl⟩
theorem ty116 : TyOk Tryz.prog 116 ⟨.ptr 187, 1, 8, [.pointer none]⟩ := ⟨by kernel_rfl, by kernel_rfl, by kernel_rfl⟩
theorem ty117 : TyOk Tryz.prog 117 ⟨.fn, 1, 8, [.nilFunc]⟩ := ⟨by kernel_rfl, by kernel_rfl, by kernel_rfl⟩
theorem ty118 : TyOk Tryz.prog 118 ⟨.map 3 116, 1, 8, [.map none]⟩ := ⟨by kernel_rfl, by kernel_rfl, by kernel_rfl⟩
theorem ty119 : TyOk Tryz.prog 119 ⟨.ptr 192, 1, 8, [.pointer none]⟩ := ⟨by kernel_rfl, by kernel_rfl, by kernel_rfl⟩
theorem ty120 : TyOk Tryz.prog 120 ⟨.struct [(0, 23), (2, 53), (3, 113), (4, 119), (5, 114), (6, 118), (7, 33), (8, 33)], 9, 72, [.int .i64 0, .int .i64 0, .pointer none, .map none, .pointer none, .pointer none, .map none, .int .u64 0, .int .u64 0]⟩ := ⟨by kernel_rfl, by kernel_rfl, by kernel_rfl⟩
theorem ty121 : TyOk Tryz.prog 121 ⟨.struct [(0, 23), (2, 53), (3, 113), (4, 119), (5, 114), (6, 118), (7, 33), (8, 33)], 9, 72, [.int .i64 0, .int .i64 0, .pointer none, .map none, .pointer none, .pointer none, .map none, .int .u64 0, .int .u64 0]⟩ := ⟨by kernel_rfl, by kernel_rfl, by kernel_rfl⟩
theorem ty122 : TyOk Tryz.prog 122 ⟨.fn, 1, 8, [.nilFunc]⟩ := ⟨by kernel_rfl, by kernel_rfl, by kernel_rfl⟩
theorem ty123 : TyOk Tryz.prog 123 ⟨.fn, 1, 8, [.nilFunc]⟩ := ⟨by kernel_rfl, by kernel_rfl, by kernel_rfl⟩
theorem ty125 : TyOk Tryz.prog 125 ⟨.fn, 1, 8, [.nilFunc]⟩ := ⟨by kernel_rfl, by kernel_rfl, by kernel_rfl⟩
theorem ty126 : TyOk Tryz.prog 126 ⟨.ptr 131, 1, 8, [.pointer none]⟩ := ⟨by kernel_rfl, by kernel_rfl, by kernel_rfl⟩
theorem ty128 : TyOk Tryz.prog 128 ⟨.fn, 1, 8, [.nilFunc]⟩ := ⟨by kernel_rfl, by kernel_rfl, by kernel_rfl⟩
theorem ty129 : TyOk Tryz.prog 129 ⟨.ptr 198, 1, 8, [.pointer none]⟩ := ⟨by kernel_rfl, by kernel_rfl, by kernel_rfl⟩
theorem ty130 : TyOk Tryz.prog 130 ⟨.struct [(0, 129), (1, 60), (15, 33), (16, 68), (38, 70), (49, 72)], 60, 480, [.pointer none, .int .i64 0, .int .i64 0, .bool false, .int .u64 0, .int .u64 0, .int .u64 0, .int .u64 0, .int .u64 0, .int .u64 0, .int .u64 0, .int .u64 0, .int .u64 0, .int .i64 0, .int .i64 0, .int .u64 0, .bool false, .int .u64 0, .int .u64 0, .int .u64 0, .int .u64 0, .int .u64 0, .int .u64 0, .int .u64 0, .int .u64 0, .bool false, .int .u64 0, .int .u64 0, .int .u64 0, .int .u64 0, .int .u64 0, .int .u64 0, .int .u64 0, .int .u64 0, .bool false, .int .u64 0, .int .u64 0, .int .u64 0, .bool false, .int .u64 0, .int .u64 0, .int .u64 0, .int .u64 0, .int .u64 0, .int .u64 0, .int .u64 0, .int .u64 0, .bool false, .int .u64 0, .bool false, .int .u64 0, .int .u64 0, .int .u64 0, .int .u64 0, .int .u64 0, .int .u64 0, .int .u64 0, .int .u64 0, .bool false, .int .u64 0]⟩ := ⟨by kernel_rfl, by kernel_rfl, by kernel_rfl⟩
theorem ty131 : TyOk Tryz.prog 131 ⟨.struct [(0, 129), (1, 60), (15, 33), (16, 68), (38, 70), (49, 72)], 60, 480, [.pointer none, .int .i64 0, .int .i64 0, .bool false, .int .u64 0, .int .u64 0, .int .u64 0, .int .u64 0, .int .u64 0, .int .u64 0, .int .u64 0, .int .u64 0, .int .u64 0, .int .i64 0, .int .i64 0, .int .u64 0, .bool false, .int .u64 0, .int .u64 0, .int .u64 0, .int .u64 0, .int .u64 0, .int .u64 0, .int .u64 0, .int .u64 0, .bool false, .int .u64 0, .int .u64 0, .int .u64 0, .int .u64 0, .int .u64 0, .int .u64 0, .int .u64 0, .int .u64 0, .bool false, .int .u64 0, .int .u64 0, .int .u64 0, .bool false, .int .u64 0, .int .u64 0, .int .u64 0, .int .u64 0, .int .u64 0, .int .u64 0, .int .u64 0, .int .u64 0, .bool false, .int .u64 0, .bool false, .int .u64 0, .int .u64 0, .int .u64 0, .int .u64 0, .int .u64 0, .int .u64 0, .int .u64 0, .int .u64 0, .bool false, .int .u64 0]⟩ := ⟨by kernel_rfl, by kernel_rfl, by kernel_rfl⟩
theorem ty132 : TyOk Tryz.prog 132 ⟨.fn, 1, 8, [.nilFunc]⟩ := ⟨by kernel_rfl, by kernel_rfl, by kernel_rfl⟩
theorem ty133 : TyOk Tryz.prog 133 ⟨.fn, 1, 8, [.nilFunc]⟩ := ⟨by kernel_rfl, by kernel_rfl, by kernel_rfl⟩
theorem ty134 : TyOk Tryz.prog 134 ⟨.fn, 1, 8, [.nilFunc]⟩ := ⟨by kernel_rfl, by kernel_rfl, by kernel_rfl⟩
theorem ty135 : TyOk Tryz.prog 135 ⟨.fn, 1, 8, [.nilFunc]⟩ := ⟨by kernel_rfl, by kernel_rfl, by kernel_rfl⟩
theorem ty136 : TyOk Tryz.prog 136 ⟨.fn, 1, 8, [.nilFunc]⟩ := ⟨by kernel_rfl, by kernel_rfl, by kernel_rfl⟩
theorem ty138 : TyOk Tryz.prog 138 ⟨.fn, 1, 8, [.nilFunc]⟩ := ⟨by kernel_rfl, by kernel_rfl, by kernel_rfl⟩
theorem ty139 : TyOk Tryz.prog 139 ⟨.fn, 1, 8, [.nilFunc]⟩ := ⟨by kernel_rfl, by kernel_rfl, by kernel_rfl⟩
theorem ty141 : TyOk Tryz.prog 141 ⟨.fn, 1, 8, [.nilFunc]⟩ := ⟨by kernel_rfl, by kernel_rfl, by kernel_rfl⟩
theorem ty142 : TyOk Tryz.prog 142 ⟨.fn, 1, 8, [.nilFunc]⟩ := ⟨by kernel_rfl, by kernel_rfl, by kernel_rfl⟩
theorem ty143 : TyOk Tryz.prog 143 ⟨.fn, 1, 8, [.nilFunc]⟩ := ⟨by kernel_rfl, by kernel_rfl, by kernel_rfl⟩
theorem ty144 : TyOk Tryz.prog 144 ⟨.fn, 1, 8, [.nilFunc]⟩ := ⟨by kernel_rfl, by kernel_rfl, by kernel_rfl⟩
theorem ty145 : TyOk Tryz.prog 145 ⟨.fn, 1, 8, [.nilFunc]⟩ := ⟨by kernel_rfl, by kernel_rfl, by kernel_rfl⟩
theorem ty147 : TyOk Tryz.prog 147 ⟨.fn, 1, 8, [.nilFunc]⟩ := ⟨by kernel_rfl, by kernel_rfl, by kernel_rfl⟩
theorem ty148 : TyOk Tryz.prog 148 ⟨.fn, 1, 8, [.nilFunc]⟩ := ⟨by kernel_rfl, by kernel_rfl, by kernel_rfl⟩
theorem ty150 : TyOk Tryz.prog 150 ⟨.fn, 1, 8, [.nilFunc]⟩ := ⟨by kernel_rfl, by kernel_rfl, by kernel_rfl⟩
theorem ty151 : TyOk Tryz.prog 151 ⟨.fn, 1, 8, [.nilFunc]⟩ := ⟨by kernel_rfl, by kernel_rfl, by kernel_rfl⟩
theorem ty152 : TyOk Tryz.prog 152 ⟨.fn, 1, 8, [.nilFunc]⟩ := ⟨by kernel_rfl, by kernel_rfl, by kernel_rfl⟩
theorem ty153 : TyOk Tryz.prog 153 ⟨.fn, 1, 8, [.nilFunc]⟩ := ⟨by kernel_rfl, by kernel_rfl, by kernel_rfl⟩
theorem ty154 : TyOk Tryz.prog 154 ⟨.fn, 1, 8, [.nilFunc]⟩ := ⟨by kernel_rfl, by kernel_rfl, by kernel_rfl⟩
theorem ty155 : TyOk Tryz.prog 155 ⟨.fn, 1, 8, [.nilFunc]⟩ := ⟨by kernel_rfl, by kernel_rfl, by kernel_rfl⟩
theorem ty156 : TyOk Tryz.prog 156 ⟨.struct [(0, 3), (1, 4), (2, 4), (3, 33), (4, 33), (5, 3), (6, 38)], 12, 64, [.int .i64 0, .bool false, .bool false, .int .u64 0, .int .u64 0, .int .i64 0, .int .u64 0, .int .i64 0, .int .u16 0, .int .u16 0, .int .u16 0, .int .u16 0]⟩ := ⟨by kernel_rfl, by kernel_rfl, by kernel_rfl⟩
theorem ty157 : TyOk Tryz.prog 157 ⟨.struct [(0, 3), (1, 4), (2, 4), (3, 33), (4, 33), (5, 3), (6, 38)], 12, 64, [.int .i64 0, .bool false, .bool false, .int .u64 0, .int .u64 0, .int .i64 0, .int .u64 0, .int .i64 0, .int .u16 0, .int .u16 0, .int .u16 0, .int .u16 0]⟩ := ⟨by kernel_rfl, by kernel_rfl, by kernel_rfl⟩
theorem ty159 : TyOk Tryz.prog 159 ⟨.fn, 1, 8, [.nilFunc]⟩ := ⟨by kernel_rfl, by kernel_rfl, by kernel_rfl⟩
theorem ty160 : TyOk Tryz.prog 160 ⟨.slice 99, 1, 24, [.slice none 0 0]⟩ := ⟨by kernel_rfl, by kernel_rfl, by kernel_rfl⟩
theorem ty161 : TyOk Tryz.prog 161 ⟨.struct [(0, 23), (2, 160)], 3, 40, [.int .i64 0, .int .i64 0, .slice none 0 0]⟩ := ⟨by kernel_rfl, by kernel_rfl, by kernel_rfl⟩
theorem ty162 : TyOk Tryz.prog 162 ⟨.struct [(0, 23), (2, 160)], 3, 40, [.int .i64 0, .int .i64 0, .slice none 0 0]⟩ := ⟨by kernel_rfl, by kernel_rfl, by kernel_rfl⟩
theorem ty163 : TyOk Tryz.prog 163 ⟨.fn, 1, 8, [.nilFunc]⟩ := ⟨by kernel_rfl, by kernel_rfl, by kernel_rfl⟩
theorem ty164 : TyOk Tryz.prog 164 ⟨.fn, 1, 8, [.nilFunc]⟩ := ⟨by kernel_rfl, by kernel_rfl, by kernel_rfl⟩
theorem ty165 : TyOk Tryz.prog 165 ⟨.ptr 240, 1, 8, [.pointer none]⟩ := ⟨by kernel_rfl, by kernel_rfl, by kernel_rfl⟩
theorem ty166 : TyOk Tryz.prog 166 ⟨.ptr 246, 1, 8, [.pointer none]⟩ := ⟨by kernel_rfl, by kernel_rfl, by kernel_rfl⟩
theorem ty167 : TyOk Tryz.prog 167 ⟨.ptr 257, 1, 8, [.pointer none]⟩ := ⟨by kernel_rfl, by kernel_rfl, by kernel_rfl⟩
theorem ty168 : TyOk Tryz.prog 168 ⟨.struct [(0, 28), (1, 165), (2, 166), (3, 167), (4, 33), (5, 3)], 6, 48, [.pointer none, .pointer none, .pointer none, .pointer none, .int .u64 0, .int .i64 0]⟩ := ⟨by kernel_rfl, by kernel_rfl, by kernel_rfl⟩
theorem ty169 : TyOk Tryz.prog 169 ⟨.struct [(0, 28), (1, 165), (2, 166), (3, 167), (4, 33), (5, 3)], 6, 48, [.pointer none, .pointer none, .pointer none, .pointer none, .int .u64 0, .int .i64 0]⟩ := ⟨by kernel_rfl, by kernel_rfl, by kernel_rfl⟩
theorem ty170 : TyOk Tryz.prog 170 ⟨.fn, 1, 8, [.nilFunc]⟩ := ⟨by kernel_rfl, by kernel_rfl, by kernel_rfl⟩
theorem ty172 : TyOk Tryz.prog 172 ⟨.fn, 1, 8, [.nilFunc]⟩ := ⟨by kernel_rfl, by kernel_rfl, by kernel_rfl⟩
theorem ty173 : TyOk Tryz.prog 173 ⟨.fn, 1, 8, [.nilFunc]⟩ := ⟨by kernel_rfl, by kernel_rfl, by kernel_rfl⟩
theorem ty174 : TyOk Tryz.prog 174 ⟨.fn, 1, 8, [.nilFunc]⟩ := ⟨by kernel_rfl, by kernel_rfl, by kernel_rfl⟩
theorem ty175 : TyOk Tryz.prog 175 ⟨.fn, 1, 8, [.nilFunc]⟩ := ⟨by kernel_rfl, by kernel_rfl, by kernel_rfl⟩
theorem ty176 : TyOk Tryz.prog 176 ⟨.fn, 1, 8, [.nilFunc]⟩ := ⟨by kernel_rfl, by kernel_rfl, by kernel_rfl⟩
theorem ty177 : TyOk Tryz.prog 177 ⟨.fn, 1, 8, [.nilFunc]⟩ := ⟨by kernel_rfl, by kernel_rfl, by kernel_rfl⟩
theorem ty178 : TyOk Tryz.prog 178 ⟨.map 3 60, 1, 8, [.map none]⟩ := ⟨by kernel_rfl, by kernel_rfl, by kernel_rfl⟩
theorem ty179 : TyOk Tryz.prog 179 ⟨.struct [(0, 178)], 1, 8, [.map none]⟩ := ⟨by kernel_rfl, by kernel_rfl, by kernel_rfl⟩
theorem ty180 : TyOk Tryz.prog 180 ⟨.struct [(0, 178)], 1, 8, [.map none]⟩ := ⟨by kernel_rfl, by kernel_rfl, by kernel_rfl⟩
theorem ty181 : TyOk Tryz.prog 181 ⟨.ptr 262, 1, 8, [.pointer none]⟩ := ⟨by kernel_rfl, by kernel_rfl, by kernel_rfl⟩
theorem ty182 : TyOk Tryz.prog 182 ⟨.fn, 1, 8, [.nilFunc]⟩ := ⟨by kernel_rfl, by kernel_rfl, by kernel_rfl⟩
theorem ty183 : TyOk Tryz.prog 183 ⟨.map 3 230, 1, 8, [.map none]⟩ := ⟨by kernel_rfl, by kernel_rfl, by kernel_rfl⟩
theorem ty184 : TyOk Tryz.prog 184 ⟨.struct [(0, 181), (1, 183)], 2, 16, [.pointer none, .map none]⟩ := ⟨by kernel_rfl, by kernel_rfl, by kernel_rfl⟩
theorem ty185 : TyOk Tryz.prog 185 ⟨.struct [(0, 181), (1, 183)], 2, 16, [.pointer none, .map none]⟩ := ⟨by kernel_rfl, by kernel_rfl, by kernel_rfl⟩
theorem ty186 : TyOk Tryz.prog 186 ⟨.struct [(0, 181), (1, 183)], 2, 16, [.pointer none, .map none]⟩ := ⟨by kernel_rfl, by kernel_rfl, by kernel_rfl⟩
theorem ty187 : TyOk Tryz.prog 187 ⟨.struct [(0, 181), (1, 183)], 2, 16, [.pointer none, .map none]⟩ := ⟨by kernel_rfl, by kernel_rfl, by kernel_rfl⟩
theorem ty188 : TyOk Tryz.prog 188 ⟨.map 3 194, 1, 8, [.map none]⟩ := ⟨by kernel_rfl, by kernel_rfl, by kernel_rfl⟩
theorem ty189 : TyOk Tryz.prog 189 ⟨.map 3 3, 1, 8, [.map none]⟩ := ⟨by kernel_rfl, by kernel_rfl, by kernel_rfl⟩
theorem ty190 : TyOk Tryz.prog 190 ⟨.map 3 189, 1, 8, [.map none]⟩ := ⟨by kernel_rfl, by kernel_rfl, by kernel_rfl⟩
theorem ty191 : TyOk Tryz.prog 191 ⟨.struct [(0, 188), (1, 189), (2, 190)], 3, 24, [.map none, .map none, .map none]⟩ := ⟨by kernel_rfl, by kernel_rfl, by kernel_rfl⟩
theorem ty192 : TyOk Tryz.prog 192 ⟨.struct [(0, 188), (1, 189), (2, 190)], 3, 24, [.map none, .map none, .map none]⟩ := ⟨by kernel_rfl, by kernel_rfl, by kernel_rfl⟩
theorem ty193 : TyOk Tryz.prog 193 ⟨.struct [(0, 3), (1, 3)], 2, 16, [.int .i64 0, .int .i64 0]⟩ := ⟨by kernel_rfl, by kernel_rfl, by kernel_rfl⟩
theorem ty194 : TyOk Tryz.prog 194 ⟨.struct [(0, 3), (1, 3)], 2, 16, [.int .i64 0, .int .i64 0]⟩ := ⟨by kernel_rfl, by kernel_rfl, by kernel_rfl⟩
theorem ty195 : TyOk Tryz.prog 195 ⟨.fn, 1, 8, [.nilFunc]⟩ := ⟨by kernel_rfl, by kernel_rfl, by kernel_rfl⟩
theorem ty196 : TyOk Tryz.prog 196 ⟨.ptr 265, 1, 8, [.pointer none]⟩ := ⟨by kernel_rfl, by kernel_rfl, by kernel_rfl⟩
theorem ty197 : TyOk Tryz.prog 197 ⟨.struct [(0, 196), (1, 3), (2, 3), (3, 74)], 9, 72, [.pointer none, .int .i64 0, .int .i64 0, .int .u64 0, .int .u64 0, .int .u64 0, .int .u64 0, .int .u64 0, .int .u64 0]⟩ := ⟨by kernel_rfl, by kernel_rfl, by kernel_rfl⟩
theorem ty198 : TyOk Tryz.prog 198 ⟨.struct [(0, 196), (1, 3), (2, 3), (3, 74)], 9, 72, [.pointer none, .int .i64 0, .int .i64 0, .int .u64 0, .int .u64 0, .int .u64 0, .int .u64 0, .int .u64 0, .int .u64 0]⟩ := ⟨by kernel_rfl, by kernel_rfl, by kernel_rfl⟩
theorem ty199 : TyOk Tryz.prog 199 ⟨.fn, 1, 8, [.nilFunc]⟩ := ⟨by kernel_rfl, by kernel_rfl, by kernel_rfl⟩
theorem ty200 : TyOk Tryz.prog 200 ⟨.fn, 1, 8, [.nilFunc]⟩ := ⟨by kernel_rfl, by kernel_rfl, by kernel_rfl⟩
theorem ty201 : TyOk Tryz.prog 201 ⟨.fn, 1, 8, [.nilFunc]⟩ := ⟨by kernel_rfl, by kernel_rfl, by kernel_rfl⟩
theorem ty202 : TyOk Tryz.prog 202 ⟨.fn, 1, 8, [.nilFunc]⟩ := ⟨by kernel_rfl, by kernel_rfl, by kernel_rfl⟩
theorem ty203 : TyOk Tryz.prog 203 ⟨.fn, 1, 8, [.nilFunc]⟩ := ⟨by kernel_rfl, by kernel_rfl, by kernel_rfl⟩
theorem ty204 : TyOk Tryz.prog 204 ⟨.fn, 1, 8, [.nilFunc]⟩ := ⟨by kernel_rfl, by kernel_rfl, by kernel_rfl⟩
theorem ty205 : TyOk Tryz.prog 205 ⟨.fn, 1, 8, [.nilFunc]⟩ := ⟨by kernel_rfl, by kernel_rfl, by kernel_rfl⟩
theorem ty206 : TyOk Tryz.prog 206 ⟨.fn, 1, 8, [.nilFunc]⟩ := ⟨by kernel_rfl, by kernel_rfl, by kernel_rfl⟩
theorem ty208 : TyOk Tryz.prog 208 ⟨.fn, 1, 8, [.nilFunc]⟩ := ⟨by kernel_rfl, by kernel_rfl, by kernel_rfl⟩
theorem ty209 : TyOk Tryz.prog 209 ⟨.fn, 1, 8, [.nilFunc]⟩ := ⟨by kernel_rfl, by kernel_rfl, by kernel_rfl⟩
theorem ty210 : TyOk Tryz.prog 210 ⟨.fn, 1, 8, [.nilFunc]⟩ := ⟨by kernel_rfl, by kernel_rfl, by kernel_rfl⟩
theorem ty211 : TyOk Tryz.prog 211 ⟨.fn, 1, 8, [.nilFunc]⟩ := ⟨by kernel_rfl, by kernel_rfl, by kernel_rfl⟩
theorem ty212 : TyOk Tryz.prog 212 ⟨.fn, 1, 8, [.nilFunc]⟩ := ⟨by kernel_rfl, by kernel_rfl, by kernel_rfl⟩
theorem ty213 : TyOk Tryz.prog 213 ⟨.slice 58, 1, 24, [.slice none 0 0]⟩ := ⟨by kernel_rfl, by kernel_rfl, by kernel_rfl⟩
theorem ty214 : TyOk Tryz.prog 214 ⟨.fn, 1, 8, [.nilFunc]⟩ := ⟨by kernel_rfl, by kernel_rfl, by kernel_rfl⟩
theorem ty215 : TyOk Tryz.prog 215 ⟨.fn, 1, 8, [.nilFunc]⟩ := ⟨by kernel_rfl, by kernel_rfl, by kernel_rfl⟩
theorem ty216 : TyOk Tryz.prog 216 ⟨.fn, 1, 8, [.nilFunc]⟩ := ⟨by kernel_rfl, by kernel_rfl, by kernel_rfl⟩
theorem ty217 : TyOk Tryz.prog 217 ⟨.fn, 1, 8, [.nilFunc]⟩ := ⟨by kernel_rfl, by kernel_rfl, by kernel_rfl⟩
theorem ty218 : TyOk Tryz.prog 218 ⟨.fn, 1, 8, [.nilFunc]⟩ := ⟨by kernel_rfl, by kernel_rfl, by kernel_rfl⟩
theorem ty219 : TyOk Tryz.prog 219 ⟨.fn, 1, 8, [.nilFunc]⟩ := ⟨by kernel_rfl, by kernel_rfl, by kernel_rfl⟩
theorem ty220 : TyOk Tryz.prog 220 ⟨.fn, 1, 8, [.nilFunc]⟩ := ⟨by kernel_rfl, by kernel_rfl, by kernel_rfl⟩
theorem ty223 : TyOk Tryz.prog 223 ⟨.fn, 1, 8, [.nilFunc]⟩ := ⟨by kernel_rfl, by kernel_rfl, by kernel_rfl⟩
theorem ty224 : TyOk Tryz.prog 224 ⟨.fn, 1, 8, [.nilFunc]⟩ := ⟨by kernel_rfl, by kernel_rfl, by kernel_rfl⟩
theorem ty225 : TyOk Tryz.prog 225 ⟨.fn, 1, 8, [.nilFunc]⟩ := ⟨by kernel_rfl, by kernel_rfl, by kernel_rfl⟩
theorem ty226 : TyOk Tryz.prog 226 ⟨.fn, 1, 8, [.nilFunc]⟩ := ⟨by kernel_rfl, by kernel_rfl, by kernel_rfl⟩
theorem ty227 : TyOk Tryz.prog 227 ⟨.struct [(0, 33), (1, 3)], 2, 16, [.int .u64 0, .int .i64 0]⟩ := ⟨by kernel_rfl, by kernel_rfl, by kernel_rfl⟩
theorem ty228 : TyOk Tryz.prog 228 ⟨.struct [(0, 33), (1, 3)], 2, 16, [.int .u64 0, .int .i64 0]⟩ := ⟨by kernel_rfl, by kernel_rfl, by kernel_rfl⟩
theorem ty229 : TyOk Tryz.prog 229 ⟨.struct [(0, 228), (2, 228)], 4, 32, [.int .u64 0, .int .i64 0, .int .u64 0, .int .i64 0]⟩ := ⟨by kernel_rfl, by kernel_rfl, by kernel_rfl⟩
theorem ty230 : TyOk Tryz.prog 230 ⟨.struct [(0, 228), (2, 228)], 4, 32, [.int .u64 0, .int .i64 0, .int .u64 0, .int .i64 0]⟩ := ⟨by kernel_rfl, by kernel_rfl, by kernel_rfl⟩
theorem ty232 : TyOk Tryz.prog 232 ⟨.fn, 1, 8, [.nilFunc]⟩ := ⟨by kernel_rfl, by kernel_rfl, by kernel_rfl⟩
theorem ty233 : TyOk Tryz.prog 233 ⟨.fn, 1, 8, [.nilFunc]⟩ := ⟨by kernel_rfl, by kernel_rfl, by kernel_rfl⟩
theorem ty234 : TyOk Tryz.prog 234 ⟨.fn, 1, 8, [.nilFunc]⟩ := ⟨by kernel_rfl, by kernel_rfl, by kernel_rfl⟩
theorem ty235 : TyOk Tryz.prog 235 ⟨.fn, 1, 8, [.nilFunc]⟩ := ⟨by kernel_rfl, by kernel_rfl, by kernel_rfl⟩
theorem ty236 : TyOk Tryz.prog 236 ⟨.fn, 1, 8, [.nilFunc]⟩ := ⟨by kernel_rfl, by kernel_rfl, by kernel_rfl⟩
theorem ty237 : TyOk Tryz.prog 237 ⟨.struct [(0, 33), (1, 33), (2, 33)], 3, 24, [.int .u64 0, .int .u64 0, .int .u64 0]⟩ := ⟨by kernel_rfl, by kernel_rfl, by kernel_rfl⟩
theorem ty238 : TyOk Tryz.prog 238 ⟨.struct [(0, 33), (1, 33), (2, 33)], 3, 24, [.int .u64 0, .int .u64 0, .int .u64 0]⟩ := ⟨by kernel_rfl, by kernel_rfl, by kernel_rfl⟩
theorem ty239 : TyOk Tryz.prog 239 ⟨.struct [(0, 238), (3, 3), (4, 33)], 5, 40, [.int .u64 0, .int .u64 0, .int .u64 0, .int .i64 0, .int .u64 0]⟩ := ⟨by kernel_rfl, by kernel_rfl, by kernel_rfl⟩
theorem ty240 : TyOk Tryz.prog 240 ⟨.struct [(0, 238), (3, 3), (4, 33)], 5, 40, [.int .u64 0, .int .u64 0, .int .u64 0, .int .i64 0, .int .u64 0]⟩ := ⟨by kernel_rfl, by kernel_rfl, by kernel_rfl⟩
theorem ty241 : TyOk Tryz.prog 241 ⟨.fn, 1, 8, [.nilFunc]⟩ := ⟨by kernel_rfl, by kernel_rfl, by kernel_rfl⟩
theorem ty242 : TyOk Tryz.prog 242 ⟨.struct [(0, 36), (4, 36), (8, 3)], 9, 24, [.int .u16 0, .int .u16 0, .int .u16 0, .int .u16 0, .int .u16 0, .int .u16 0, .int .u16 0, .int .u16 0, .int .i64 0]⟩ := ⟨by kernel_rfl, by kernel_rfl, by kernel_rfl⟩
theorem ty243 : TyOk Tryz.prog 243 ⟨.struct [(0, 36), (4, 36), (8, 3)], 9, 24, [.int .u16 0, .int .u16 0, .int .u16 0, .int .u16 0, .int .u16 0, .int .u16 0, .int .u16 0, .int .u16 0, .int .i64 0]⟩ := ⟨by kernel_rfl, by kernel_rfl, by kernel_rfl⟩
theorem ty244 : TyOk Tryz.prog 244 ⟨.map 36 3, 1, 8, [.map none]⟩ := ⟨by kernel_rfl, by kernel_rfl, by kernel_rfl⟩
theorem ty245 : TyOk Tryz.prog 245 ⟨.struct [(0, 97), (1, 244), (2, 55)], 3, 56, [.slice none 0 0, .map none, .slice none 0 0]⟩ := ⟨by kernel_rfl, by kernel_rfl, by kernel_rfl⟩
theorem ty246 : TyOk Tryz.prog 246 ⟨.struct [(0, 97), (1, 244), (2, 55)], 3, 56, [.slice none 0 0, .map none, .slice none 0 0]⟩ := ⟨by kernel_rfl, by kernel_rfl, by kernel_rfl⟩
theorem ty247 : TyOk Tryz.prog 247 ⟨.fn, 1, 8, [.nilFunc]⟩ := ⟨by kernel_rfl, by kernel_rfl, by kernel_rfl⟩
theorem ty248 : TyOk Tryz.prog 248 ⟨.fn, 1, 8, [.nilFunc]⟩ := ⟨by kernel_rfl, by kernel_rfl, by kernel_rfl⟩
theorem ty249 : TyOk Tryz.prog 249 ⟨.fn, 1, 8, [.nilFunc]⟩ := ⟨by kernel_rfl, by kernel_rfl, by kernel_rfl⟩
theorem ty250 : TyOk Tryz.prog 250 ⟨.fn, 1, 8, [.nilFunc]⟩ := ⟨by kernel_rfl, by kernel_rfl, by kernel_rfl⟩
theorem ty251 : TyOk Tryz.prog 251 ⟨.fn, 1, 8, [.nilFunc]⟩ := ⟨by kernel_rfl, by kernel_rfl, by kernel_rfl⟩
theorem ty252 : TyOk Tryz.prog 252 ⟨.fn, 1, 8, [.nilFunc]⟩ := ⟨by kernel_rfl, by kernel_rfl, by kernel_rfl⟩
theorem ty253 : TyOk Tryz.prog 253 ⟨.fn, 1, 8, [.nilFunc]⟩ := ⟨by kernel_rfl, by kernel_rfl, by kernel_rfl⟩
theorem ty254 : TyOk Tryz.prog 254 ⟨.map 3 297, 1, 8, [.map none]⟩ := ⟨by kernel_rfl, by kernel_rfl, by kernel_rfl⟩
theorem ty255 : TyOk Tryz.prog 255 ⟨.map 3 107, 1, 8, [.map none]⟩ := ⟨by kernel_rfl, by kernel_rfl, by kernel_rfl⟩
theorem ty256 : TyOk Tryz.prog 256 ⟨.struct [(0, 254), (1, 255)], 2, 16, [.map none, .map none]⟩ := ⟨by kernel_rfl, by kernel_rfl, by kernel_rfl⟩
theorem ty257 : TyOk Tryz.prog 257 ⟨.struct [(0, 254), (1, 255)], 2, 16, [.map none, .map none]⟩ := ⟨by kernel_rfl, by kernel_rfl, by kernel_rfl⟩
theorem ty259 : TyOk Tryz.prog 259 ⟨.fn, 1, 8, [.nilFunc]⟩ := ⟨by kernel_rfl, by kernel_rfl, by kernel_rfl⟩
theorem ty260 : TyOk Tryz.prog 260 ⟨.ptr 292, 1, 8, [.pointer none]⟩ := ⟨by kernel_rfl, by kernel_rfl, by kernel_rfl⟩
theorem ty261 : TyOk Tryz.prog 261 ⟨.struct [(0, 260)], 1, 8, [.pointer none]⟩ := ⟨by kernel_rfl, by kernel_rfl, by kernel_rfl⟩
theorem ty262 : TyOk Tryz.prog 262 ⟨.struct [(0, 260)], 1, 8, [.pointer none]⟩ := ⟨by kernel_rfl, by kernel_rfl, by kernel_rfl⟩
theorem ty263 : TyOk Tryz.prog 263 ⟨.fn, 1, 8, [.nilFunc]⟩ := ⟨by kernel_rfl, by kernel_rfl, by kernel_rfl⟩
theorem ty264 : TyOk Tryz.prog 264 ⟨.struct [(0, 32), (1, 3), (2, 3)], 3, 40, [.slice none 0 0, .int .i64 0, .int .i64 0]⟩ := ⟨by kernel_rfl, by kernel_rfl, by kernel_rfl⟩
theorem ty265 : TyOk Tryz.prog 265 ⟨.struct [(0, 32), (1, 3), (2, 3)], 3, 40, [.slice none 0 0, .int .i64 0, .int .i64 0]⟩ := ⟨by kernel_rfl, by kernel_rfl, by kernel_rfl⟩
theorem ty266 : TyOk Tryz.prog 266 ⟨.fn, 1, 8, [.nilFunc]⟩ := ⟨by kernel_rfl, by kernel_rfl, by kernel_rfl⟩
theorem ty267 : TyOk Tryz.prog 267 ⟨.array 2 64, 8, 64, [.int .u64 0, .int .u64 0, .int .u64 0, .int .u64 0, .int .u64 0, .int .u64 0, .int .u64 0, .int .u64 0]⟩ := ⟨by kernel_rfl, by kernel_rfl, by kernel_rfl⟩
theorem ty268 : TyOk Tryz.prog 268 ⟨.fn, 1, 8, [.nilFunc]⟩ := ⟨by kernel_rfl, by kernel_rfl, by kernel_rfl⟩
theorem ty269 : TyOk Tryz.prog 269 ⟨.fn, 1, 8, [.nilFunc]⟩ := ⟨by kernel_rfl, by kernel_rfl, by kernel_rfl⟩
theorem ty270 : TyOk Tryz.prog 270 ⟨.int .u64, 1, 8, [.int .u64 0]⟩ := ⟨by kernel_rfl, by kernel_rfl, by kernel_rfl⟩
theorem ty271 : TyOk Tryz.prog 271 ⟨.fn, 1, 8, [.nilFunc]⟩ := ⟨by kernel_rfl, by kernel_rfl, by kernel_rfl⟩
theorem ty272 : TyOk Tryz.prog 272 ⟨.fn, 1, 8, [.nilFunc]⟩ := ⟨by kernel_rfl, by kernel_rfl, by kernel_rfl⟩
theorem ty273 : TyOk Tryz.prog 273 ⟨.fn, 1, 8, [.nilFunc]⟩ := ⟨by kernel_rfl, by kernel_rfl, by kernel_rfl⟩
theorem ty274 : TyOk Tryz.prog 274 ⟨.fn, 1, 8, [.nilFunc]⟩ := ⟨by kernel_rfl, by kernel_rfl, by kernel_rfl⟩
theorem ty275 : TyOk Tryz.prog 275 ⟨.fn, 1, 8, [.nilFunc]⟩ := ⟨by kernel_rfl, by kernel_rfl, by kernel_rfl⟩
theorem ty276 : TyOk Tryz.prog 276 ⟨.fn, 1, 8, [.nilFunc]⟩ := ⟨by kernel_rfl, by kernel_rfl, by kernel_rfl⟩
theorem ty277 : TyOk Tryz.prog 277 ⟨.fn, 1, 8, [.nilFunc]⟩ := ⟨by kernel_rfl, by kernel_rfl, by kernel_rfl⟩
theorem ty278 : TyOk Tryz.prog 278 ⟨.int .i64, 1, 8, [.int .i64 0]⟩ := ⟨by kernel_rfl, by kernel_rfl, by kernel_rfl⟩
theorem ty279 : TyOk Tryz.prog 279 ⟨.fn, 1, 8, [.nilFunc]⟩ := ⟨by kernel_rfl, by kernel_rfl, by kernel_rfl⟩
theorem ty280 : TyOk Tryz.prog 280 ⟨.fn, 1, 8, [.nilFunc]⟩ := ⟨by kernel_rfl, by kernel_rfl, by kernel_rfl⟩
theorem ty281 : TyOk Tryz.prog 281 ⟨.fn, 1, 8, [.nilFunc]⟩ := ⟨by kernel_rfl, by kernel_rfl, by kernel_rfl⟩
theorem ty282 : TyOk Tryz.prog 282 ⟨.slice 55, 1, 24, [.slice none 0 0]⟩ := ⟨by kernel_rfl, by kernel_rfl, by kernel_rfl⟩
theorem ty283 : TyOk Tryz.prog 283 ⟨.fn, 1, 8, [.nilFunc]⟩ := ⟨by kernel_rfl, by kernel_rfl, by kernel_rfl⟩
theorem ty284 : TyOk Tryz.prog 284 ⟨.fn, 1, 8, [.nilFunc]⟩ := ⟨by kernel_rfl, by kernel_rfl, by kernel_rfl⟩
theorem ty285 : TyOk Tryz.prog 285 ⟨.fn, 1, 8, [.nilFunc]⟩ := ⟨by kernel_rfl, by kernel_rfl, by kernel_rfl⟩
theorem ty286 : TyOk Tryz.prog 286 ⟨.fn, 1, 8, [.nilFunc]⟩ := ⟨by kernel_rfl, by kernel_rfl, by kernel_rfl⟩
theorem ty288 : TyOk Tryz.prog 288 ⟨.fn, 1, 8, [.nilFunc]⟩ := ⟨by kernel_rfl, by kernel_rfl, by kernel_rfl⟩
theorem ty289 : TyOk Tryz.prog 289 ⟨.fn, 1, 8, [.nilFunc]⟩ := ⟨by kernel_rfl, by kernel_rfl, by kernel_rfl⟩
theorem ty290 : TyOk Tryz.prog 290 ⟨.array 2 260, 2, 16, [.pointer none, .pointer none]⟩ := ⟨by kernel_rfl, by kernel_rfl, by kernel_rfl⟩
theorem ty291 : TyOk Tryz.prog 291 ⟨.struct [(0, 230), (4, 290), (6, 230), (10, 3), (11, 3)], 12, 96, [.int .u64 0, .int .i64 0, .int .u64 0, .int .i64 0, .pointer none, .pointer none, .int .u64 0, .int .i64 0, .int .u64 0, .int .i64 0, .int .i64 0, .int .i64 0]⟩ := ⟨by kernel_rfl, by kernel_rfl, by kernel_rfl⟩
theorem ty292 : TyOk Tryz.prog 292 ⟨.struct [(0, 230), (4, 290), (6, 230), (10, 3), (11, 3)], 12, 96, [.int .u64 0, .int .i64 0, .int .u64 0, .int .i64 0, .pointer none, .pointer none, .int .u64 0, .int .i64 0, .int .u64 0, .int .i64 0, .int .i64 0, .int .i64 0]⟩ := ⟨by kernel_rfl, by kernel_rfl, by kernel_rfl⟩
theorem ty293 : TyOk Tryz.prog 293 ⟨.fn, 1, 8, [.nilFunc]⟩ := ⟨by kernel_rfl, by kernel_rfl, by kernel_rfl⟩
theorem ty294 : TyOk Tryz.prog 294 ⟨.fn, 1, 8, [.nilFunc]⟩ := ⟨by kernel_rfl, by kernel_rfl, by kernel_rfl⟩
theorem ty295 : TyOk Tryz.prog 295 ⟨.fn, 1, 8, [.nilFunc]⟩ := ⟨by kernel_rfl, by kernel_rfl, by kernel_rfl⟩
theorem ty296 : TyOk Tryz.prog 296 ⟨.fn, 1, 8, [.nilFunc]⟩ := ⟨by kernel_rfl, by kernel_rfl, by kernel_rfl⟩
theorem ty297 : TyOk Tryz.prog 297 ⟨.slice 33, 1, 24, [.slice none 0 0]⟩ := ⟨by kernel_rfl, by kernel_rfl, by kernel_rfl⟩
theorem ty299 : TyOk Tryz.prog 299 ⟨.fn, 1, 8, [.nilFunc]⟩ := ⟨by kernel_rfl, by kernel_rfl, by kernel_rfl⟩
theorem ty300 : TyOk Tryz.prog 300 ⟨.fn, 1, 8, [.nilFunc]⟩ := ⟨by kernel_rfl, by kernel_rfl, by kernel_rfl⟩
theorem ty301 : TyOk Tryz.prog 301 ⟨.fn, 1, 8, [.nilFunc]⟩ := ⟨by kernel_rfl, by kernel_rfl, by kernel_rfl⟩
theorem ty303 : TyOk Tryz.prog 303 ⟨.fn, 1, 8, [.nilFunc]⟩ := ⟨by kernel_rfl, by kernel_rfl, by kernel_rfl⟩
theorem ty304 : TyOk Tryz.prog 304 ⟨.fn, 1, 8, [.nilFunc]⟩ := ⟨by kernel_rfl, by kernel_rfl, by kernel_rfl⟩
theorem ty305 : TyOk Tryz.prog 305 ⟨.fn, 1, 8, [.nilFunc]⟩ := ⟨by kernel_rfl, by kernel_rfl, by kernel_rfl⟩
theorem ty306 : TyOk Tryz.prog 306 ⟨.fn, 1, 8, [.nilFunc]⟩ := ⟨by kernel_rfl, by kernel_rfl, by kernel_rfl⟩
theorem ty308 : TyOk Tryz.prog 308 ⟨.fn, 1, 8, [.nilFunc]⟩ := ⟨by kernel_rfl, by kernel_rfl, by kernel_rfl⟩
theorem ty309 : TyOk Tryz.prog 309 ⟨.fn, 1, 8, [.nilFunc]⟩ := ⟨by kernel_rfl, by kernel_rfl, by kernel_rfl⟩
theorem ty310 : TyOk Tryz.prog 310 ⟨.fn, 1, 8, [.nilFunc]⟩ := ⟨by kernel_rfl, by kernel_rfl, by kernel_rfl⟩
theorem ty311 : TyOk Tryz.prog 311 ⟨.fn, 1, 8, [.nilFunc]⟩ := ⟨by kernel_rfl, by kernel_rfl, by kernel_rfl⟩
theorem ty312 : TyOk Tryz.prog 312 ⟨.fn, 1, 8, [.nilFunc]⟩ := ⟨by kernel_rfl, by kernel_rfl, by kernel_rfl⟩
theorem ty313 : TyOk Tryz.prog 313 ⟨.fn, 1, 8, [.nilFunc]⟩ := ⟨by kernel_rfl, by kernel_rfl, by kernel_rfl⟩
theorem ty314 : TyOk Tryz.prog 314 ⟨.fn, 1, 8, [.nilFunc]⟩ := ⟨by kernel_rfl, by kernel_rfl, by kernel_rfl⟩
theorem ty315 : TyOk Tryz.prog 315 ⟨.fn, 1, 8, [.nilFunc]⟩ := ⟨by kernel_rfl, by kernel_rfl, by kernel_rfl⟩
theorem ty316 : TyOk Tryz.prog 316 ⟨.fn, 1, 8, [.nilFunc]⟩ := ⟨by kernel_rfl, by kernel_rfl, by kernel_rfl⟩
theorem ty317 : TyOk Tryz.prog 317 ⟨.fn, 1, 8, [.nilFunc]⟩ := ⟨by kernel_rfl, by kernel_rfl, by kernel_rfl⟩
theorem ty318 : TyOk Tryz.prog 318 ⟨.fn, 1, 8, [.nilFunc]⟩ := ⟨by kernel_rfl, by kernel_rfl, by kernel_rfl⟩
theorem ty319 : TyOk Tryz.prog 319 ⟨.fn, 1, 8, [.nilFunc]⟩ := ⟨by kernel_rfl, by kernel_rfl, by kernel_rfl⟩
theorem ty320 : TyOk Tryz.prog 320 ⟨.fn, 1, 8, [.nilFunc]⟩ := ⟨by kernel_rfl, by kernel_rfl, by kernel_rfl⟩
theorem ty321 : TyOk Tryz.prog 321 ⟨.int .i64, 1, 8, [.int .i64 0]⟩ := ⟨by kernel_rfl, by kernel_rfl, by kernel_rfl⟩
theorem ty323 : TyOk Tryz.prog 323 ⟨.fn, 1, 8, [.nilFunc]⟩ := ⟨by kernel_rfl, by kernel_rfl, by kernel_rfl⟩
theorem ty324 : TyOk Tryz.prog 324 ⟨.fn, 1, 8, [.nilFunc]⟩ := ⟨by kernel_rfl, by kernel_rfl, by kernel_rfl⟩
theorem ty325 : TyOk Tryz.prog 325 ⟨.fn, 1, 8, [.nilFunc]⟩ := ⟨by kernel_rfl, by kernel_rfl, by kernel_rfl⟩
theorem ty326 : TyOk Tryz.prog 326 ⟨.fn, 1, 8, [.nilFunc]⟩ := ⟨by kernel_rfl, by kernel_rfl, by kernel_rfl⟩
theorem ty327 : TyOk Tryz.prog 327 ⟨.fn, 1, 8, [.nilFunc]⟩ := ⟨by kernel_rfl, by kernel_rfl, by kernel_rfl⟩
theorem ty328 : TyOk Tryz.prog 328 ⟨.fn, 1, 8, [.nilFunc]⟩ := ⟨by kernel_rfl, by kernel_rfl, by kernel_rfl⟩
theorem ty329 : TyOk Tryz.prog 329 ⟨.int .u32, 1, 4, [.int .u32 0]⟩ := ⟨by kernel_rfl, by kernel_rfl, by kernel_rfl⟩
theorem ty330 : TyOk Tryz.prog 330 ⟨.fn, 1, 8, [.nilFunc]⟩ := ⟨by kernel_rfl, by kernel_rfl, by kernel_rfl⟩
theorem ty331 : TyOk Tryz.prog 331 ⟨.fn, 1, 8, [.nilFunc]⟩ := ⟨by kernel_rfl, by kernel_rfl, by kernel_rfl⟩
theorem ty332 : TyOk Tryz.prog 332 ⟨.fn, 1, 8, [.nilFunc]⟩ := ⟨by kernel_rfl, by kernel_rfl, by kernel_rfl⟩
theorem ty333 : TyOk Tryz.prog 333 ⟨.fn, 1, 8, [.nilFunc]⟩ := ⟨by kernel_rfl, by kernel_rfl, by kernel_rfl⟩
theorem ty334 : TyOk Tryz.prog 334 ⟨.fn, 1, 8, [.nilFunc]⟩ := ⟨by kernel_rfl, by kernel_rfl, by kernel_rfl⟩
theorem ty335 : TyOk Tryz.prog 335 ⟨.fn, 1, 8, [.nilFunc]⟩ := ⟨by kernel_rfl, by kernel_rfl, by kernel_rfl⟩
theorem ty337 : TyOk Tryz.prog 337 ⟨.fn, 1, 8, [.nilFunc]⟩ := ⟨by kernel_rfl, by kernel_rfl, by kernel_rfl⟩
theorem ty339 : TyOk Tryz.prog 339 ⟨.fn, 1, 8, [.nilFunc]⟩ := ⟨by kernel_rfl, by kernel_rfl, by kernel_rfl⟩
theorem ty340 : TyOk Tryz.prog 340 ⟨.fn, 1, 8, [.nilFunc]⟩ := ⟨by kernel_rfl, by kernel_rfl, by kernel_rfl⟩
theorem ty341 : TyOk Tryz.prog 341 ⟨.fn, 1, 8, [.nilFunc]⟩ := ⟨by kernel_rfl, by kernel_rfl, by kernel_rfl⟩
theorem ty342 : TyOk Tryz.prog 342 ⟨.fn, 1, 8, [.nilFunc]⟩ := ⟨by kernel_rfl, by kernel_rfl, by kernel_rfl⟩
theorem ty343 : TyOk Tryz.prog 343 ⟨.fn, 1, 8, [.nilFunc]⟩ := ⟨by kernel_rfl, by kernel_rfl, by kernel_rfl⟩
theorem ty344 : TyOk Tryz.prog 344 ⟨.array 3 58, 9, 72, [.int .u64 0, .int .u64 0, .int .u64 0, .int .u64 0, .int .u64 0, .int .u64 0, .int .u64 0, .int .u64 0, .int .u64 0]⟩ := ⟨by kernel_rfl, by kernel_rfl, by kernel_rfl⟩
theorem ty345 : TyOk Tryz.prog 345 ⟨.fn, 1, 8, [.nilFunc]⟩ := ⟨by kernel_rfl, by kernel_rfl, by kernel_rfl⟩
theorem ty346 : TyOk Tryz.prog 346 ⟨.fn, 1, 8, [.nilFunc]⟩ := ⟨by kernel_rfl, by kernel_rfl, by kernel_rfl⟩
theorem ty347 : TyOk Tryz.prog 347 ⟨.fn, 1, 8, [.nilFunc]⟩ := ⟨by kernel_rfl, by kernel_rfl, by kernel_rfl⟩
theorem ty348 : TyOk Tryz.prog 348 ⟨.fn, 1, 8, [.nilFunc]⟩ := ⟨by kernel_rfl, by kernel_rfl, by kernel_rfl⟩
theorem ty349 : TyOk Tryz.prog 349 ⟨.fn, 1, 8, [.nilFunc]⟩ := ⟨by kernel_rfl, by kernel_rfl, by kernel_rfl⟩
theorem ty350 : TyOk Tryz.prog 350 ⟨.fn, 1, 8, [.nilFunc]⟩ := ⟨by kernel_rfl, by kernel_rfl, by kernel_rfl⟩
theorem ty351 : TyOk Tryz.prog 351 ⟨.fn, 1, 8, [.nilFunc]⟩ := ⟨by kernel_rfl, by kernel_rfl, by kernel_rfl⟩
theorem ty352 : TyOk Tryz.prog 352 ⟨.int .u64, 1, 8, [.int .u64 0]⟩ := ⟨by kernel_rfl, by kernel_rfl, by kernel_rfl⟩
theorem ty353 : TyOk Tryz.prog 353 ⟨.fn, 1, 8, [.nilFunc]⟩ := ⟨by kernel_rfl, by kernel_rfl, by kernel_rfl⟩
theorem ty354 : TyOk Tryz.prog 354 ⟨.fn, 1, 8, [.nilFunc]⟩ := ⟨by kernel_rfl, by kernel_rfl, by kernel_rfl⟩
theorem ty355 : TyOk Tryz.prog 355 ⟨.ptr 3, 1, 8, [.pointer none]⟩ := ⟨by kernel_rfl, by kernel_rfl, by kernel_rfl⟩
theorem ty356 : TyOk Tryz.prog 356 ⟨.fn, 1, 8, [.nilFunc]⟩ := ⟨by kernel_rfl, by kernel_rfl, by kernel_rfl⟩
theorem ty357 : TyOk Tryz.prog 357 ⟨.ptr 238, 1, 8, [.pointer none]⟩ := ⟨by kernel_rfl, by kernel_rfl, by kernel_rfl⟩
theorem ty358 : TyOk Tryz.prog 358 ⟨.fn, 1, 8, [.nilFunc]⟩ := ⟨by kernel_rfl, by kernel_rfl, by kernel_rfl⟩
theorem ty359 : TyOk Tryz.prog 359 ⟨.fn, 1, 8, [.nilFunc]⟩ := ⟨by kernel_rfl, by kernel_rfl, by kernel_rfl⟩
theorem ty360 : TyOk Tryz.prog 360 ⟨.ptr 352, 1, 8, [.pointer none]⟩ := ⟨by kernel_rfl, by kernel_rfl, by kernel_rfl⟩
theorem ty361 : TyOk Tryz.prog 361 ⟨.fn, 1, 8, [.nilFunc]⟩ := ⟨by kernel_rfl, by kernel_rfl, by kernel_rfl⟩
theorem ty362 : TyOk Tryz.prog 362 ⟨.fn, 1, 8, [.nilFunc]⟩ := ⟨by kernel_rfl, by kernel_rfl, by kernel_rfl⟩
theorem ty363 : TyOk Tryz.prog 363 ⟨.fn, 1, 8, [.nilFunc]⟩ := ⟨by kernel_rfl, by kernel_rfl, by kernel_rfl⟩
theorem ty364 : TyOk Tryz.prog 364 ⟨.fn, 1, 8, [.nilFunc]⟩ := ⟨by kernel_rfl, by kernel_rfl, by kernel_rfl⟩
theorem ty365 : TyOk Tryz.prog 365 ⟨.fn, 1, 8, [.nilFunc]⟩ := ⟨by kernel_rfl, by kernel_rfl, by kernel_rfl⟩
theorem ty366 : TyOk Tryz.prog 366 ⟨.fn, 1, 8, [.nilFunc]⟩ := ⟨by kernel_rfl, by kernel_rfl, by kernel_rfl⟩
theorem ty367 : TyOk Tryz.prog 367 ⟨.fn, 1, 8, [.nilFunc]⟩ := ⟨by kernel_rfl, by kernel_rfl, by kernel_rfl⟩
theorem ty368 : TyOk Tryz.prog 368 ⟨.fn, 1, 8, [.nilFunc]⟩ := ⟨by kernel_rfl, by kernel_rfl, by kernel_rfl⟩
theorem ty369 : TyOk Tryz.prog 369 ⟨.fn, 1, 8, [.nilFunc]⟩ := ⟨by kernel_rfl, by kernel_rfl, by kernel_rfl⟩
theorem ty370 : TyOk Tryz.prog 370 ⟨.fn, 1, 8, [.nilFunc]⟩ := ⟨by kernel_rfl, by kernel_rfl, by kernel_rfl⟩
theorem ty378 : TyOk Tryz.prog 378 ⟨.fn, 1, 8, [.nilFunc]⟩ := ⟨by kernel_rfl, by kernel_rfl, by kernel_rfl⟩
theorem ty379 : TyOk Tryz.prog 379 ⟨.ptr 5, 1, 8, [.pointer none]⟩ := ⟨by kernel_rfl, by kernel_rfl, by kernel_rfl⟩
theorem ty382 : TyOk Tryz.prog 382 ⟨.struct [(0, 12), (1, 12), (2, 329), (3, 376), (4, 5), (5, 5), (6, 377), (7, 378), (8, 379), (9, 380), (10, 381)], 11, 48, [.int .u64 0, .int .u64 0, .int .u32 0, .int .u8 0, .int .u8 0, .int .u8 0, .int .u8 0, .nilFunc, .pointer none, .int .i32 0, .int .i32 0]⟩ := ⟨by kernel_rfl, by kernel_rfl, by kernel_rfl⟩
def lay : Lay := [(1, ⟨.fn, 1, 8, [.nilFunc]⟩),
  (2, ⟨.int .i64, 1, 8, [.int .i64 0]⟩),
  (3, ⟨.int .i64, 1, 8, [.int .i64 0]⟩),
  (4, ⟨.bool, 1, 1, [.bool false]⟩),
  (5, ⟨.int .u8, 1, 1, [.int .u8 0]⟩),
  (9, ⟨.str, 1, 16, [.string ByteArray.empty]⟩),
  (12, ⟨.int .u64, 1, 8, [.int .u64 0]⟩),
  (17, ⟨.ptr 383, 1, 8, [.pointer none]⟩),
  (20, ⟨.iface, 1, 16, [.nilIface]⟩),
  (21, ⟨.int .i32, 1, 4, [.int .i32 0]⟩),
  (22, ⟨.struct [(0, 3), (1, 3)], 2, 16, [.int .i64 0, .int .i64 0]⟩),
  (23, ⟨.struct [(0, 3), (1, 3)], 2, 16, [.int .i64 0, .int .i64 0]⟩),
  (24, ⟨.slice 41, 1, 24, [.slice none 0 0]⟩),
  (25, ⟨.fn, 1, 8, [.nilFunc]⟩),
  (26, ⟨.fn, 1, 8, [.nilFunc]⟩),
  (27, ⟨.fn, 1, 8, [.nilFunc]⟩),
  (28, ⟨.ptr 121, 1, 8, [.pointer none]⟩),
  (29, ⟨.int .i64, 1, 8, [.int .i64 0]⟩),
  (31, ⟨.fn, 1, 8, [.nilFunc]⟩),
  (32, ⟨.slice 38, 1, 24, [.slice none 0 0]⟩),
  (33, ⟨.int .u64, 1, 8, [.int .u64 0]⟩),
  (34, ⟨.int .u16, 1, 2, [.int .u16 0]⟩),
  (35, ⟨.array 4 34, 4, 8, [.int .u16 0, .int .u16 0, .int .u16 0, .int .u16 0]⟩),
  (36, ⟨.array 4 34, 4, 8, [.int .u16 0, .int .u16 0, .int .u16 0, .int .u16 0]⟩),
  (37, ⟨.struct [(0, 33), (1, 3), (2, 36)], 6, 24, [.int .u64 0, .int .i64 0, .int .u16 0, .int .u16 0, .int .u16 0, .int .u16 0]⟩),
  (38, ⟨.struct [(0, 33), (1, 3), (2, 36)], 6, 24, [.int .u64 0, .int .i64 0, .int .u16 0, .int .u16 0, .int .u16 0, .int .u16 0]⟩),
  (39, ⟨.slice 111, 1, 24, [.slice none 0 0]⟩),
  (40, ⟨.struct [(0, 3), (1, 33), (2, 3), (3, 38), (9, 4), (10, 39)], 11, 80, [.int .i64 0, .int .u64 0, .int .i64 0, .int .u64 0, .int .i64 0, .int .u16 0, .int .u16 0, .int .u16 0, .int .u16 0, .bool false, .slice none 0 0]⟩),
  (41, ⟨.struct [(0, 3), (1, 33), (2, 3), (3, 38), (9, 4), (10, 39)], 11, 80, [.int .i64 0, .int .u64 0, .int .i64 0, .int .u64 0, .int .i64 0, .int .u16 0, .int .u16 0, .int .u16 0, .int .u16 0, .bool false, .slice none 0 0]⟩),
  (42, ⟨.struct [(0, 3), (1, 38), (7, 4)], 8, 40, [.int .i64 0, .int .u64 0, .int .i64 0, .int .u16 0, .int .u16 0, .int .u16 0, .int .u16 0, .bool false]⟩),
  (43, ⟨.struct [(0, 3), (1, 38), (7, 4)], 8, 40, [.int .i64 0, .int .u64 0, .int .i64 0, .int .u16 0, .int .u16 0, .int .u16 0, .int .u16 0, .bool false]⟩),
  (45, ⟨.fn, 1, 8, [.nilFunc]⟩),
  (46, ⟨.fn, 1, 8, [.nilFunc]⟩),
  (48, ⟨.fn, 1, 8, [.nilFunc]⟩),
  (49, ⟨.fn, 1, 8, [.nilFunc]⟩),
  (50, ⟨.fn, 1, 8, [.nilFunc]⟩),
  (51, ⟨.fn, 1, 8, [.nilFunc]⟩),
  (52, ⟨.fn, 1, 8, [.nilFunc]⟩),
  (53, ⟨.ptr 180, 1, 8, [.pointer none]⟩),
  (54, ⟨.fn, 1, 8, [.nilFunc]⟩),
  (55, ⟨.slice 3, 1, 24, [.slice none 0 0]⟩),
  (56, ⟨.fn, 1, 8, [.nilFunc]⟩),
  (57, ⟨.struct [(0, 33), (1, 33), (2, 33)], 3, 24, [.int .u64 0, .int .u64 0, .int .u64 0]⟩),
  (58, ⟨.struct [(0, 33), (1, 33), (2, 33)], 3, 24, [.int .u64 0, .int .u64 0, .int .u64 0]⟩),
  (59, ⟨.struct [(0, 3), (1, 3), (2, 4), (3, 58), (6, 58), (9, 58), (12, 3), (13, 3)], 14, 112, [.int .i64 0, .int .i64 0, .bool false, .int .u64 0, .int .u64 0, .int .u64 0, .int .u64 0, .int .u64 0, .int .u64 0, .int .u64 0, .int .u64 0, .int .u64 0, .int .i64 0, .int .i64 0]⟩),
  (60, ⟨.struct [(0, 3), (1, 3), (2, 4), (3, 58), (6, 58), (9, 58), (12, 3), (13, 3)], 14, 112, [.int .i64 0, .int .i64 0, .bool false, .int .u64 0, .int .u64 0, .int .u64 0, .int .u64 0, .int .u64 0, .int .u64 0, .int .u64 0, .int .u64 0, .int .u64 0, .int .i64 0, .int .i64 0]⟩),
  (61, ⟨.struct [(0, 33), (1, 33)], 2, 16, [.int .u64 0, .int .u64 0]⟩),
  (62, ⟨.struct [(0, 33), (1, 33)], 2, 16, [.int .u64 0, .int .u64 0]⟩),
  (63, ⟨.struct [(0, 33), (1, 62), (3, 33)], 4, 32, [.int .u64 0, .int .u64 0, .int .u64 0, .int .u64 0]⟩),
  (64, ⟨.struct [(0, 33), (1, 62), (3, 33)], 4, 32, [.int .u64 0, .int .u64 0, .int .u64 0, .int .u64 0]⟩),
  (65, ⟨.struct [(0, 64), (4, 64), (8, 4)], 9, 72, [.int .u64 0, .int .u64 0, .int .u64 0, .int .u64 0, .int .u64 0, .int .u64 0, .int .u64 0, .int .u64 0, .bool false]⟩),
  (66, ⟨.struct [(0, 64), (4, 64), (8, 4)], 9, 72, [.int .u64 0, .int .u64 0, .int .u64 0, .int .u64 0, .int .u64 0, .int .u64 0, .int .u64 0, .int .u64 0, .bool false]⟩),
  (67, ⟨.struct [(0, 4), (1, 66), (10, 66), (19, 33), (20, 33), (21, 33)], 22, 176, [.bool false, .int .u64 0, .int .u64 0, .int .u64 0, .int .u64 0, .int .u64 0, .int .u64 0, .int .u64 0, .int .u64 0, .bool false, .int .u64 0, .int .u64 0, .int .u64 0, .int .u64 0, .int .u64 0, .int .u64 0, .int .u64 0, .int .u64 0, .bool false, .int .u64 0, .int .u64 0, .int .u64 0]⟩),
  (68, ⟨.struct [(0, 4), (1, 66), (10, 66), (19, 33), (20, 33), (21, 33)], 22, 176, [.bool false, .int .u64 0, .int .u64 0, .int .u64 0, .int .u64 0, .int .u64 0, .int .u64 0, .int .u64 0, .int .u64 0, .bool false, .int .u64 0, .int .u64 0, .int .u64 0, .int .u64 0, .int .u64 0, .int .u64 0, .int .u64 0, .int .u64 0, .bool false, .int .u64 0, .int .u64 0, .int .u64 0]⟩),
  (69, ⟨.struct [(0, 4), (1, 66), (10, 33)], 11, 88, [.bool false, .int .u64 0, .int .u64 0, .int .u64 0, .int .u64 0, .int .u64 0, .int .u64 0, .int .u64 0, .int .u64 0, .bool false, .int .u64 0]⟩),
  (70, ⟨.struct [(0, 4), (1, 66), (10, 33)], 11, 88, [.bool false, .int .u64 0, .int .u64 0, .int .u64 0, .int .u64 0, .int .u64 0, .int .u64 0, .int .u64 0, .int .u64 0, .bool false, .int .u64 0]⟩),
  (71, ⟨.struct [(0, 4), (1, 66), (10, 33)], 11, 88, [.bool false, .int .u64 0, .int .u64 0, .int .u64 0, .int .u64 0, .int .u64 0, .int .u64 0, .int .u64 0, .int .u64 0, .bool false, .int .u64 0]⟩),
  (72, ⟨.struct [(0, 4), (1, 66), (10, 33)], 11, 88, [.bool false, .int .u64 0, .int .u64 0, .int .u64 0, .int .u64 0, .int .u64 0, .int .u64 0, .int .u64 0, .int .u64 0, .bool false, .int .u64 0]⟩),
  (73, ⟨.struct [(0, 33), (1, 33), (2, 33), (3, 33), (4, 33), (5, 33)], 6, 48, [.int .u64 0, .int .u64 0, .int .u64 0, .int .u64 0, .int .u64 0, .int .u64 0]⟩),
  (74, ⟨.struct [(0, 33), (1, 33), (2, 33), (3, 33), (4, 33), (5, 33)], 6, 48, [.int .u64 0, .int .u64 0, .int .u64 0, .int .u64 0, .int .u64 0, .int .u64 0]⟩),
  (75, ⟨.struct [(0, 60), (14, 4), (15, 33), (16, 68), (38, 70), (49, 72), (60, 33), (61, 74)], 67, 536, [.int .i64 0, .int .i64 0, .bool false, .int .u64 0, .int .u64 0, .int .u64 0, .int .u64 0, .int .u64 0, .int .u64 0, .int .u64 0, .int .u64 0, .int .u64 0, .int .i64 0, .int .i64 0, .bool false, .int .u64 0, .bool false, .int .u64 0, .int .u64 0, .int .u64 0, .int .u64 0, .int .u64 0, .int .u64 0, .int .u64 0, .int .u64 0, .bool false, .int .u64 0, .int .u64 0, .int .u64 0, .int .u64 0, .int .u64 0, .int .u64 0, .int .u64 0, .int .u64 0, .bool false, .int .u64 0, .int .u64 0, .int .u64 0, .bool false, .int .u64 0, .int .u64 0, .int .u64 0, .int .u64 0, .int .u64 0, .int .u64 0, .int .u64 0, .int .u64 0, .bool false, .int .u64 0, .bool false, .int .u64 0, .int .u64 0, .int .u64 0, .int .u64 0, .int .u64 0, .int .u64 0, .int .u64 0, .int .u64 0, .bool false, .int .u64 0, .int .u64 0, .int .u64 0, .int .u64 0, .int .u64 0, .int .u64 0, .int .u64 0, .int .u64 0]⟩),
  (76, ⟨.struct [(0, 60), (14, 4), (15, 33), (16, 68), (38, 70), (49, 72), (60, 33), (61, 74)], 67, 536, [.int .i64 0, .int .i64 0, .bool false, .int .u64 0, .int .u64 0, .int .u64 0, .int .u64 0, .int .u64 0, .int .u64 0, .int .u64 0, .int .u64 0, .int .u64 0, .int .i64 0, .int .i64 0, .bool false, .int .u64 0, .bool false, .int .u64 0, .int .u64 0, .int .u64 0, .int .u64 0, .int .u64 0, .int .u64 0, .int .u64 0, .int .u64 0, .bool false, .int .u64 0, .int .u64 0, .int .u64 0, .int .u64 0, .int .u64 0, .int .u64 0, .int .u64 0, .int .u64 0, .bool false, .int .u64 0, .int .u64 0, .int .u64 0, .bool false, .int .u64 0, .int .u64 0, .int .u64 0, .int .u64 0, .int .u64 0, .int .u64 0, .int .u64 0, .int .u64 0, .bool false, .int .u64 0, .bool false, .int .u64 0, .int .u64 0, .int .u64 0, .int .u64 0, .int .u64 0, .int .u64 0, .int .u64 0, .int .u64 0, .bool false, .int .u64 0, .int .u64 0, .int .u64 0, .int .u64 0, .int .u64 0, .int .u64 0, .int .u64 0, .int .u64 0]⟩),
  (78, ⟨.fn, 1, 8, [.nilFunc]⟩),
  (79, ⟨.fn, 1, 8, [.nilFunc]⟩),
  (80, ⟨.fn, 1, 8, [.nilFunc]⟩),
  (81, ⟨.fn, 1, 8, [.nilFunc]⟩),
  (82, ⟨.fn, 1, 8, [.nilFunc]⟩),
  (84, ⟨.fn, 1, 8, [.nilFunc]⟩),
  (85, ⟨.fn, 1, 8, [.nilFunc]⟩),
  (86, ⟨.fn, 1, 8, [.nilFunc]⟩),
  (87, ⟨.slice 102, 1, 24, [.slice none 0 0]⟩),
  (88, ⟨.slice 157, 1, 24, [.slice none 0 0]⟩),
  (89, ⟨.struct [(0, 87), (1, 88)], 2, 48, [.slice none 0 0, .slice none 0 0]⟩),
  (90, ⟨.struct [(0, 87), (1, 88)], 2, 48, [.slice none 0 0, .slice none 0 0]⟩),
  (91, ⟨.fn, 1, 8, [.nilFunc]⟩),
  (92, ⟨.fn, 1, 8, [.nilFunc]⟩),
  (93, ⟨.fn, 1, 8, [.nilFunc]⟩),
  (95, ⟨.fn, 1, 8, [.nilFunc]⟩),
  (96, ⟨.fn, 1, 8, [.nilFunc]⟩),
  (97, ⟨.slice 243, 1, 24, [.slice none 0 0]⟩),
  (98, ⟨.struct [(0, 3), (1, 39), (2, 97), (3, 38), (9, 33)], 10, 88, [.int .i64 0, .slice none 0 0, .slice none 0 0, .int .u64 0, .int .i64 0, .int .u16 0, .int .u16 0, .int .u16 0, .int .u16 0, .int .u64 0]⟩),
  (99, ⟨.struct [(0, 3), (1, 39), (2, 97), (3, 38), (9, 33)], 10, 88, [.int .i64 0, .slice none 0 0, .slice none 0 0, .int .u64 0, .int .i64 0, .int .u16 0, .int .u16 0, .int .u16 0, .int .u16 0, .int .u64 0]⟩),
  (100, ⟨.ptr 169, 1, 8, [.pointer none]⟩),
  (101, ⟨.struct [(0, 29), (1, 3), (2, 3)], 3, 24, [.int .i64 0, .int .i64 0, .int .i64 0]⟩),
  (102, ⟨.struct [(0, 29), (1, 3), (2, 3)], 3, 24, [.int .i64 0, .int .i64 0, .int .i64 0]⟩),
  (104, ⟨.fn, 1, 8, [.nilFunc]⟩),
  (105, ⟨.fn, 1, 8, [.nilFunc]⟩),
  (106, ⟨.struct [(0, 33), (1, 33), (2, 33), (3, 33), (4, 33)], 5, 40, [.int .u64 0, .int .u64 0, .int .u64 0, .int .u64 0, .int .u64 0]⟩),
  (107, ⟨.struct [(0, 33), (1, 33), (2, 33), (3, 33), (4, 33)], 5, 40, [.int .u64 0, .int .u64 0, .int .u64 0, .int .u64 0, .int .u64 0]⟩),
  (108, ⟨.fn, 1, 8, [.nilFunc]⟩),
  (109, ⟨.fn, 1, 8, [.nilFunc]⟩),
  (110, ⟨.struct [(0, 3), (1, 60)], 15, 120, [.int .i64 0, .int .i64 0, .int .i64 0, .bool false, .int .u64 0, .int .u64 0, .int .u64 0, .int .u64 0, .int .u64 0, .int .u64 0, .int .u64 0, .int .u64 0, .int .u64 0, .int .i64 0, .int .i64 0]⟩),
  (111, ⟨.struct [(0, 3), (1, 60)], 15, 120, [.int .i64 0, .int .i64 0, .int .i64 0, .bool false, .int .u64 0, .int .u64 0, .int .u64 0, .int .u64 0, .int .u64 0, .int .u64 0, .int .u64 0, .int .u64 0, .int .u64 0, .int .i64 0, .int .i64 0]⟩),
  (112, ⟨.fn, 1, 8, [.nilFunc]⟩),
  (113, ⟨.map 3 126, 1, 8, [.map none]⟩),
  (114, ⟨.ptr 185, 1, 8, [.pointer none]⟩),
  (115, ⟨.fn, 1, 8, [.nilFunc]⟩),
  (116, ⟨.ptr 187, 1, 8, [.pointer none]⟩),
  (117, ⟨.fn, 1, 8, [.nilFunc]⟩),
  (118, ⟨.map 3 116, 1, 8, [.map none]⟩),
  (119, ⟨.ptr 192, 1, 8, [.pointer none]⟩),
  (120, ⟨.struct [(0, 23), (2, 53), (3, 113), (4, 119), (5, 114), (6, 118), (7, 33), (8, 33)], 9, 72, [.int .i64 0, .int .i64 0, .pointer none, .map none, .pointer none, .pointer none, .map none, .int .u64 0, .int .u64 0]⟩),
  (121, ⟨.struct [(0, 23), (2, 53), (3, 113), (4, 119), (5, 114), (6, 118), (7, 33), (8, 33)], 9, 72, [.int .i64 0, .int .i64 0, .pointer none, .map none, .pointer none, .pointer none, .map none, .int .u64 0, .int .u64 0]⟩),
  (122, ⟨.fn, 1, 8, [.nilFunc]⟩),
  (123, ⟨.fn, 1, 8, [.nilFunc]⟩),
  (125, ⟨.fn, 1, 8, [.nilFunc]⟩),
  (126, ⟨.ptr 131, 1, 8, [.pointer none]⟩),
  (128, ⟨.fn, 1, 8, [.nilFunc]⟩),
  (129, ⟨.ptr 198, 1, 8, [.pointer none]⟩),
  (130, ⟨.struct [(0, 129), (1, 60), (15, 33), (16, 68), (38, 70), (49, 72)], 60, 480, [.pointer none, .int .i64 0, .int .i64 0, .bool false, .int .u64 0, .int .u64 0, .int .u64 0, .int .u64 0, .int .u64 0, .int .u64 0, .int .u64 0, .int .u64 0, .int .u64 0, .int .i64 0, .int .i64 0, .int .u64 0, .bool false, .int .u64 0, .int .u64 0, .int .u64 0, .int .u64 0, .int .u64 0, .int .u64 0, .int .u64 0, .int .u64 0, .bool false, .int .u64 0, .int .u64 0, .int .u64 0, .int .u64 0, .int .u64 0, .int .u64 0, .int .u64 0, .int .u64 0, .bool false, .int .u64 0, .int .u64 0, .int .u64 0, .bool false, .int .u64 0, .int .u64 0, .int .u64 0, .int .u64 0, .int .u64 0, .int .u64 0, .int .u64 0, .int .u64 0, .bool false, .int .u64 0, .bool false, .int .u64 0, .int .u64 0, .int .u64 0, .int .u64 0, .int .u64 0, .int .u64 0, .int .u64 0, .int .u64 0, .bool false, .int .u64 0]⟩),
  (131, ⟨.struct [(0, 129), (1, 60), (15, 33), (16, 68), (38, 70), (49, 72)], 60, 480, [.pointer none, .int .i64 0, .int .i64 0, .bool false, .int .u64 0, .int .u64 0, .int .u64 0, .int .u64 0, .int .u64 0, .int .u64 0, .int .u64 0, .int .u64 0, .int .u64 0, .int .i64 0, .int .i64 0, .int .u64 0, .bool false, .int .u64 0, .int .u64 0, .int .u64 0, .int .u64 0, .int .u64 0, .int .u64 0, .int .u64 0, .int .u64 0, .bool false, .int .u64 0, .int .u64 0, .int .u64 0, .int .u64 0, .int .u64 0, .int .u64 0, .int .u64 0, .int .u64 0, .bool false, .int .u64 0, .int .u64 0, .int .u64 0, .bool false, .int .u64 0, .int .u64 0, .int .u64 0, .int .u64 0, .int .u64 0, .int .u64 0, .int .u64 0, .int .u64 0, .bool false, .int .u64 0, .bool false, .int .u64 0, .int .u64 0, .int .u64 0, .int .u64 0, .int .u64 0, .int .u64 0, .int .u64 0, .int .u64 0, .bool false, .int .u64 0]⟩),
  (132, ⟨.fn, 1, 8, [.nilFunc]⟩),
  (133, ⟨.fn, 1, 8, [.nilFunc]⟩),
  (134, ⟨.fn, 1, 8, [.nilFunc]⟩),
  (135, ⟨.fn, 1, 8, [.nilFunc]⟩),
  (136, ⟨.fn, 1, 8, [.nilFunc]⟩),
  (138, ⟨.fn, 1, 8, [.nilFunc]⟩),
  (139, ⟨.fn, 1, 8, [.nilFunc]⟩),
  (141, ⟨.fn, 1, 8, [.nilFunc]⟩),
  (142, ⟨.fn, 1, 8, [.nilFunc]⟩),
  (143, ⟨.fn, 1, 8, [.nilFunc]⟩),
  (144, ⟨.fn, 1, 8, [.nilFunc]⟩),
  (145, ⟨.fn, 1, 8, [.nilFunc]⟩),
  (147, ⟨.fn, 1, 8, [.nilFunc]⟩),
  (148, ⟨.fn, 1, 8, [.nilFunc]⟩),
  (150, ⟨.fn, 1, 8, [.nilFunc]⟩),
  (151, ⟨.fn, 1, 8, [.nilFunc]⟩),
  (152, ⟨.fn, 1, 8, [.nilFunc]⟩),
  (153, ⟨.fn, 1, 8, [.nilFunc]⟩),
  (154, ⟨.fn, 1, 8, [.nilFunc]⟩),
  (155, ⟨.fn, 1, 8, [.nilFunc]⟩),
  (156, ⟨.struct [(0, 3), (1, 4), (2, 4), (3, 33), (4, 33), (5, 3), (6, 38)], 12, 64, [.int .i64 0, .bool false, .bool false, .int .u64 0, .int .u64 0, .int .i64 0, .int .u64 0, .int .i64 0, .int .u16 0, .int .u16 0, .int .u16 0, .int .u16 0]⟩),
  (157, ⟨.struct [(0, 3), (1, 4), (2, 4), (3, 33), (4, 33), (5, 3), (6, 38)], 12, 64, [.int .i64 0, .bool false, .bool false, .int .u64 0, .int .u64 0, .int .i64 0, .int .u64 0, .int .i64 0, .int .u16 0, .int .u16 0, .int .u16 0, .int .u16 0]⟩),
  (159, ⟨.fn, 1, 8, [.nilFunc]⟩),
  (160, ⟨.slice 99, 1, 24, [.slice none 0 0]⟩),
  (161, ⟨.struct [(0, 23), (2, 160)], 3, 40, [.int .i64 0, .int .i64 0, .slice none 0 0]⟩),
  (162, ⟨.struct [(0, 23), (2, 160)], 3, 40, [.int .i64 0, .int .i64 0, .slice none 0 0]⟩),
  (163, ⟨.fn, 1, 8, [.nilFunc]⟩),
  (164, ⟨.fn, 1, 8, [.nilFunc]⟩),
  (165, ⟨.ptr 240, 1, 8, [.pointer none]⟩),
  (166, ⟨.ptr 246, 1, 8, [.pointer none]⟩),
  (167, ⟨.ptr 257, 1, 8, [.pointer none]⟩),
  (168, ⟨.struct [(0, 28), (1, 165), (2, 166), (3, 167), (4, 33), (5, 3)], 6, 48, [.pointer none, .pointer none, .pointer none, .pointer none, .int .u64 0, .int .i64 0]⟩),
  (169, ⟨.struct [(0, 28), (1, 165), (2, 166), (3, 167), (4, 33), (5, 3)], 6, 48, [.pointer none, .pointer none, .pointer none, .pointer none, .int .u64 0, .int .i64 0]⟩),
  (170, ⟨.fn, 1, 8, [.nilFunc]⟩),
  (172, ⟨.fn, 1, 8, [.nilFunc]⟩),
  (173, ⟨.fn, 1, 8, [.nilFunc]⟩),
  (174, ⟨.fn, 1, 8, [.nilFunc]⟩),
  (175, ⟨.fn, 1, 8, [.nilFunc]⟩),
  (176, ⟨.fn, 1, 8, [.nilFunc]⟩),
  (177, ⟨.fn, 1, 8, [.nilFunc]⟩),
  (178, ⟨.map 3 60, 1, 8, [.map none]⟩),
  (179, ⟨.struct [(0, 178)], 1, 8, [.map none]⟩),
  (180, ⟨.struct [(0, 178)], 1, 8, [.map none]⟩),
  (181, ⟨.ptr 262, 1, 8, [.pointer none]⟩),
  (182, ⟨.fn, 1, 8, [.nilFunc]⟩),
  (183, ⟨.map 3 230, 1, 8, [.map none]⟩),
  (184, ⟨.struct [(0, 181), (1, 183)], 2, 16, [.pointer none, .map none]⟩),
  (185, ⟨.struct [(0, 181), (1, 183)], 2, 16, [.pointer none, .map none]⟩),
  (186, ⟨.struct [(0, 181), (1, 183)], 2, 16, [.pointer none, .map none]⟩),
  (187, ⟨.struct [(0, 181), (1, 183)], 2, 16, [.pointer none, .map none]⟩),
  (188, ⟨.map 3 194, 1, 8, [.map none]⟩),
  (189, ⟨.map 3 3, 1, 8, [.map none]⟩),
  (190, ⟨.map 3 189, 1, 8, [.map none]⟩),
  (191, ⟨.struct [(0, 188), (1, 189), (2, 190)], 3, 24, [.map none, .map none, .map none]⟩),
  (192, ⟨.struct [(0, 188), (1, 189), (2, 190)], 3, 24, [.map none, .map none, .map none]⟩),
  (193, ⟨.struct [(0, 3), (1, 3)], 2, 16, [.int .i64 0, .int .i64 0]⟩),
  (194, ⟨.struct [(0, 3), (1, 3)], 2, 16, [.int .i64 0, .int .i64 0]⟩),
  (195, ⟨.fn, 1, 8, [.nilFunc]⟩),
  (196, ⟨.ptr 265, 1, 8, [.pointer none]⟩),
  (197, ⟨.struct [(0, 196), (1, 3), (2, 3), (3, 74)], 9, 72, [.pointer none, .int .i64 0, .int .i64 0, .int .u64 0, .int .u64 0, .int .u64 0, .int .u64 0, .int .u64 0, .int .u64 0]⟩),
  (198, ⟨.struct [(0, 196), (1, 3), (2, 3), (3, 74)], 9, 72, [.pointer none, .int .i64 0, .int .i64 0, .int .u64 0, .int .u64 0, .int .u64 0, .int .u64 0, .int .u64 0, .int .u64 0]⟩),
  (199, ⟨.fn, 1, 8, [.nilFunc]⟩),
  (200, ⟨.fn, 1, 8, [.nilFunc]⟩),
  (201, ⟨.fn, 1, 8, [.nilFunc]⟩),
  (202, ⟨.fn, 1, 8, [.nilFunc]⟩),
  (203, ⟨.fn, 1, 8, [.nilFunc]⟩),
  (204, ⟨.fn, 1, 8, [.nilFunc]⟩),
  (205, ⟨.fn, 1, 8, [.nilFunc]⟩),
  (206, ⟨.fn, 1, 8, [.nilFunc]⟩),
  (208, ⟨.fn, 1, 8, [.nilFunc]⟩),
  (209, ⟨.fn, 1, 8, [.nilFunc]⟩),
  (210, ⟨.fn, 1, 8, [.nilFunc]⟩),
  (211, ⟨.fn, 1, 8, [.nilFunc]⟩),
  (212, ⟨.fn, 1, 8, [.nilFunc]⟩),
  (213, ⟨.slice 58, 1, 24, [.slice none 0 0]⟩),
  (214, ⟨.fn, 1, 8, [.nilFunc]⟩),
  (215, ⟨.fn, 1, 8, [.nilFunc]⟩),
  (216, ⟨.fn, 1, 8, [.nilFunc]⟩),
  (217, ⟨.fn, 1, 8, [.nilFunc]⟩),
  (218, ⟨.fn, 1, 8, [.nilFunc]⟩),
  (219, ⟨.fn, 1, 8, [.nilFunc]⟩),
  (220, ⟨.fn, 1, 8, [.nilFunc]⟩),
  (223, ⟨.fn, 1, 8, [.nilFunc]⟩),
  (224, ⟨.fn, 1, 8, [.nilFunc]⟩),
  (225, ⟨.fn, 1, 8, [.nilFunc]⟩),
  (226, ⟨.fn, 1, 8, [.nilFunc]⟩),
  (227, ⟨.struct [(0, 33), (1, 3)], 2, 16, [.int .u64 0, .int .i64 0]⟩),
  (228, ⟨.struct [(0, 33), (1, 3)], 2, 16, [.int .u64 0, .int .i64 0]⟩),
  (229, ⟨.struct [(0, 228), (2, 228)], 4, 32, [.int .u64 0, .int .i64 0, .int .u64 0, .int .i64 0]⟩),
  (230, ⟨.struct [(0, 228), (2, 228)], 4, 32, [.int .u64 0, .int .i64 0, .int .u64 0, .int .i64 0]⟩),
  (232, ⟨.fn, 1, 8, [.nilFunc]⟩),
  (233, ⟨.fn, 1, 8, [.nilFunc]⟩),
  (234, ⟨.fn, 1, 8, [.nilFunc]⟩),
  (235, ⟨.fn, 1, 8, [.nilFunc]⟩),
  (236, ⟨.fn, 1, 8, [.nilFunc]⟩),
  (237, ⟨.struct [(0, 33), (1, 33), (2, 33)], 3, 24, [.int .u64 0, .int .u64 0, .int .u64 0]⟩),
  (238, ⟨.struct [(0, 33), (1, 33), (2, 33)], 3, 24, [.int .u64 0, .int .u64 0, .int .u64 0]⟩),
  (239, ⟨.struct [(0, 238), (3, 3), (4, 33)], 5, 40, [.int .u64 0, .int .u64 0, .int .u64 0, .int .i64 0, .int .u64 0]⟩),
  (240, ⟨.struct [(0, 238), (3, 3), (4, 33)], 5, 40, [.int .u64 0, .int .u64 0, .int .u64 0, .int .i64 0, .int .u64 0]⟩),
  (241, ⟨.fn, 1, 8, [.nilFunc]⟩),
  (242, ⟨.struct [(0, 36), (4, 36), (8, 3)], 9, 24, [.int .u16 0, .int .u16 0, .int .u16 0, .int .u16 0, .int .u16 0, .int .u16 0, .int .u16 0, .int .u16 0, .int .i64 0]⟩),
  (243, ⟨.struct [(0, 36), (4, 36), (8, 3)], 9, 24, [.int .u16 0, .int .u16 0, .int .u16 0, .int .u16 0, .int .u16 0, .int .u16 0, .int .u16 0, .int .u16 0, .int .i64 0]⟩),
  (244, ⟨.map 36 3, 1, 8, [.map none]⟩),
  (245, ⟨.struct [(0, 97), (1, 244), (2, 55)], 3, 56, [.slice none 0 0, .map none, .slice none 0 0]⟩),
  (246, ⟨.struct [(0, 97), (1, 244), (2, 55)], 3, 56, [.slice none 0 0, .map none, .slice none 0 0]⟩),
  (247, ⟨.fn, 1, 8, [.nilFunc]⟩),
  (248, ⟨.fn, 1, 8, [.nilFunc]⟩),
  (249, ⟨.fn, 1, 8, [.nilFunc]⟩),
  (250, ⟨.fn, 1, 8, [.nilFunc]⟩),
  (251, ⟨.fn, 1, 8, [.nilFunc]⟩),
  (252, ⟨.fn, 1, 8, [.nilFunc]⟩),
  (253, ⟨.fn, 1, 8, [.nilFunc]⟩),
  (254, ⟨.map 3 297, 1, 8, [.map none]⟩),
  (255, ⟨.map 3 107, 1, 8, [.map none]⟩),
  (256, ⟨.struct [(0, 254), (1, 255)], 2, 16, [.map none, .map none]⟩),
  (257, ⟨.struct [(0, 254), (1, 255)], 2, 16, [.map none, .map none]⟩),
  (259, ⟨.fn, 1, 8, [.nilFunc]⟩),
  (260, ⟨.ptr 292, 1, 8, [.pointer none]⟩),
  (261, ⟨.struct [(0, 260)], 1, 8, [.pointer none]⟩),
  (262, ⟨.struct [(0, 260)], 1, 8, [.pointer none]⟩),
  (263, ⟨.fn, 1, 8, [.nilFunc]⟩),
  (264, ⟨.struct [(0, 32), (1, 3), (2, 3)], 3, 40, [.slice none 0 0, .int .i64 0, .int .i64 0]⟩),
  (265, ⟨.struct [(0, 32), (1, 3), (2, 3)], 3, 40, [.slice none 0 0, .int .i64 0, .int .i64 0]⟩),
  (266, ⟨.fn, 1, 8, [.nilFunc]⟩),
  (267, ⟨.array 2 64, 8, 64, [.int .u64 0, .int .u64 0, .int .u64 0, .int .u64 0, .int .u64 0, .int .u64 0, .int .u64 0, .int .u64 0]⟩),
  (268, ⟨.fn, 1, 8, [.nilFunc]⟩),
  (269, ⟨.fn, 1, 8, [.nilFunc]⟩),
  (270, ⟨.int .u64, 1, 8, [.int .u64 0]⟩),
  (271, ⟨.fn, 1, 8, [.nilFunc]⟩),
  (272, ⟨.fn, 1, 8, [.nilFunc]⟩),
  (273, ⟨.fn, 1, 8, [.nilFunc]⟩),
  (274, ⟨.fn, 1, 8, [.nilFunc]⟩),
  (275, ⟨.fn, 1, 8, [.nilFunc]⟩),
  (276, ⟨.fn, 1, 8, [.nilFunc]⟩),
  (277, ⟨.fn, 1, 8, [.nilFunc]⟩),
  (278, ⟨.int .i64, 1, 8, [.int .i64 0]⟩),
  (279, ⟨.fn, 1, 8, [.nilFunc]⟩),
  (280, ⟨.fn, 1, 8, [.nilFunc]⟩),
  (281, ⟨.fn, 1, 8, [.nilFunc]⟩),
  (282, ⟨.slice 55, 1, 24, [.slice none 0 0]⟩),
  (283, ⟨.fn, 1, 8, [.nilFunc]⟩),
  (284, ⟨.fn, 1, 8, [.nilFunc]⟩),
  (285, ⟨.fn, 1, 8, [.nilFunc]⟩),
  (286, ⟨.fn, 1, 8, [.nilFunc]⟩),
  (288, ⟨.fn, 1, 8, [.nilFunc]⟩),
  (289, ⟨.fn, 1, 8, [.nilFunc]⟩),
  (290, ⟨.array 2 260, 2, 16, [.pointer none, .pointer none]⟩),
  (291, ⟨.struct [(0, 230), (4, 290), (6, 230), (10, 3), (11, 3)], 12, 96, [.int .u64 0, .int .i64 0, .int .u64 0, .int .i64 0, .pointer none, .pointer none, .int .u64 0, .int .i64 0, .int .u64 0, .int .i64 0, .int .i64 0, .int .i64 0]⟩),
  (292, ⟨.struct [(0, 230), (4, 290), (6, 230), (10, 3), (11, 3)], 12, 96, [.int .u64 0, .int .i64 0, .int .u64 0, .int .i64 0, .pointer none, .pointer none, .int .u64 0, .int .i64 0, .int .u64 0, .int .i64 0, .int .i64 0, .int .i64 0]⟩),
  (293, ⟨.fn, 1, 8, [.nilFunc]⟩),
  (294, ⟨.fn, 1, 8, [.nilFunc]⟩),
  (295, ⟨.fn, 1, 8, [.nilFunc]⟩),
  (296, ⟨.fn, 1, 8, [.nilFunc]⟩),
  (297, ⟨.slice 33, 1, 24, [.slice none 0 0]⟩),
  (299, ⟨.fn, 1, 8, [.nilFunc]⟩),
  (300, ⟨.fn, 1, 8, [.nilFunc]⟩),
  (301, ⟨.fn, 1, 8, [.nilFunc]⟩),
  (303, ⟨.fn, 1, 8, [.nilFunc]⟩),
  (304, ⟨.fn, 1, 8, [.nilFunc]⟩),
  (305, ⟨.fn, 1, 8, [.nilFunc]⟩),
  (306, ⟨.fn, 1, 8, [.nilFunc]⟩),
  (308, ⟨.fn, 1, 8, [.nilFunc]⟩),
  (309, ⟨.fn, 1, 8, [.nilFunc]⟩),
  (310, ⟨.fn, 1, 8, [.nilFunc]⟩),
  (311, ⟨.fn, 1, 8, [.nilFunc]⟩),
  (312, ⟨.fn, 1, 8, [.nilFunc]⟩),
  (313, ⟨.fn, 1, 8, [.nilFunc]⟩),
  (314, ⟨.fn, 1, 8, [.nilFunc]⟩),
  (315, ⟨.fn, 1, 8, [.nilFunc]⟩),
  (316, ⟨.fn, 1, 8, [.nilFunc]⟩),
  (317, ⟨.fn, 1, 8, [.nilFunc]⟩),
  (318, ⟨.fn, 1, 8, [.nilFunc]⟩),
  (319, ⟨.fn, 1, 8, [.nilFunc]⟩),
  (320, ⟨.fn, 1, 8, [.nilFunc]⟩),
  (321, ⟨.int .i64, 1, 8, [.int .i64 0]⟩),
  (323, ⟨.fn, 1, 8, [.nilFunc]⟩),
  (324, ⟨.fn, 1, 8, [.nilFunc]⟩),
  (325, ⟨.fn, 1, 8, [.nilFunc]⟩),
  (326, ⟨.fn, 1, 8, [.nilFunc]⟩),
  (327, ⟨.fn, 1, 8, [.nilFunc]⟩),
  (328, ⟨.fn, 1, 8, [.nilFunc]⟩),
  (329, ⟨.int .u32, 1, 4, [.int .u32 0]⟩),
  (330, ⟨.fn, 1, 8, [.nilFunc]⟩),
  (331, ⟨.fn, 1, 8, [.nilFunc]⟩),
  (332, ⟨.fn, 1, 8, [.nilFunc]⟩),
  (333, ⟨.fn, 1, 8, [.nilFunc]⟩),
  (334, ⟨.fn, 1, 8, [.nilFunc]⟩),
  (335, ⟨.fn, 1, 8, [.nilFunc]⟩),
  (337, ⟨.fn, 1, 8, [.nilFunc]⟩),
  (339, ⟨.fn, 1, 8, [.nilFunc]⟩),
  (340, ⟨.fn, 1, 8, [.nilFunc]⟩),
  (341, ⟨.fn, 1, 8, [.nilFunc]⟩),
  (342, ⟨.fn, 1, 8, [.nilFunc]⟩),
  (343, ⟨.fn, 1, 8, [.nilFunc]⟩),
  (344, ⟨.array 3 58, 9, 72, [.int .u64 0, .int .u64 0, .int .u64 0, .int .u64 0, .int .u64 0, .int .u64 0, .int .u64 0, .int .u64 0, .int .u64 0]⟩),
  (345, ⟨.fn, 1, 8, [.nilFunc]⟩),
  (346, ⟨.fn, 1, 8, [.nilFunc]⟩),
  (347, ⟨.fn, 1, 8, [.nilFunc]⟩),
  (348, ⟨.fn, 1, 8, [.nilFunc]⟩),
  (349, ⟨.fn, 1, 8, [.nilFunc]⟩),
  (350, ⟨.fn, 1, 8, [.nilFunc]⟩),
  (351, ⟨.fn, 1, 8, [.nilFunc]⟩),
  (352, ⟨.int .u64, 1, 8, [.int .u64 0]⟩),
  (353, ⟨.fn, 1, 8, [.nilFunc]⟩),
  (354, ⟨.fn, 1, 8, [.nilFunc]⟩),
  (355, ⟨.ptr 3, 1, 8, [.pointer none]⟩),
  (356, ⟨.fn, 1, 8, [.nilFunc]⟩),
  (357, ⟨.ptr 238, 1, 8, [.pointer none]⟩),
  (358, ⟨.fn, 1, 8, [.nilFunc]⟩),
  (359, ⟨.fn, 1, 8, [.nilFunc]⟩),
  (360, ⟨.ptr 352, 1, 8, [.pointer none]⟩),
  (361, ⟨.fn, 1, 8, [.nilFunc]⟩),
  (362, ⟨.fn, 1, 8, [.nilFunc]⟩),
  (363, ⟨.fn, 1, 8, [.nilFunc]⟩),
  (364, ⟨.fn, 1, 8, [.nilFunc]⟩),
  (365, ⟨.fn, 1, 8, [.nilFunc]⟩),
  (366, ⟨.fn, 1, 8, [.nilFunc]⟩),
  (367, ⟨.fn, 1, 8, [.nilFunc]⟩),
  (368, ⟨.fn, 1, 8, [.nilFunc]⟩),
  (369, ⟨.fn, 1, 8, [.nilFunc]⟩),
  (370, ⟨.fn, 1, 8, [.nilFunc]⟩),
  (378, ⟨.fn, 1, 8, [.nilFunc]⟩),
  (379, ⟨.ptr 5, 1, 8, [.pointer none]⟩),
  (382, ⟨.struct [(0, 12), (1, 12), (2, 329), (3, 376), (4, 5), (5, 5), (6, 377), (7, 378), (8, 379), (9, 380), (10, 381)], 11, 48, [.int .u64 0, .int .u64 0, .int .u32 0, .int .u8 0, .int .u8 0, .int .u8 0, .int .u8 0, .nilFunc, .pointer none, .int .i32 0, .int .i32 0]⟩)]
theorem lay_ok : LayOk Tryz.prog lay := .cons ty1 <| .cons ty2 <| .cons ty3 <| .cons ty4 <| .cons ty5 <| .cons ty9 <| .cons ty12 <| .cons ty17 <| .cons ty20 <| .cons ty21 <| .cons ty22 <| .cons ty23 <| .cons ty24 <| .cons ty25 <| .cons ty26 <| .cons ty27 <| .cons ty28 <| .cons ty29 <| .cons ty31 <| .cons ty32 <| .cons ty33 <| .cons ty34 <| .cons ty35 <| .cons ty36 <| .cons ty37 <| .cons ty38 <| .cons ty39 <| .cons ty40 <| .cons ty41 <| .cons ty42 <| .cons ty43 <| .cons ty45 <| .cons ty46 <| .cons ty48 <| .cons ty49 <| .cons ty50 <| .cons ty51 <| .cons ty52 <| .cons ty53 <| .cons ty54 <| .cons ty55 <| .cons ty56 <| .cons ty57 <| .cons ty58 <| .cons ty59 <| .cons ty60 <| .cons ty61 <| .cons ty62 <| .cons ty63 <| .cons ty64 <| .cons ty65 <| .cons ty66 <| .cons ty67 <| .cons ty68 <| .cons ty69 <| .cons ty70 <| .cons ty71 <| .cons ty72 <| .cons ty73 <| .cons ty74 <| .cons ty75 <| .cons ty76 <| .cons ty78 <| .cons ty79 <| .cons ty80 <| .cons ty81 <| .cons ty82 <| .cons ty84 <| .cons ty85 <| .cons ty86 <| .cons ty87 <| .cons ty88 <| .cons ty89 <| .cons ty90 <| .cons ty91 <| .cons ty92 <| .cons ty93 <| .cons ty95 <| .cons ty96 <| .cons ty97 <| .cons ty98 <| .cons ty99 <| .cons ty100 <| .cons ty101 <| .cons ty102 <| .cons ty104 <| .cons ty105 <| .cons ty106 <| .cons ty107 <| .cons ty108 <| .cons ty109 <| .cons ty110 <| .cons ty111 <| .cons ty112 <| .cons ty113 <| .cons ty114 <| .cons ty115 <| .cons ty116 <| .cons ty117 <| .cons ty118 <| .cons ty119 <| .cons ty120 <| .cons ty121 <| .cons ty122 <| .cons ty123 <| .cons ty125 <| .cons ty126 <| .cons ty128 <| .cons ty129 <| .cons ty130 <| .cons ty131 <| .cons ty132 <| .cons ty133 <| .cons ty134 <| .cons ty135 <| .cons ty136 <| .cons ty138 <| .cons ty139 <| .cons ty141 <| .cons ty142 <| .cons ty143 <| .cons ty144 <| .cons ty145 <| .cons ty147 <| .cons ty148 <| .cons ty150 <| .cons ty151 <| .cons ty152 <| .cons ty153 <| .cons ty154 <| .cons ty155 <| .cons ty156 <| .cons ty157 <| .cons ty159 <| .cons ty160 <| .cons ty161 <| .cons ty162 <| .cons ty163 <| .cons ty164 <| .cons ty165 <| .cons ty166 <| .cons ty167 <| .cons ty168 <| .cons ty169 <| .cons ty170 <| .cons ty172 <| .cons ty173 <| .cons ty174 <| .cons ty175 <| .cons ty176 <| .cons ty177 <| .cons ty178 <| .cons ty179 <| .cons ty180 <| .cons ty181 <| .cons ty182 <| .cons ty183 <| .cons ty184 <| .cons ty185 <| .cons ty186 <| .cons ty187 <| .cons ty188 <| .cons ty189 <| .cons ty190 <| .cons ty191 <| .cons ty192 <| .cons ty193 <| .cons ty194 <| .cons ty195 <| .cons ty196 <| .cons ty197 <| .cons ty198 <| .cons ty199 <| .cons ty200 <| .cons ty201 <| .cons ty202 <| .cons ty203 <| .cons ty204 <| .cons ty205 <| .cons ty206 <| .cons ty208 <| .cons ty209 <| .cons ty210 <| .cons ty211 <| .cons ty212 <| .cons ty213 <| .cons ty214 <| .cons ty215 <| .cons ty216 <| .cons ty217 <| .cons ty218 <| .cons ty219 <| .cons ty220 <| .cons ty223 <| .cons ty224 <| .cons ty225 <| .cons ty226 <| .cons ty227 <| .cons ty228 <| .cons ty229 <| .cons ty230 <| .cons ty232 <| .cons ty233 <| .cons ty234 <| .cons ty235 <| .cons ty236 <| .cons ty237 <| .cons ty238 <| .cons ty239 <| .cons ty240 <| .cons ty241 <| .cons ty242 <| .cons ty243 <| .cons ty244 <| .cons ty245 <| .cons ty246 <| .cons ty247 <| .cons ty248 <| .cons ty249 <| .cons ty250 <| .cons ty251 <| .cons ty252 <| .cons ty253 <| .cons ty254 <| .cons ty255 <| .cons ty256 <| .cons ty257 <| .cons ty259 <| .cons ty260 <| .cons ty261 <| .cons ty262 <| .cons ty263 <| .cons ty264 <| .cons ty265 <| .cons ty266 <| .cons ty267 <| .cons ty268 <| .cons ty269 <| .cons ty270 <| .cons ty271 <| .cons ty272 <| .cons ty273 <| .cons ty274 <| .cons ty275 <| .cons ty276 <| .cons ty277 <| .cons ty278 <| .cons ty279 <| .cons ty280 <| .cons ty281 <| .cons ty282 <| .cons ty283 <| .cons ty284 <| .cons ty285 <| .cons ty286 <| .cons ty288 <| .cons ty289 <| .cons ty290 <| .cons ty291 <| .cons ty292 <| .cons ty293 <| .cons ty294 <| .cons ty295 <| .cons ty296 <| .cons ty297 <| .cons ty299 <| .cons ty300 <| .cons ty301 <| .cons ty303 <| .cons ty304 <| .cons ty305 <| .cons ty306 <| .cons ty308 <| .cons ty309 <| .cons ty310 <| .cons ty311 <| .cons ty312 <| .cons ty313 <| .cons ty314 <| .cons ty315 <| .cons ty316 <| .cons ty317 <| .cons ty318 <| .cons ty319 <| .cons ty320 <| .cons ty321 <| .cons ty323 <| .cons ty324 <| .cons ty325 <| .cons ty326 <| .cons ty327 <| .cons ty328 <| .cons ty329 <| .cons ty330 <| .cons ty331 <| .cons ty332 <| .cons ty333 <| .cons ty334 <| .cons ty335 <| .cons ty337 <| .cons ty339 <| .cons ty340 <| .cons ty341 <| .cons ty342 <| .cons ty343 <| .cons ty344 <| .cons ty345 <| .cons ty346 <| .cons ty347 <| .cons ty348 <| .cons ty349 <| .cons ty350 <| .cons ty351 <| .cons ty352 <| .cons ty353 <| .cons ty354 <| .cons ty355 <| .cons ty356 <| .cons ty357 <| .cons ty358 <| .cons ty359 <| .cons ty360 <| .cons ty361 <| .cons ty362 <| .cons ty363 <| .cons ty364 <| .cons ty365 <| .cons ty366 <| .cons ty367 <| .cons ty368 <| .cons ty369 <| .cons ty370 <| .cons ty378 <| .cons ty379 <| .cons ty382 <| .nil _
theorem L1 : ty lay 1 = some ⟨.fn, 1, 8, [.nilFunc]⟩ := rfl
theorem L2 : ty lay 2 = some ⟨.int .i64, 1, 8, [.int .i64 0]⟩ := rfl
theorem L3 : ty lay 3 = some ⟨.int .i64, 1, 8, [.int .i64 0]⟩ := rfl
theorem L4 : ty lay 4 = some ⟨.bool, 1, 1, [.bool false]⟩ := rfl
theorem L5 : ty lay 5 = some ⟨.int .u8, 1, 1, [.int .u8 0]⟩ := rfl
theorem L9 : ty lay 9 = some ⟨.str, 1, 16, [.string ByteArray.empty]⟩ := rfl
theorem L12 : ty lay 12 = some ⟨.int .u64, 1, 8, [.int .u64 0]⟩ := rfl
theorem L17 : ty lay 17 = some ⟨.ptr 383, 1, 8, [.pointer none]⟩ := rfl
theorem L20 : ty lay 20 = some ⟨.iface, 1, 16, [.nilIface]⟩ := rfl
theorem L21 : ty lay 21 = some ⟨.int .i32, 1, 4, [.int .i32 0]⟩ := rfl
theorem L22 : ty lay 22 = some ⟨.struct [(0, 3), (1, 3)], 2, 16, [.int .i64 0, .int .i64 0]⟩ := rfl
theorem L23 : ty lay 23 = some ⟨.struct [(0, 3), (1, 3)], 2, 16, [.int .i64 0, .int .i64 0]⟩ := rfl
theorem L24 : ty lay 24 = some ⟨.slice 41, 1, 24, [.slice none 0 0]⟩ := rfl
theorem L25 : ty lay 25 = some ⟨.fn, 1, 8, [.nilFunc]⟩ := rfl
theorem L26 : ty lay 26 = some ⟨.fn, 1, 8, [.nilFunc]⟩ := rfl
theorem L27 : ty lay 27 = some ⟨.fn, 1, 8, [.nilFunc]⟩ := rfl
theorem L28 : ty lay 28 = some ⟨.ptr 121, 1, 8, [.pointer none]⟩ := rfl
theorem L29 : ty lay 29 = some ⟨.int .i64, 1, 8, [.int .i64 0]⟩ := rfl
theorem L31 : ty lay 31 = some ⟨.fn, 1, 8, [.nilFunc]⟩ := rfl
theorem L32 : ty lay 32 = some ⟨.slice 38, 1, 24, [.slice none 0 0]⟩ := rfl
theorem L33 : ty lay 33 = some ⟨.int .u64, 1, 8, [.int .u64 0]⟩ := rfl
theorem L34 : ty lay 34 = some ⟨.int .u16, 1, 2, [.int .u16 0]⟩ := rfl
theorem L35 : ty lay 35 = some ⟨.array 4 34, 4, 8, [.int .u16 0, .int .u16 0, .int .u16 0, .int .u16 0]⟩ := rfl
theorem L36 : ty lay 36 = some ⟨.array 4 34, 4, 8, [.int .u16 0, .int .u16 0, .int .u16 0, .int .u16 0]⟩ := rfl
theorem L37 : ty lay 37 = some ⟨.struct [(0, 33), (1, 3), (2, 36)], 6, 24, [.int .u64 0, .int .i64 0, .int .u16 0, .int .u16 0, .int .u16 0, .int .u16 0]⟩ := rfl
theorem L38 : ty lay 38 = some ⟨.struct [(0, 33), (1, 3), (2, 36)], 6, 24, [.int .u64 0, .int .i64 0, .int .u16 0, .int .u16 0, .int .u16 0, .int .u16 0]⟩ := rfl
theorem L39 : ty lay 39 = some ⟨.slice 111, 1, 24, [.slice none 0 0]⟩ := rfl
theorem L40 : ty lay 40 = some ⟨.struct [(0, 3), (1, 33), (2, 3), (3, 38), (9, 4), (10, 39)], 11, 80, [.int .i64 0, .int .u64 0, .int .i64 0, .int .u64 0, .int .i64 0, .int .u16 0, .int .u16 0, .int .u16 0, .int .u16 0, .bool false, .slice none 0 0]⟩ := rfl
theorem L41 : ty lay 41 = some ⟨.struct [(0, 3), (1, 33), (2, 3), (3, 38), (9, 4), (10, 39)], 11, 80, [.int .i64 0, .int .u64 0, .int .i64 0, .int .u64 0, .int .i64 0, .int .u16 0, .int .u16 0, .int .u16 0, .int .u16 0, .bool false, .slice none 0 0]⟩ := rfl
theorem L42 : ty lay 42 = some ⟨.struct [(0, 3), (1, 38), (7, 4)], 8, 40, [.int .i64 0, .int .u64 0, .int .i64 0, .int .u16 0, .int .u16 0, .int .u16 0, .int .u16 0, .bool false]⟩ := rfl
theorem L43 : ty lay 43 = some ⟨.struct [(0, 3), (1, 38), (7, 4)], 8, 40, [.int .i64 0, .int .u64 0, .int .i64 0, .int .u16 0, .int .u16 0, .int .u16 0, .int .u16 0, .bool false]⟩ := rfl
theorem L45 : ty lay 45 = some ⟨.fn, 1, 8, [.nilFunc]⟩ := rfl
theorem L46 : ty lay 46 = some ⟨.fn, 1, 8, [.nilFunc]⟩ := rfl
theorem L48 : ty lay 48 = some ⟨.fn, 1, 8, [.nilFunc]⟩ := rfl
theorem L49 : ty lay 49 = some ⟨.fn, 1, 8, [.nilFunc]⟩ := rfl
theorem L50 : ty lay 50 = some ⟨.fn, 1, 8, [.nilFunc]⟩ := rfl
theorem L51 : ty lay 51 = some ⟨.fn, 1, 8, [.nilFunc]⟩ := rfl
theorem L52 : ty lay 52 = some ⟨.fn, 1, 8, [.nilFunc]⟩ := rfl
theorem L53 : ty lay 53 = some ⟨.ptr 180, 1, 8, [.pointer none]⟩ := rfl
theorem L54 : ty lay 54 = some ⟨.fn, 1, 8, [.nilFunc]⟩ := rfl
theorem L55 : ty lay 55 = some ⟨.slice 3, 1, 24, [.slice none 0 0]⟩ := rfl
theorem L56 : ty lay 56 = some ⟨.fn, 1, 8, [.nilFunc]⟩ := rfl
theorem L57 : ty lay 57 = some ⟨.struct [(0, 33), (1, 33), (2, 33)], 3, 24, [.int .u64 0, .int .u64 0, .int .u64 0]⟩ := rfl
theorem L58 : ty lay 58 = some ⟨.struct [(0, 33), (1, 33), (2, 33)], 3, 24, [.int .u64 0, .int .u64 0, .int .u64 0]⟩ := rfl
theorem L59 : ty lay 59 = some ⟨.struct [(0, 3), (1, 3), (2, 4), (3, 58), (6, 58), (9, 58), (12, 3), (13, 3)], 14, 112, [.int .i64 0, .int .i64 0, .bool false, .int .u64 0, .int .u64 0, .int .u64 0, .int .u64 0, .int .u64 0, .int .u64 0, .int .u64 0, .int .u64 0, .int .u64 0, .int .i64 0, .int .i64 0]⟩ := rfl
theorem L60 : ty lay 60 = some ⟨.struct [(0, 3), (1, 3), (2, 4), (3, 58), (6, 58), (9, 58), (12, 3), (13, 3)], 14, 112, [.int .i64 0, .int .i64 0, .bool false, .int .u64 0, .int .u64 0, .int .u64 0, .int .u64 0, .int .u64 0, .int .u64 0, .int .u64 0, .int .u64 0, .int .u64 0, .int .i64 0, .int .i64 0]⟩ := rfl
theorem L61 : ty lay 61 = some ⟨.struct [(0, 33), (1, 33)], 2, 16, [.int .u64 0, .int .u64 0]⟩ := rfl
theorem L62 : ty lay 62 = some ⟨.struct [(0, 33), (1, 33)], 2, 16, [.int .u64 0, .int .u64 0]⟩ := rfl
theorem L63 : ty lay 63 = some ⟨.struct [(0, 33), (1, 62), (3, 33)], 4, 32, [.int .u64 0, .int .u64 0, .int .u64 0, .int .u64 0]⟩ := rfl
theorem L64 : ty lay 64 = some ⟨.struct [(0, 33), (1, 62), (3, 33)], 4, 32, [.int .u64 0, .int .u64 0, .int .u64 0, .int .u64 0]⟩ := rfl
theorem L65 : ty lay 65 = some ⟨.struct [(0, 64), (4, 64), (8, 4)], 9, 72, [.int .u64 0, .int .u64 0, .int .u64 0, .int .u64 0, .int .u64 0, .int .u64 0, .int .u64 0, .int .u64 0, .bool false]⟩ := rfl
theorem L66 : ty lay 66 = some ⟨.struct [(0, 64), (4, 64), (8, 4)], 9, 72, [.int .u64 0, .int .u64 0, .int .u64 0, .int .u64 0, .int .u64 0, .int .u64 0, .int .u64 0, .int .u64 0, .bool false]⟩ := rfl
theorem L67 : ty lay 67 = some ⟨.struct [(0, 4), (1, 66), (10, 66), (19, 33), (20, 33), (21, 33)], 22, 176, [.bool false, .int .u64 0, .int .u64 0, .int .u64 0, .int .u64 0, .int .u64 0, .int .u64 0, .int .u64 0, .int .u64 0, .bool false, .int .u64 0, .int .u64 0, .int .u64 0, .int .u64 0, .int .u64 0, .int .u64 0, .int .u64 0, .int .u64 0, .bool false, .int .u64 0, .int .u64 0, .int .u64 0]⟩ := rfl
theorem L68 : ty lay 68 = some ⟨.struct [(0, 4), (1, 66), (10, 66), (19, 33), (20, 33), (21, 33)], 22, 176, [.bool false, .int .u64 0, .int .u64 0, .int .u64 0, .int .u64 0, .int .u64 0, .int .u64 0, .int .u64 0, .int .u64 0, .bool false, .int .u64 0, .int .u64 0, .int .u64 0, .int .u64 0, .int .u64 0, .int .u64 0, .int .u64 0, .int .u64 0, .bool false, .int .u64 0, .int .u64 0, .int .u64 0]⟩ := rfl
theorem L69 : ty lay 69 = some ⟨.struct [(0, 4), (1, 66), (10, 33)], 11, 88, [.bool false, .int .u64 0, .int .u64 0, .int .u64 0, .int .u64 0, .int .u64 0, .int .u64 0, .int .u64 0, .int .u64 0, .bool false, .int .u64 0]⟩ := rfl
theorem L70 : ty lay 70 = some ⟨.struct [(0, 4), (1, 66), (10, 33)], 11, 88, [.bool false, .int .u64 0, .int .u64 0, .int .u64 0, .int .u64 0, .int .u64 0, .int .u64 0, .int .u64 0, .int .u64 0, .bool false, .int .u64 0]⟩ := rfl
theorem L71 : ty lay 71 = some ⟨.struct [(0, 4), (1, 66), (10, 33)], 11, 88, [.bool false, .int .u64 0, .int .u64 0, .int .u64 0, .int .u64 0, .int .u64 0, .int .u64 0, .int .u64 0, .int .u64 0, .bool false, .int .u64 0]⟩ := rfl
theorem L72 : ty lay 72 = some ⟨.struct [(0, 4), (1, 66), (10, 33)], 11, 88, [.bool false, .int .u64 0, .int .u64 0, .int .u64 0, .int .u64 0, .int .u64 0, .int .u64 0, .int .u64 0, .int .u64 0, .bool false, .int .u64 0]⟩ := rfl
theorem L73 : ty lay 73 = some ⟨.struct [(0, 33), (1, 33), (2, 33), (3, 33), (4, 33), (5, 33)], 6, 48, [.int .u64 0, .int .u64 0, .int .u64 0, .int .u64 0, .int .u64 0, .int .u64 0]⟩ := rfl
theorem L74 : ty lay 74 = some ⟨.struct [(0, 33), (1, 33), (2, 33), (3, 33), (4, 33), (5, 33)], 6, 48, [.int .u64 0, .int .u64 0, .int .u64 0, .int .u64 0, .int .u64 0, .int .u64 0]⟩ := rfl
theorem L75 : ty lay 75 = some ⟨.struct [(0, 60), (14, 4), (15, 33), (16, 68), (38, 70), (49, 72), (60, 33), (61, 74)], 67, 536, [.int .i64 0, .int .i64 0, .bool false, .int .u64 0, .int .u64 0, .int .u64 0, .int .u64 0, .int .u64 0, .int .u64 0, .int .u64 0, .int .u64 0, .int .u64 0, .int .i64 0, .int .i64 0, .bool false, .int .u64 0, .bool false, .int .u64 0, .int .u64 0, .int .u64 0, .int .u64 0, .int .u64 0, .int .u64 0, .int .u64 0, .int .u64 0, .bool false, .int .u64 0, .int .u64 0, .int .u64 0, .int .u64 0, .int .u64 0, .int .u64 0, .int .u64 0, .int .u64 0, .bool false, .int .u64 0, .int .u64 0, .int .u64 0, .bool false, .int .u64 0, .int .u64 0, .int .u64 0, .int .u64 0, .int .u64 0, .int .u64 0, .int .u64 0, .int .u64 0, .bool false, .int .u64 0, .bool false, .int .u64 0, .int .u64 0, .int .u64 0, .int .u64 0, .int .u64 0, .int .u64 0, .int .u64 0, .int .u64 0, .bool false, .int .u64 0, .int .u64 0, .int .u64 0, .int .u64 0, .int .u64 0, .int .u64 0, .int .u64 0, .int .u64 0]⟩ := rfl
theorem L76 : ty lay 76 = some ⟨.struct [(0, 60), (14, 4), (15, 33), (16, 68), (38, 70), (49, 72), (60, 33), (61, 74)], 67, 536, [.int .i64 0, .int .i64 0, .bool false, .int .u64 0, .int .u64 0, .int .u64 0, .int .u64 0, .int .u64 0, .int .u64 0, .int .u64 0, .int .u64 0, .int .u64 0, .int .i64 0, .int .i64 0, .bool false, .int .u64 0, .bool false, .int .u64 0, .int .u64 0, .int .u64 0, .int .u64 0, .int .u64 0, .int .u64 0, .int .u64 0, .int .u64 0, .bool false, .int .u64 0, .int .u64 0, .int .u64 0, .int .u64 0, .int .u64 0, .int .u64 0, .int .u64 0, .int .u64 0, .bool false, .int .u64 0, .int .u64 0, .int .u64 0, .bool false, .int .u64 0, .int .u64 0, .int .u64 0, .int .u64 0, .int .u64 0, .int .u64 0, .int .u64 0, .int .u64 0, .bool false, .int .u64 0, .bool false, .int .u64 0, .int .u64 0, .int .u64 0, .int .u64 0, .int .u64 0, .int .u64 0, .int .u64 0, .int .u64 0, .bool false, .int .u64 0, .int .u64 0, .int .u64 0, .int .u64 0, .int .u64 0, .int .u64 0, .int .u64 0, .int .u64 0]⟩ := rfl
theorem L78 : ty lay 78 = some ⟨.fn, 1, 8, [.nilFunc]⟩ := rfl
theorem L79 : ty lay 79 = some ⟨.fn, 1, 8, [.nilFunc]⟩ := rfl
theorem L80 : ty lay 80 = some ⟨.fn, 1, 8, [.nilFunc]⟩ := rfl
theorem L81 : ty lay 81 = some ⟨.fn, 1, 8, [.nilFunc]⟩ := rfl
theorem L82 : ty lay 82 = some ⟨.fn, 1, 8, [.nilFunc]⟩ := rfl
theorem L84 : ty lay 84 = some ⟨.fn, 1, 8, [.nilFunc]⟩ := rfl
theorem L85 : ty lay 85 = some ⟨.fn, 1, 8, [.nilFunc]⟩ := rfl
theorem L86 : ty lay 86 = some ⟨.fn, 1, 8, [.nilFunc]⟩ := rfl
theorem L87 : ty lay 87 = some ⟨.slice 102, 1, 24, [.slice none 0 0]⟩ := rfl
theorem L88 : ty lay 88 = some ⟨.slice 157, 1, 24, [.slice none 0 0]⟩ := rfl
theorem L89 : ty lay 89 = some ⟨.struct [(0, 87), (1, 88)], 2, 48, [.slice none 0 0, .slice none 0 0]⟩ := rfl
theorem L90 : ty lay 90 = some ⟨.struct [(0, 87), (1, 88)], 2, 48, [.slice none 0 0, .slice none 0 0]⟩ := rfl
theorem L91 : ty lay 91 = some ⟨.fn, 1, 8, [.nilFunc]⟩ := rfl
theorem L92 : ty lay 92 = some ⟨.fn, 1, 8, [.nilFunc]⟩ := rfl
theorem L93 : ty lay 93 = some ⟨.fn, 1, 8, [.nilFunc]⟩ := rfl
theorem L95 : ty lay 95 = some ⟨.fn, 1, 8, [.nilFunc]⟩ := rfl
theorem L96 : ty lay 96 = some ⟨.fn, 1, 8, [.nilFunc]⟩ := rfl
theorem L97 : ty lay 97 = some ⟨.slice 243, 1, 24, [.slice none 0 0]⟩ := rfl
theorem L98 : ty lay 98 = some ⟨.struct [(0, 3), (1, 39), (2, 97), (3, 38), (9, 33)], 10, 88, [.int .i64 0, .slice none 0 0, .slice none 0 0, .int .u64 0, .int .i64 0, .int .u16 0, .int .u16 0, .int .u16 0, .int .u16 0, .int .u64 0]⟩ := rfl
theorem L99 : ty lay 99 = some ⟨.struct [(0, 3), (1, 39), (2, 97), (3, 38), (9, 33)], 10, 88, [.int .i64 0, .slice none 0 0, .slice none 0 0, .int .u64 0, .int .i64 0, .int .u16 0, .int .u16 0, .int .u16 0, .int .u16 0, .int .u64 0]⟩ := rfl
theorem L100 : ty lay 100 = some ⟨.ptr 169, 1, 8, [.pointer none]⟩ := rfl
theorem L101 : ty lay 101 = some ⟨.struct [(0, 29), (1, 3), (2, 3)], 3, 24, [.int .i64 0, .int .i64 0, .int .i64 0]⟩ := rfl
theorem L102 : ty lay 102 = some ⟨.struct [(0, 29), (1, 3), (2, 3)], 3, 24, [.int .i64 0, .int .i64 0, .int .i64 0]⟩ := rfl
theorem L104 : ty lay 104 = some ⟨.fn, 1, 8, [.nilFunc]⟩ := rfl
theorem L105 : ty lay 105 = some ⟨.fn, 1, 8, [.nilFunc]⟩ := rfl
theorem L106 : ty lay 106 = some ⟨.struct [(0, 33), (1, 33), (2, 33), (3, 33), (4, 33)], 5, 40, [.int .u64 0, .int .u64 0, .int .u64 0, .int .u64 0, .int .u64 0]⟩ := rfl
theorem L107 : ty lay 107 = some ⟨.struct [(0, 33), (1, 33), (2, 33), (3, 33), (4, 33)], 5, 40, [.int .u64 0, .int .u64 0, .int .u64 0, .int .u64 0, .int .u64 0]⟩ := rfl
theorem L108 : ty lay 108 = some ⟨.fn, 1, 8, [.nilFunc]⟩ := rfl
theorem L109 : ty lay 109 = some ⟨.fn, 1, 8, [.nilFunc]⟩ := rfl
theorem L110 : ty lay 110 = some ⟨.struct [(0, 3), (1, 60)], 15, 120, [.int .i64 0, .int .i64 0, .int .i64 0, .bool false, .int .u64 0, .int .u64 0, .int .u64 0, .int .u64 0, .int .u64 0, .int .u64 0, .int .u64 0, .int .u64 0, .int .u64 0, .int .i64 0, .int .i64 0]⟩ := rfl
theorem L111 : ty lay 111 = some ⟨.struct [(0, 3), (1, 60)], 15, 120, [.int .i64 0, .int .i64 0, .int .i64 0, .bool false, .int .u64 0, .int .u64 0, .int .u64 0, .int .u64 0, .int .u64 0, .int .u64 0, .int .u64 0, .int .u64 0, .int .u64 0, .int .i64 0, .int .i64 0]⟩ := rfl
theorem L112 : ty lay 112 = some ⟨.fn, 1, 8, [.nilFunc]⟩ := rfl
theorem L113 : ty lay 113 = some ⟨.map 3 126, 1, 8, [.map none]⟩ := rfl
theorem L114 : ty lay 114 = some ⟨.ptr 185, 1, 8, [.pointer none]⟩ := rfl
theorem L115 : ty lay 115 = some ⟨.fn, 1, 8, [.nilFunc]⟩ := rfl
theorem L116 : ty lay 116 = some ⟨.ptr 187, 1, 8, [.pointer none]⟩ := rfl
theorem L117 : ty lay 117 = some ⟨.fn, 1, 8, [.nilFunc]⟩ := rfl
theorem L118 : ty lay 118 = some ⟨.map 3 116, 1, 8, [.map none]⟩ := rfl
theorem L119 : ty lay 119 = some ⟨.ptr 192, 1, 8, [.pointer none]⟩ := rfl
theorem L120 : ty lay 120 = some ⟨.struct [(0, 23), (2, 53), (3, 113), (4, 119), (5, 114), (6, 118), (7, 33), (8, 33)], 9, 72, [.int .i64 0, .int .i64 0, .pointer none, .map none, .pointer none, .pointer none, .map none, .int .u64 0, .int .u64 0]⟩ := rfl
theorem L121 : ty lay 121 = some ⟨.struct [(0, 23), (2, 53), (3, 113), (4, 119), (5, 114), (6, 118), (7, 33), (8, 33)], 9, 72, [.int .i64 0, .int .i64 0, .pointer none, .map none, .pointer none, .pointer none, .map none, .int .u64 0, .int .u64 0]⟩ := rfl
theorem L122 : ty lay 122 = some ⟨.fn, 1, 8, [.nilFunc]⟩ := rfl
theorem L123 : ty lay 123 = some ⟨.fn, 1, 8, [.nilFunc]⟩ := rfl
theorem L125 : ty lay 125 = some ⟨.fn, 1, 8, [.nilFunc]⟩ := rfl
theorem L126 : ty lay 126 = some ⟨.ptr 131, 1, 8, [.pointer none]⟩ := rfl
theorem L128 : ty lay 128 = some ⟨.fn, 1, 8, [.nilFunc]⟩ := rfl
theorem L129 : ty lay 129 = some ⟨.ptr 198, 1, 8, [.pointer none]⟩ := rfl
theorem L130 : ty lay 130 = some ⟨.struct [(0, 129), (1, 60), (15, 33), (16, 68), (38, 70), (49, 72)], 60, 480, [.pointer none, .int .i64 0, .int .i64 0, .bool false, .int .u64 0, .int .u64 0, .int .u64 0, .int .u64 0, .int .u64 0, .int .u64 0, .int .u64 0, .int .u64 0, .int .u64 0, .int .i64 0, .int .i64 0, .int .u64 0, .bool false, .int .u64 0, .int .u64 0, .int .u64 0, .int .u64 0, .int .u64 0, .int .u64 0, .int .u64 0, .int .u64 0, .bool false, .int .u64 0, .int .u64 0, .int .u64 0, .int .u64 0, .int .u64 0, .int .u64 0, .int .u64 0, .int .u64 0, .bool false, .int .u64 0, .int .u64 0, .int .u64 0, .bool false, .int .u64 0, .int .u64 0, .int .u64 0, .int .u64 0, .int .u64 0, .int .u64 0, .int .u64 0, .int .u64 0, .bool false, .int .u64 0, .bool false, .int .u64 0, .int .u64 0, .int .u64 0, .int .u64 0, .int .u64 0, .int .u64 0, .int .u64 0, .int .u64 0, .bool false, .int .u64 0]⟩ := rfl
theorem L131 : ty lay 131 = some ⟨.struct [(0, 129), (1, 60), (15, 33), (16, 68), (38, 70), (49, 72)], 60, 480, [.pointer none, .int .i64 0, .int .i64 0, .bool false, .int .u64 0, .int .u64 0, .int .u64 0, .int .u64 0, .int .u64 0, .int .u64 0, .int .u64 0, .int .u64 0, .int .u64 0, .int .i64 0, .int .i64 0, .int .u64 0, .bool false, .int .u64 0, .int .u64 0, .int .u64 0, .int .u64 0, .int .u64 0, .int .u64 0, .int .u64 0, .int .u64 0, .bool false, .int .u64 0, .int .u64 0, .int .u64 0, .int .u64 0, .int .u64 0, .int .u64 0, .int .u64 0, .int .u64 0, .bool false, .int .u64 0, .int .u64 0, .int .u64 0, .bool false, .int .u64 0, .int .u64 0, .int .u64 0, .int .u64 0, .int .u64 0, .int .u64 0, .int .u64 0, .int .u64 0, .bool false, .int .u64 0, .bool false, .int .u64 0, .int .u64 0, .int .u64 0, .int .u64 0, .int .u64 0, .int .u64 0, .int .u64 0, .int .u64 0, .bool false, .int .u64 0]⟩ := rfl
theorem L132 : ty lay 132 = some ⟨.fn, 1, 8, [.nilFunc]⟩ := rfl
theorem L133 : ty lay 133 = some ⟨.fn, 1, 8, [.nilFunc]⟩ := rfl
theorem L134 : ty lay 134 = some ⟨.fn, 1, 8, [.nilFunc]⟩ := rfl
theorem L135 : ty lay 135 = some ⟨.fn, 1, 8, [.nilFunc]⟩ := rfl
theorem L136 : ty lay 136 = some ⟨.fn, 1, 8, [.nilFunc]⟩ := rfl
theorem L138 : ty lay 138 = some ⟨.fn, 1, 8, [.nilFunc]⟩ := rfl
theorem L139 : ty lay 139 = some ⟨.fn, 1, 8, [.nilFunc]⟩ := rfl
theorem L141 : ty lay 141 = some ⟨.fn, 1, 8, [.nilFunc]⟩ := rfl
theorem L142 : ty lay 142 = some ⟨.fn, 1, 8, [.nilFunc]⟩ := rfl
theorem L143 : ty lay 143 = some ⟨.fn, 1, 8, [.nilFunc]⟩ := rfl
theorem L144 : ty lay 144 = some ⟨.fn, 1, 8, [.nilFunc]⟩ := rfl
theorem L145 : ty lay 145 = some ⟨.fn, 1, 8, [.nilFunc]⟩ := rfl
theorem L147 : ty lay 147 = some ⟨.fn, 1, 8, [.nilFunc]⟩ := rfl
theorem L148 : ty lay 148 = some ⟨.fn, 1, 8, [.nilFunc]⟩ := rfl
theorem L150 : ty lay 150 = some ⟨.fn, 1, 8, [.nilFunc]⟩ := rfl
theorem L151 : ty lay 151 = some ⟨.fn, 1, 8, [.nilFunc]⟩ := rfl
theorem L152 : ty lay 152 = some ⟨.fn, 1, 8, [.nilFunc]⟩ := rfl
theorem L153 : ty lay 153 = some ⟨.fn, 1, 8, [.nilFunc]⟩ := rfl
theorem L154 : ty lay 154 = some ⟨.fn, 1, 8, [.nilFunc]⟩ := rfl
theorem L155 : ty lay 155 = some ⟨.fn, 1, 8, [.nilFunc]⟩ := rfl
theorem L156 : ty lay 156 = some ⟨.struct [(0, 3), (1, 4), (2, 4), (3, 33), (4, 33), (5, 3), (6, 38)], 12, 64, [.int .i64 0, .bool false, .bool false, .int .u64 0, .int .u64 0, .int .i64 0, .int .u64 0, .int .i64 0, .int .u16 0, .int .u16 0, .int .u16 0, .int .u16 0]⟩ := rfl
theorem L157 : ty lay 157 = some ⟨.struct [(0, 3), (1, 4), (2, 4), (3, 33), (4, 33), (5, 3), (6, 38)], 12, 64, [.int .i64 0, .bool false, .bool false, .int .u64 0, .int .u64 0, .int .i64 0, .int .u64 0, .int .i64 0, .int .u16 0, .int .u16 0, .int .u16 0, .int .u16 0]⟩ := rfl
theorem L159 : ty lay 159 = some ⟨.fn, 1, 8, [.nilFunc]⟩ := rfl
theorem L160 : ty lay 160 = some ⟨.slice 99, 1, 24, [.slice none 0 0]⟩ := rfl
theorem L161 : ty lay 161 = some ⟨.struct [(0, 23), (2, 160)], 3, 40, [.int .i64 0, .int .i64 0, .slice none 0 0]⟩ := rfl
theorem L162 : ty lay 162 = some ⟨.struct [(0, 23), (2, 160)], 3, 40, [.int .i64 0, .int .i64 0, .slice none 0 0]⟩ := rfl
theorem L163 : ty lay 163 = some ⟨.fn, 1, 8, [.nilFunc]⟩ := rfl
theorem L164 : ty lay 164 = some ⟨.fn, 1, 8, [.nilFunc]⟩ := rfl
theorem L165 : ty lay 165 = some ⟨.ptr 240, 1, 8, [.pointer none]⟩ := rfl
theorem L166 : ty lay 166 = some ⟨.ptr 246, 1, 8, [.pointer none]⟩ := rfl
theorem L167 : ty lay 167 = some ⟨.ptr 257, 1, 8, [.pointer none]⟩ := rfl
theorem L168 : ty lay 168 = some ⟨.struct [(0, 28), (1, 165), (2, 166), (3, 167), (4, 33), (5, 3)], 6, 48, [.pointer none, .pointer none, .pointer none, .pointer none, .int .u64 0, .int .i64 0]⟩ := rfl
theorem L169 : ty lay 169 = some ⟨.struct [(0, 28), (1, 165), (2, 166), (3, 167), (4, 33), (5, 3)], 6, 48, [.pointer none, .pointer none, .pointer none, .pointer none, .int .u64 0, .int .i64 0]⟩ := rfl
theorem L170 : ty lay 170 = some ⟨.fn, 1, 8, [.nilFunc]⟩ := rfl
theorem L172 : ty lay 172 = some ⟨.fn, 1, 8, [.nilFunc]⟩ := rfl
theorem L173 : ty lay 173 = some ⟨.fn, 1, 8, [.nilFunc]⟩ := rfl
theorem L174 : ty lay 174 = some ⟨.fn, 1, 8, [.nilFunc]⟩ := rfl
theorem L175 : ty lay 175 = some ⟨.fn, 1, 8, [.nilFunc]⟩ := rfl
theorem L176 : ty lay 176 = some ⟨.fn, 1, 8, [.nilFunc]⟩ := rfl
theorem L177 : ty lay 177 = some ⟨.fn, 1, 8, [.nilFunc]⟩ := rfl
theorem L178 : ty lay 178 = some ⟨.map 3 60, 1, 8, [.map none]⟩ := rfl
theorem L179 : ty lay 179 = some ⟨.struct [(0, 178)], 1, 8, [.map none]⟩ := rfl
theorem L180 : ty lay 180 = some ⟨.struct [(0, 178)], 1, 8, [.map none]⟩ := rfl
theorem L181 : ty lay 181 = some ⟨.ptr 262, 1, 8, [.pointer none]⟩ := rfl
theorem L182 : ty lay 182 = some ⟨.fn, 1, 8, [.nilFunc]⟩ := rfl
theorem L183 : ty lay 183 = some ⟨.map 3 230, 1, 8, [.map none]⟩ := rfl
theorem L184 : ty lay 184 = some ⟨.struct [(0, 181), (1, 183)], 2, 16, [.pointer none, .map none]⟩ := rfl
theorem L185 : ty lay 185 = some ⟨.struct [(0, 181), (1, 183)], 2, 16, [.pointer none, .map none]⟩ := rfl
theorem L186 : ty lay 186 = some ⟨.struct [(0, 181), (1, 183)], 2, 16, [.pointer none, .map none]⟩ := rfl
theorem L187 : ty lay 187 = some ⟨.struct [(0, 181), (1, 183)], 2, 16, [.pointer none, .map none]⟩ := rfl
theorem L188 : ty lay 188 = some ⟨.map 3 194, 1, 8, [.map none]⟩ := rfl
theorem L189 : ty lay 189 = some ⟨.map 3 3, 1, 8, [.map none]⟩ := rfl
theorem L190 : ty lay 190 = some ⟨.map 3 189, 1, 8, [.map none]⟩ := rfl
theorem L191 : ty lay 191 = some ⟨.struct [(0, 188), (1, 189), (2, 190)], 3, 24, [.map none, .map none, .map none]⟩ := rfl
theorem L192 : ty lay 192 = some ⟨.struct [(0, 188), (1, 189), (2, 190)], 3, 24, [.map none, .map none, .map none]⟩ := rfl
theorem L193 : ty lay 193 = some ⟨.struct [(0, 3), (1, 3)], 2, 16, [.int .i64 0, .int .i64 0]⟩ := rfl
theorem L194 : ty lay 194 = some ⟨.struct [(0, 3), (1, 3)], 2, 16, [.int .i64 0, .int .i64 0]⟩ := rfl
theorem L195 : ty lay 195 = some ⟨.fn, 1, 8, [.nilFunc]⟩ := rfl
theorem L196 : ty lay 196 = some ⟨.ptr 265, 1, 8, [.pointer none]⟩ := rfl
theorem L197 : ty lay 197 = some ⟨.struct [(0, 196), (1, 3), (2, 3), (3, 74)], 9, 72, [.pointer none, .int .i64 0, .int .i64 0, .int .u64 0, .int .u64 0, .int .u64 0, .int .u64 0, .int .u64 0, .int .u64 0]⟩ := rfl
theorem L198 : ty lay 198 = some ⟨.struct [(0, 196), (1, 3), (2, 3), (3, 74)], 9, 72, [.pointer none, .int .i64 0, .int .i64 0, .int .u64 0, .int .u64 0, .int .u64 0, .int .u64 0, .int .u64 0, .int .u64 0]⟩ := rfl
theorem L199 : ty lay 199 = some ⟨.fn, 1, 8, [.nilFunc]⟩ := rfl
theorem L200 : ty lay 200 = some ⟨.fn, 1, 8, [.nilFunc]⟩ := rfl
theorem L201 : ty lay 201 = some ⟨.fn, 1, 8, [.nilFunc]⟩ := rfl
theorem L202 : ty lay 202 = some ⟨.fn, 1, 8, [.nilFunc]⟩ := rfl
theorem L203 : ty lay 203 = some ⟨.fn, 1, 8, [.nilFunc]⟩ := rfl
theorem L204 : ty lay 204 = some ⟨.fn, 1, 8, [.nilFunc]⟩ := rfl
theorem L205 : ty lay 205 = some ⟨.fn, 1, 8, [.nilFunc]⟩ := rfl
theorem L206 : ty lay 206 = some ⟨.fn, 1, 8, [.nilFunc]⟩ := rfl
theorem L208 : ty lay 208 = some ⟨.fn, 1, 8, [.nilFunc]⟩ := rfl
theorem L209 : ty lay 209 = some ⟨.fn, 1, 8, [.nilFunc]⟩ := rfl
theorem L210 : ty lay 210 = some ⟨.fn, 1, 8, [.nilFunc]⟩ := rfl
theorem L211 : ty lay 211 = some ⟨.fn, 1, 8, [.nilFunc]⟩ := rfl
theorem L212 : ty lay 212 = some ⟨.fn, 1, 8, [.nilFunc]⟩ := rfl
theorem L213 : ty lay 213 = some ⟨.slice 58, 1, 24, [.slice none 0 0]⟩ := rfl
theorem L214 : ty lay 214 = some ⟨.fn, 1, 8, [.nilFunc]⟩ := rfl
theorem L215 : ty lay 215 = some ⟨.fn, 1, 8, [.nilFunc]⟩ := rfl
theorem L216 : ty lay 216 = some ⟨.fn, 1, 8, [.nilFunc]⟩ := rfl
theorem L217 : ty lay 217 = some ⟨.fn, 1, 8, [.nilFunc]⟩ := rfl
theorem L218 : ty lay 218 = some ⟨.fn, 1, 8, [.nilFunc]⟩ := rfl
theorem L219 : ty lay 219 = some ⟨.fn, 1, 8, [.nilFunc]⟩ := rfl
theorem L220 : ty lay 220 = some ⟨.fn, 1, 8, [.nilFunc]⟩ := rfl
theorem L223 : ty lay 223 = some ⟨.fn, 1, 8, [.nilFunc]⟩ := rfl
theorem L224 : ty lay 224 = some ⟨.fn, 1, 8, [.nilFunc]⟩ := rfl
theorem L225 : ty lay 225 = some ⟨.fn, 1, 8, [.nilFunc]⟩ := rfl
theorem L226 : ty lay 226 = some ⟨.fn, 1, 8, [.nilFunc]⟩ := rfl
theorem L227 : ty lay 227 = some ⟨.struct [(0, 33), (1, 3)], 2, 16, [.int .u64 0, .int .i64 0]⟩ := rfl
theorem L228 : ty lay 228 = some ⟨.struct [(0, 33), (1, 3)], 2, 16, [.int .u64 0, .int .i64 0]⟩ := rfl
theorem L229 : ty lay 229 = some ⟨.struct [(0, 228), (2, 228)], 4, 32, [.int .u64 0, .int .i64 0, .int .u64 0, .int .i64 0]⟩ := rfl
theorem L230 : ty lay 230 = some ⟨.struct [(0, 228), (2, 228)], 4, 32, [.int .u64 0, .int .i64 0, .int .u64 0, .int .i64 0]⟩ := rfl
theorem L232 : ty lay 232 = some ⟨.fn, 1, 8, [.nilFunc]⟩ := rfl
theorem L233 : ty lay 233 = some ⟨.fn, 1, 8, [.nilFunc]⟩ := rfl
theorem L234 : ty lay 234 = some ⟨.fn, 1, 8, [.nilFunc]⟩ := rfl
theorem L235 : ty lay 235 = some ⟨.fn, 1, 8, [.nilFunc]⟩ := rfl
theorem L236 : ty lay 236 = some ⟨.fn, 1, 8, [.nilFunc]⟩ := rfl
theorem L237 : ty lay 237 = some ⟨.struct [(0, 33), (1, 33), (2, 33)], 3, 24, [.int .u64 0, .int .u64 0, .int .u64 0]⟩ := rfl
theorem L238 : ty lay 238 = some ⟨.struct [(0, 33), (1, 33), (2, 33)], 3, 24, [.int .u64 0, .int .u64 0, .int .u64 0]⟩ := rfl
theorem L239 : ty lay 239 = some ⟨.struct [(0, 238), (3, 3), (4, 33)], 5, 40, [.int .u64 0, .int .u64 0, .int .u64 0, .int .i64 0, .int .u64 0]⟩ := rfl
theorem L240 : ty lay 240 = some ⟨.struct [(0, 238), (3, 3), (4, 33)], 5, 40, [.int .u64 0, .int .u64 0, .int .u64 0, .int .i64 0, .int .u64 0]⟩ := rfl
theorem L241 : ty lay 241 = some ⟨.fn, 1, 8, [.nilFunc]⟩ := rfl
theorem L242 : ty lay 242 = some ⟨.struct [(0, 36), (4, 36), (8, 3)], 9, 24, [.int .u16 0, .int .u16 0, .int .u16 0, .int .u16 0, .int .u16 0, .int .u16 0, .int .u16 0, .int .u16 0, .int .i64 0]⟩ := rfl
theorem L243 : ty lay 243 = some ⟨.struct [(0, 36), (4, 36), (8, 3)], 9, 24, [.int .u16 0, .int .u16 0, .int .u16 0, .int .u16 0, .int .u16 0, .int .u16 0, .int .u16 0, .int .u16 0, .int .i64 0]⟩ := rfl
theorem L244 : ty lay 244 = some ⟨.map 36 3, 1, 8, [.map none]⟩ := rfl
theorem L245 : ty lay 245 = some ⟨.struct [(0, 97), (1, 244), (2, 55)], 3, 56, [.slice none 0 0, .map none, .slice none 0 0]⟩ := rfl
theorem L246 : ty lay 246 = some ⟨.struct [(0, 97), (1, 244), (2, 55)], 3, 56, [.slice none 0 0, .map none, .slice none 0 0]⟩ := rfl
theorem L247 : ty lay 247 = some ⟨.fn, 1, 8, [.nilFunc]⟩ := rfl
theorem L248 : ty lay 248 = some ⟨.fn, 1, 8, [.nilFunc]⟩ := rfl
theorem L249 : ty lay 249 = some ⟨.fn, 1, 8, [.nilFunc]⟩ := rfl
theorem L250 : ty lay 250 = some ⟨.fn, 1, 8, [.nilFunc]⟩ := rfl
theorem L251 : ty lay 251 = some ⟨.fn, 1, 8, [.nilFunc]⟩ := rfl
theorem L252 : ty lay 252 = some ⟨.fn, 1, 8, [.nilFunc]⟩ := rfl
theorem L253 : ty lay 253 = some ⟨.fn, 1, 8, [.nilFunc]⟩ := rfl
theorem L254 : ty lay 254 = some ⟨.map 3 297, 1, 8, [.map none]⟩ := rfl
theorem L255 : ty lay 255 = some ⟨.map 3 107, 1, 8, [.map none]⟩ := rfl
theorem L256 : ty lay 256 = some ⟨.struct [(0, 254), (1, 255)], 2, 16, [.map none, .map none]⟩ := rfl
theorem L257 : ty lay 257 = some ⟨.struct [(0, 254), (1, 255)], 2, 16, [.map none, .map none]⟩ := rfl
theorem L259 : ty lay 259 = some ⟨.fn, 1, 8, [.nilFunc]⟩ := rfl
theorem L260 : ty lay 260 = some ⟨.ptr 292, 1, 8, [.pointer none]⟩ := rfl
theorem L261 : ty lay 261 = some ⟨.struct [(0, 260)], 1, 8, [.pointer none]⟩ := rfl
theorem L262 : ty lay 262 = some ⟨.struct [(0, 260)], 1, 8, [.pointer none]⟩ := rfl
theorem L263 : ty lay 263 = some ⟨.fn, 1, 8, [.nilFunc]⟩ := rfl
theorem L264 : ty lay 264 = some ⟨.struct [(0, 32), (1, 3), (2, 3)], 3, 40, [.slice none 0 0, .int .i64 0, .int .i64 0]⟩ := rfl
theorem L265 : ty lay 265 = some ⟨.struct [(0, 32), (1, 3), (2, 3)], 3, 40, [.slice none 0 0, .int .i64 0, .int .i64 0]⟩ := rfl
theorem L266 : ty lay 266 = some ⟨.fn, 1, 8, [.nilFunc]⟩ := rfl
theorem L267 : ty lay 267 = some ⟨.array 2 64, 8, 64, [.int .u64 0, .int .u64 0, .int .u64 0, .int .u64 0, .int .u64 0, .int .u64 0, .int .u64 0, .int .u64 0]⟩ := rfl
theorem L268 : ty lay 268 = some ⟨.fn, 1, 8, [.nilFunc]⟩ := rfl
theorem L269 : ty lay 269 = some ⟨.fn, 1, 8, [.nilFunc]⟩ := rfl
theorem L270 : ty lay 270 = some ⟨.int .u64, 1, 8, [.int .u64 0]⟩ := rfl
theorem L271 : ty lay 271 = some ⟨.fn, 1, 8, [.nilFunc]⟩ := rfl
theorem L272 : ty lay 272 = some ⟨.fn, 1, 8, [.nilFunc]⟩ := rfl
theorem L273 : ty lay 273 = some ⟨.fn, 1, 8, [.nilFunc]⟩ := rfl
theorem L274 : ty lay 274 = some ⟨.fn, 1, 8, [.nilFunc]⟩ := rfl
theorem L275 : ty lay 275 = some ⟨.fn, 1, 8, [.nilFunc]⟩ := rfl
theorem L276 : ty lay 276 = some ⟨.fn, 1, 8, [.nilFunc]⟩ := rfl
theorem L277 : ty lay 277 = some ⟨.fn, 1, 8, [.nilFunc]⟩ := rfl
theorem L278 : ty lay 278 = some ⟨.int .i64, 1, 8, [.int .i64 0]⟩ := rfl
theorem L279 : ty lay 279 = some ⟨.fn, 1, 8, [.nilFunc]⟩ := rfl
theorem L280 : ty lay 280 = some ⟨.fn, 1, 8, [.nilFunc]⟩ := rfl
theorem L281 : ty lay 281 = some ⟨.fn, 1, 8, [.nilFunc]⟩ := rfl
theorem L282 : ty lay 282 = some ⟨.slice 55, 1, 24, [.slice none 0 0]⟩ := rfl
theorem L283 : ty lay 283 = some ⟨.fn, 1, 8, [.nilFunc]⟩ := rfl
theorem L284 : ty lay 284 = some ⟨.fn, 1, 8, [.nilFunc]⟩ := rfl
theorem L285 : ty lay 285 = some ⟨.fn, 1, 8, [.nilFunc]⟩ := rfl
theorem L286 : ty lay 286 = some ⟨.fn, 1, 8, [.nilFunc]⟩ := rfl
theorem L288 : ty lay 288 = some ⟨.fn, 1, 8, [.nilFunc]⟩ := rfl
theorem L289 : ty lay 289 = some ⟨.fn, 1, 8, [.nilFunc]⟩ := rfl
theorem L290 : ty lay 290 = some ⟨.array 2 260, 2, 16, [.pointer none, .pointer none]⟩ := rfl
theorem L291 : ty lay 291 = some ⟨.struct [(0, 230), (4, 290), (6, 230), (10, 3), (11, 3)], 12, 96, [.int .u64 0, .int .i64 0, .int .u64 0, .int .i64 0, .pointer none, .pointer none, .int .u64 0, .int .i64 0, .int .u64 0, .int .i64 0, .int .i64 0, .int .i64 0]⟩ := rfl
theorem L292 : ty lay 292 = some ⟨.struct [(0, 230), (4, 290), (6, 230), (10, 3), (11, 3)], 12, 96, [.int .u64 0, .int .i64 0, .int .u64 0, .int .i64 0, .pointer none, .pointer none, .int .u64 0, .int .i64 0, .int .u64 0, .int .i64 0, .int .i64 0, .int .i64 0]⟩ := rfl
theorem L293 : ty lay 293 = some ⟨.fn, 1, 8, [.nilFunc]⟩ := rfl
theorem L294 : ty lay 294 = some ⟨.fn, 1, 8, [.nilFunc]⟩ := rfl
theorem L295 : ty lay 295 = some ⟨.fn, 1, 8, [.nilFunc]⟩ := rfl
theorem L296 : ty lay 296 = some ⟨.fn, 1, 8, [.nilFunc]⟩ := rfl
theorem L297 : ty lay 297 = some ⟨.slice 33, 1, 24, [.slice none 0 0]⟩ := rfl
theorem L299 : ty lay 299 = some ⟨.fn, 1, 8, [.nilFunc]⟩ := rfl
theorem L300 : ty lay 300 = some ⟨.fn, 1, 8, [.nilFunc]⟩ := rfl
theorem L301 : ty lay 301 = some ⟨.fn, 1, 8, [.nilFunc]⟩ := rfl
theorem L303 : ty lay 303 = some ⟨.fn, 1, 8, [.nilFunc]⟩ := rfl
theorem L304 : ty lay 304 = some ⟨.fn, 1, 8, [.nilFunc]⟩ := rfl
theorem L305 : ty lay 305 = some ⟨.fn, 1, 8, [.nilFunc]⟩ := rfl
theorem L306 : ty lay 306 = some ⟨.fn, 1, 8, [.nilFunc]⟩ := rfl
theorem L308 : ty lay 308 = some ⟨.fn, 1, 8, [.nilFunc]⟩ := rfl
theorem L309 : ty lay 309 = some ⟨.fn, 1, 8, [.nilFunc]⟩ := rfl
theorem L310 : ty lay 310 = some ⟨.fn, 1, 8, [.nilFunc]⟩ := rfl
theorem L311 : ty lay 311 = some ⟨.fn, 1, 8, [.nilFunc]⟩ := rfl
theorem L312 : ty lay 312 = some ⟨.fn, 1, 8, [.nilFunc]⟩ := rfl
theorem L313 : ty lay 313 = some ⟨.fn, 1, 8, [.nilFunc]⟩ := rfl
theorem L314 : ty lay 314 = some ⟨.fn, 1, 8, [.nilFunc]⟩ := rfl
theorem L315 : ty lay 315 = some ⟨.fn, 1, 8, [.nilFunc]⟩ := rfl
theorem L316 : ty lay 316 = some ⟨.fn, 1, 8, [.nilFunc]⟩ := rfl
theorem L317 : ty lay 317 = some ⟨.fn, 1, 8, [.nilFunc]⟩ := rfl
theorem L318 : ty lay 318 = some ⟨.fn, 1, 8, [.nilFunc]⟩ := rfl
theorem L319 : ty lay 319 = some ⟨.fn, 1, 8, [.nilFunc]⟩ := rfl
theorem L320 : ty lay 320 = some ⟨.fn, 1, 8, [.nilFunc]⟩ := rfl
theorem L321 : ty lay 321 = some ⟨.int .i64, 1, 8, [.int .i64 0]⟩ := rfl
theorem L323 : ty lay 323 = some ⟨.fn, 1, 8, [.nilFunc]⟩ := rfl
theorem L324 : ty lay 324 = some ⟨.fn, 1, 8, [.nilFunc]⟩ := rfl
theorem L325 : ty lay 325 = some ⟨.fn, 1, 8, [.nilFunc]⟩ := rfl
theorem L326 : ty lay 326 = some ⟨.fn, 1, 8, [.nilFunc]⟩ := rfl
theorem L327 : ty lay 327 = some ⟨.fn, 1, 8, [.nilFunc]⟩ := rfl
theorem L328 : ty lay 328 = some ⟨.fn, 1, 8, [.nilFunc]⟩ := rfl
theorem L329 : ty lay 329 = some ⟨.int .u32, 1, 4, [.int .u32 0]⟩ := rfl
theorem L330 : ty lay 330 = some ⟨.fn, 1, 8, [.nilFunc]⟩ := rfl
theorem L331 : ty lay 331 = some ⟨.fn, 1, 8, [.nilFunc]⟩ := rfl
theorem L332 : ty lay 332 = some ⟨.fn, 1, 8, [.nilFunc]⟩ := rfl
theorem L333 : ty lay 333 = some ⟨.fn, 1, 8, [.nilFunc]⟩ := rfl
theorem L334 : ty lay 334 = some ⟨.fn, 1, 8, [.nilFunc]⟩ := rfl
theorem L335 : ty lay 335 = some ⟨.fn, 1, 8, [.nilFunc]⟩ := rfl
theorem L337 : ty lay 337 = some ⟨.fn, 1, 8, [.nilFunc]⟩ := rfl
theorem L339 : ty lay 339 = some ⟨.fn, 1, 8, [.nilFunc]⟩ := rfl
theorem L340 : ty lay 340 = some ⟨.fn, 1, 8, [.nilFunc]⟩ := rfl
theorem L341 : ty lay 341 = some ⟨.fn, 1, 8, [.nilFunc]⟩ := rfl
theorem L342 : ty lay 342 = some ⟨.fn, 1, 8, [.nilFunc]⟩ := rfl
theorem L343 : ty lay 343 = some ⟨.fn, 1, 8, [.nilFunc]⟩ := rfl
theorem L344 : ty lay 344 = some ⟨.array 3 58, 9, 72, [.int .u64 0, .int .u64 0, .int .u64 0, .int .u64 0, .int .u64 0, .int .u64 0, .int .u64 0, .int .u64 0, .int .u64 0]⟩ := rfl
theorem L345 : ty lay 345 = some ⟨.fn, 1, 8, [.nilFunc]⟩ := rfl
theorem L346 : ty lay 346 = some ⟨.fn, 1, 8, [.nilFunc]⟩ := rfl
theorem L347 : ty lay 347 = some ⟨.fn, 1, 8, [.nilFunc]⟩ := rfl
theorem L348 : ty lay 348 = some ⟨.fn, 1, 8, [.nilFunc]⟩ := rfl
theorem L349 : ty lay 349 = some ⟨.fn, 1, 8, [.nilFunc]⟩ := rfl
theorem L350 : ty lay 350 = some ⟨.fn, 1, 8, [.nilFunc]⟩ := rfl
theorem L351 : ty lay 351 = some ⟨.fn, 1, 8, [.nilFunc]⟩ := rfl
theorem L352 : ty lay 352 = some ⟨.int .u64, 1, 8, [.int .u64 0]⟩ := rfl
theorem L353 : ty lay 353 = some ⟨.fn, 1, 8, [.nilFunc]⟩ := rfl
theorem L354 : ty lay 354 = some ⟨.fn, 1, 8, [.nilFunc]⟩ := rfl
theorem L355 : ty lay 355 = some ⟨.ptr 3, 1, 8, [.pointer none]⟩ := rfl
theorem L356 : ty lay 356 = some ⟨.fn, 1, 8, [.nilFunc]⟩ := rfl
theorem L357 : ty lay 357 = some ⟨.ptr 238, 1, 8, [.pointer none]⟩ := rfl
theorem L358 : ty lay 358 = some ⟨.fn, 1, 8, [.nilFunc]⟩ := rfl
theorem L359 : ty lay 359 = some ⟨.fn, 1, 8, [.nilFunc]⟩ := rfl
theorem L360 : ty lay 360 = some ⟨.ptr 352, 1, 8, [.pointer none]⟩ := rfl
theorem L361 : ty lay 361 = some ⟨.fn, 1, 8, [.nilFunc]⟩ := rfl
theorem L362 : ty lay 362 = some ⟨.fn, 1, 8, [.nilFunc]⟩ := rfl
theorem L363 : ty lay 363 = some ⟨.fn, 1, 8, [.nilFunc]⟩ := rfl
theorem L364 : ty lay 364 = some ⟨.fn, 1, 8, [.nilFunc]⟩ := rfl
theorem L365 : ty lay 365 = some ⟨.fn, 1, 8, [.nilFunc]⟩ := rfl
theorem L366 : ty lay 366 = some ⟨.fn, 1, 8, [.nilFunc]⟩ := rfl
theorem L367 : ty lay 367 = some ⟨.fn, 1, 8, [.nilFunc]⟩ := rfl
theorem L368 : ty lay 368 = some ⟨.fn, 1, 8, [.nilFunc]⟩ := rfl
theorem L369 : ty lay 369 = some ⟨.fn, 1, 8, [.nilFunc]⟩ := rfl
theorem L370 : ty lay 370 = some ⟨.fn, 1, 8, [.nilFunc]⟩ := rfl
theorem L378 : ty lay 378 = some ⟨.fn, 1, 8, [.nilFunc]⟩ := rfl
theorem L379 : ty lay 379 = some ⟨.ptr 5, 1, 8, [.pointer none]⟩ := rfl
theorem L382 : ty lay 382 = some ⟨.struct [(0, 12), (1, 12), (2, 329), (3, 376), (4, 5), (5, 5), (6, 377), (7, 378), (8, 379), (9, 380), (10, 381)], 11, 48, [.int .u64 0, .int .u64 0, .int .u32 0, .int .u8 0, .int .u8 0, .int .u8 0, .int .u8 0, .nilFunc, .pointer none, .int .i32 0, .int .i32 0]⟩ := rfl
theorem eq22 : EqTyOk Tryz.prog 22 [0, 0] := ⟨by kernel_rfl, by kernel_rfl, by kernel_rfl⟩
theorem eq23 : EqTyOk Tryz.prog 23 [0, 0] := ⟨by kernel_rfl, by kernel_rfl, by kernel_rfl⟩
theorem eq35 : EqTyOk Tryz.prog 35 [0, 0, 0, 0] := ⟨by kernel_rfl, by kernel_rfl, by kernel_rfl⟩
theorem eq36 : EqTyOk Tryz.prog 36 [0, 0, 0, 0] := ⟨by kernel_rfl, by kernel_rfl, by kernel_rfl⟩
theorem eq37 : EqTyOk Tryz.prog 37 [0, 0, 0, 0, 0, 0] := ⟨by kernel_rfl, by kernel_rfl, by kernel_rfl⟩
theorem eq38 : EqTyOk Tryz.prog 38 [0, 0, 0, 0, 0, 0] := ⟨by kernel_rfl, by kernel_rfl, by kernel_rfl⟩
theorem eq42 : EqTyOk Tryz.prog 42 [0, 0, 0, 0, 0, 0, 0, 1] := ⟨by kernel_rfl, by kernel_rfl, by kernel_rfl⟩
theorem eq43 : EqTyOk Tryz.prog 43 [0, 0, 0, 0, 0, 0, 0, 1] := ⟨by kernel_rfl, by kernel_rfl, by kernel_rfl⟩
theorem eq57 : EqTyOk Tryz.prog 57 [0, 0, 0] := ⟨by kernel_rfl, by kernel_rfl, by kernel_rfl⟩
theorem eq58 : EqTyOk Tryz.prog 58 [0, 0, 0] := ⟨by kernel_rfl, by kernel_rfl, by kernel_rfl⟩
theorem eq59 : EqTyOk Tryz.prog 59 [0, 0, 1, 0, 0, 0, 0, 0, 0, 0, 0, 0, 0, 0] := ⟨by kernel_rfl, by kernel_rfl, by kernel_rfl⟩
theorem eq60 : EqTyOk Tryz.prog 60 [0, 0, 1, 0, 0, 0, 0, 0, 0, 0, 0, 0, 0, 0] := ⟨by kernel_rfl, by kernel_rfl, by kernel_rfl⟩
theorem eq61 : EqTyOk Tryz.prog 61 [0, 0] := ⟨by kernel_rfl, by kernel_rfl, by kernel_rfl⟩
theorem eq62 : EqTyOk Tryz.prog 62 [0, 0] := ⟨by kernel_rfl, by kernel_rfl, by kernel_rfl⟩
theorem eq63 : EqTyOk Tryz.prog 63 [0, 0, 0, 0] := ⟨by kernel_rfl, by kernel_rfl, by kernel_rfl⟩
theorem eq64 : EqTyOk Tryz.prog 64 [0, 0, 0, 0] := ⟨by kernel_rfl, by kernel_rfl, by kernel_rfl⟩
theorem eq65 : EqTyOk Tryz.prog 65 [0, 0, 0, 0, 0, 0, 0, 0, 1] := ⟨by kernel_rfl, by kernel_rfl, by kernel_rfl⟩
theorem eq66 : EqTyOk Tryz.prog 66 [0, 0, 0, 0, 0, 0, 0, 0, 1] := ⟨by kernel_rfl, by kernel_rfl, by kernel_rfl⟩
theorem eq67 : EqTyOk Tryz.prog 67 [1, 0, 0, 0, 0, 0, 0, 0, 0, 1, 0, 0, 0, 0, 0, 0, 0, 0, 1, 0, 0, 0] := ⟨by kernel_rfl, by kernel_rfl, by kernel_rfl⟩
theorem eq68 : EqTyOk Tryz.prog 68 [1, 0, 0, 0, 0, 0, 0, 0, 0, 1, 0, 0, 0, 0, 0, 0, 0, 0, 1, 0, 0, 0] := ⟨by kernel_rfl, by kernel_rfl, by kernel_rfl⟩
theorem eq69 : EqTyOk Tryz.prog 69 [1, 0, 0, 0, 0, 0, 0, 0, 0, 1, 0] := ⟨by kernel_rfl, by kernel_rfl, by kernel_rfl⟩
theorem eq70 : EqTyOk Tryz.prog 70 [1, 0, 0, 0, 0, 0, 0, 0, 0, 1, 0] := ⟨by kernel_rfl, by kernel_rfl, by kernel_rfl⟩
theorem eq71 : EqTyOk Tryz.prog 71 [1, 0, 0, 0, 0, 0, 0, 0, 0, 1, 0] := ⟨by kernel_rfl, by kernel_rfl, by kernel_rfl⟩
theorem eq72 : EqTyOk Tryz.prog 72 [1, 0, 0, 0, 0, 0, 0, 0, 0, 1, 0] := ⟨by kernel_rfl, by kernel_rfl, by kernel_rfl⟩
theorem eq73 : EqTyOk Tryz.prog 73 [0, 0, 0, 0, 0, 0] := ⟨by kernel_rfl, by kernel_rfl, by kernel_rfl⟩
theorem eq74 : EqTyOk Tryz.prog 74 [0, 0, 0, 0, 0, 0] := ⟨by kernel_rfl, by kernel_rfl, by kernel_rfl⟩
theorem eq75 : EqTyOk Tryz.prog 75 [0, 0, 1, 0, 0, 0, 0, 0, 0, 0, 0, 0, 0, 0, 1, 0, 1, 0, 0, 0, 0, 0, 0, 0, 0, 1, 0, 0, 0, 0, 0, 0, 0, 0, 1, 0, 0, 0, 1, 0, 0, 0, 0, 0, 0, 0, 0, 1, 0, 1, 0, 0, 0, 0, 0, 0, 0, 0, 1, 0, 0, 0, 0, 0, 0, 0, 0] := ⟨by kernel_rfl, by kernel_rfl, by kernel_rfl⟩
theorem eq76 : EqTyOk Tryz.prog 76 [0, 0, 1, 0, 0, 0, 0, 0, 0, 0, 0, 0, 0, 0, 1, 0, 1, 0, 0, 0, 0, 0, 0, 0, 0, 1, 0, 0, 0, 0, 0, 0, 0, 0, 1, 0, 0, 0, 1, 0, 0, 0, 0, 0, 0, 0, 0, 1, 0, 1, 0, 0, 0, 0, 0, 0, 0, 0, 1, 0, 0, 0, 0, 0, 0, 0, 0] := ⟨by kernel_rfl, by kernel_rfl, by kernel_rfl⟩
theorem eq101 : EqTyOk Tryz.prog 101 [0, 0, 0] := ⟨by kernel_rfl, by kernel_rfl, by kernel_rfl⟩
theorem eq102 : EqTyOk Tryz.prog 102 [0, 0, 0] := ⟨by kernel_rfl, by kernel_rfl, by kernel_rfl⟩
theorem eq106 : EqTyOk Tryz.prog 106 [0, 0, 0, 0, 0] := ⟨by kernel_rfl, by kernel_rfl, by kernel_rfl⟩
theorem eq107 : EqTyOk Tryz.prog 107 [0, 0, 0, 0, 0] := ⟨by kernel_rfl, by kernel_rfl, by kernel_rfl⟩
theorem eq110 : EqTyOk Tryz.prog 110 [0, 0, 0, 1, 0, 0, 0, 0, 0, 0, 0, 0, 0, 0, 0] := ⟨by kernel_rfl, by kernel_rfl, by kernel_rfl⟩
theorem eq111 : EqTyOk Tryz.prog 111 [0, 0, 0, 1, 0, 0, 0, 0, 0, 0, 0, 0, 0, 0, 0] := ⟨by kernel_rfl, by kernel_rfl, by kernel_rfl⟩
theorem eq156 : EqTyOk Tryz.prog 156 [0, 1, 1, 0, 0, 0, 0, 0, 0, 0, 0, 0] := ⟨by kernel_rfl, by kernel_rfl, by kernel_rfl⟩
theorem eq157 : EqTyOk Tryz.prog 157 [0, 1, 1, 0, 0, 0, 0, 0, 0, 0, 0, 0] := ⟨by kernel_rfl, by kernel_rfl, by kernel_rfl⟩
theorem eq193 : EqTyOk Tryz.prog 193 [0, 0] := ⟨by kernel_rfl, by kernel_rfl, by kernel_rfl⟩
theorem eq194 : EqTyOk Tryz.prog 194 [0, 0] := ⟨by kernel_rfl, by kernel_rfl, by kernel_rfl⟩
theorem eq227 : EqTyOk Tryz.prog 227 [0, 0] := ⟨by kernel_rfl, by kernel_rfl, by kernel_rfl⟩
theorem eq228 : EqTyOk Tryz.prog 228 [0, 0] := ⟨by kernel_rfl, by kernel_rfl, by kernel_rfl⟩
theorem eq229 : EqTyOk Tryz.prog 229 [0, 0, 0, 0] := ⟨by kernel_rfl, by kernel_rfl, by kernel_rfl⟩
theorem eq230 : EqTyOk Tryz.prog 230 [0, 0, 0, 0] := ⟨by kernel_rfl, by kernel_rfl, by kernel_rfl⟩
theorem eq237 : EqTyOk Tryz.prog 237 [0, 0, 0] := ⟨by kernel_rfl, by kernel_rfl, by kernel_rfl⟩
theorem eq238 : EqTyOk Tryz.prog 238 [0, 0, 0] := ⟨by kernel_rfl, by kernel_rfl, by kernel_rfl⟩
theorem eq239 : EqTyOk Tryz.prog 239 [0, 0, 0, 0, 0] := ⟨by kernel_rfl, by kernel_rfl, by kernel_rfl⟩
theorem eq240 : EqTyOk Tryz.prog 240 [0, 0, 0, 0, 0] := ⟨by kernel_rfl, by kernel_rfl, by kernel_rfl⟩
theorem eq242 : EqTyOk Tryz.prog 242 [0, 0, 0, 0, 0, 0, 0, 0, 0] := ⟨by kernel_rfl, by kernel_rfl, by kernel_rfl⟩
theorem eq243 : EqTyOk Tryz.prog 243 [0, 0, 0, 0, 0, 0, 0, 0, 0] := ⟨by kernel_rfl, by kernel_rfl, by kernel_rfl⟩
theorem eq267 : EqTyOk Tryz.prog 267 [0, 0, 0, 0, 0, 0, 0, 0] := ⟨by kernel_rfl, by kernel_rfl, by kernel_rfl⟩
theorem eq344 : EqTyOk Tryz.prog 344 [0, 0, 0, 0, 0, 0, 0, 0, 0] := ⟨by kernel_rfl, by kernel_rfl, by kernel_rfl⟩
def eqs : EqT := [(22, [0, 0]), (23, [0, 0]), (35, [0, 0, 0, 0]), (36, [0, 0, 0, 0]), (37, [0, 0, 0, 0, 0, 0]), (38, [0, 0, 0, 0, 0, 0]), (42, [0, 0, 0, 0, 0, 0, 0, 1]), (43, [0, 0, 0, 0, 0, 0, 0, 1]), (57, [0, 0, 0]), (58, [0, 0, 0]), (59, [0, 0, 1, 0, 0, 0, 0, 0, 0, 0, 0, 0, 0, 0]), (60, [0, 0, 1, 0, 0, 0, 0, 0, 0, 0, 0, 0, 0, 0]), (61, [0, 0]), (62, [0, 0]), (63, [0, 0, 0, 0]), (64, [0, 0, 0, 0]), (65, [0, 0, 0, 0, 0, 0, 0, 0, 1]), (66, [0, 0, 0, 0, 0, 0, 0, 0, 1]), (67, [1, 0, 0, 0, 0, 0, 0, 0, 0, 1, 0, 0, 0, 0, 0, 0, 0, 0, 1, 0, 0, 0]), (68, [1, 0, 0, 0, 0, 0, 0, 0, 0, 1, 0, 0, 0, 0, 0, 0, 0, 0, 1, 0, 0, 0]), (69, [1, 0, 0, 0, 0, 0, 0, 0, 0, 1, 0]), (70, [1, 0, 0, 0, 0, 0, 0, 0, 0, 1, 0]), (71, [1, 0, 0, 0, 0, 0, 0, 0, 0, 1, 0]), (72, [1, 0, 0, 0, 0, 0, 0, 0, 0, 1, 0]), (73, [0, 0, 0, 0, 0, 0]), (74, [0, 0, 0, 0, 0, 0]), (75, [0, 0, 1, 0, 0, 0, 0, 0, 0, 0, 0, 0, 0, 0, 1, 0, 1, 0, 0, 0, 0, 0, 0, 0, 0, 1, 0, 0, 0, 0, 0, 0, 0, 0, 1, 0, 0, 0, 1, 0, 0, 0, 0, 0, 0, 0, 0, 1, 0, 1, 0, 0, 0, 0, 0, 0, 0, 0, 1, 0, 0, 0, 0, 0, 0, 0, 0]), (76, [0, 0, 1, 0, 0, 0, 0, 0, 0, 0, 0, 0, 0, 0, 1, 0, 1, 0, 0, 0, 0, 0, 0, 0, 0, 1, 0, 0, 0, 0, 0, 0, 0, 0, 1, 0, 0, 0, 1, 0, 0, 0, 0, 0, 0, 0, 0, 1, 0, 1, 0, 0, 0, 0, 0, 0, 0, 0, 1, 0, 0, 0, 0, 0, 0, 0, 0]), (101, [0, 0, 0]), (102, [0, 0, 0]), (106, [0, 0, 0, 0, 0]), (107, [0, 0, 0, 0, 0]), (110, [0, 0, 0, 1, 0, 0, 0, 0, 0, 0, 0, 0, 0, 0, 0]), (111, [0, 0, 0, 1, 0, 0, 0, 0, 0, 0, 0, 0, 0, 0, 0]), (156, [0, 1, 1, 0, 0, 0, 0, 0, 0, 0, 0, 0]), (157, [0, 1, 1, 0, 0, 0, 0, 0, 0, 0, 0, 0]), (193, [0, 0]), (194, [0, 0]), (227, [0, 0]), (228, [0, 0]), (229, [0, 0, 0, 0]), (230, [0, 0, 0, 0]), (237, [0, 0, 0]), (238, [0, 0, 0]), (239, [0, 0, 0, 0, 0]), (240, [0, 0, 0, 0, 0]), (242, [0, 0, 0, 0, 0, 0, 0, 0, 0]), (243, [0, 0, 0, 0, 0, 0, 0, 0, 0]), (267, [0, 0, 0, 0, 0, 0, 0, 0]), (344, [0, 0, 0, 0, 0, 0, 0, 0, 0])]
theorem eqs_ok : EqOk Tryz.prog eqs := .cons eq22 <| .cons eq23 <| .cons eq35 <| .cons eq36 <| .cons eq37 <| .cons eq38 <| .cons eq42 <| .cons eq43 <| .cons eq57 <| .cons eq58 <| .cons eq59 <| .cons eq60 <| .cons eq61 <| .cons eq62 <| .cons eq63 <| .cons eq64 <| .cons eq65 <| .cons eq66 <| .cons eq67 <| .cons eq68 <| .cons eq69 <| .cons eq70 <| .cons eq71 <| .cons eq72 <| .cons eq73 <| .cons eq74 <| .cons eq75 <| .cons eq76 <| .cons eq101 <| .cons eq102 <| .cons eq106 <| .cons eq107 <| .cons eq110 <| .cons eq111 <| .cons eq156 <| .cons eq157 <| .cons eq193 <| .cons eq194 <| .cons eq227 <| .cons eq228 <| .cons eq229 <| .cons eq230 <| .cons eq237 <| .cons eq238 <| .cons eq239 <| .cons eq240 <| .cons eq242 <| .cons eq243 <| .cons eq267 <| .cons eq344 <| .nil _
theorem E22 : eqty eqs 22 = some [0, 0] := rfl
theorem E23 : eqty eqs 23 = some [0, 0] := rfl
theorem E35 : eqty eqs 35 = some [0, 0, 0, 0] := rfl
theorem E36 : eqty eqs 36 = some [0, 0, 0, 0] := rfl
theorem E37 : eqty eqs 37 = some [0, 0, 0, 0, 0, 0] := rfl
theorem E38 : eqty eqs 38 = some [0, 0, 0, 0, 0, 0] := rfl
theorem E42 : eqty eqs 42 = some [0, 0, 0, 0, 0, 0, 0, 1] := rfl
theorem E43 : eqty eqs 43 = some [0, 0, 0, 0, 0, 0, 0, 1] := rfl
theorem E57 : eqty eqs 57 = some [0, 0, 0] := rfl
theorem E58 : eqty eqs 58 = some [0, 0, 0] := rfl
theorem E59 : eqty eqs 59 = some [0, 0, 1, 0, 0, 0, 0, 0, 0, 0, 0, 0, 0, 0] := rfl
theorem E60 : eqty eqs 60 = some [0, 0, 1, 0, 0, 0, 0, 0, 0, 0, 0, 0, 0, 0] := rfl
theorem E61 : eqty eqs 61 = some [0, 0] := rfl
theorem E62 : eqty eqs 62 = some [0, 0] := rfl
theorem E63 : eqty eqs 63 = some [0, 0, 0, 0] := rfl
theorem E64 : eqty eqs 64 = some [0, 0, 0, 0] := rfl
theorem E65 : eqty eqs 65 = some [0, 0, 0, 0, 0, 0, 0, 0, 1] := rfl
theorem E66 : eqty eqs 66 = some [0, 0, 0, 0, 0, 0, 0, 0, 1] := rfl
theorem E67 : eqty eqs 67 = some [1, 0, 0, 0, 0, 0, 0, 0, 0, 1, 0, 0, 0, 0, 0, 0, 0, 0, 1, 0, 0, 0] := rfl
theorem E68 : eqty eqs 68 = some [1, 0, 0, 0, 0, 0, 0, 0, 0, 1, 0, 0, 0, 0, 0, 0, 0, 0, 1, 0, 0, 0] := rfl
theorem E69 : eqty eqs 69 = some [1, 0, 0, 0, 0, 0, 0, 0, 0, 1, 0] := rfl
theorem E70 : eqty eqs 70 = some [1, 0, 0, 0, 0, 0, 0, 0, 0, 1, 0] := rfl
theorem E71 : eqty eqs 71 = some [1, 0, 0, 0, 0, 0, 0, 0, 0, 1, 0] := rfl
theorem E72 : eqty eqs 72 = some [1, 0, 0, 0, 0, 0, 0, 0, 0, 1, 0] := rfl
theorem E73 : eqty eqs 73 = some [0, 0, 0, 0, 0, 0] := rfl
theorem E74 : eqty eqs 74 = some [0, 0, 0, 0, 0, 0] := rfl
theorem E75 : eqty eqs 75 = some [0, 0, 1, 0, 0, 0, 0, 0, 0, 0, 0, 0, 0, 0, 1, 0, 1, 0, 0, 0, 0, 0, 0, 0, 0, 1, 0, 0, 0, 0, 0, 0, 0, 0, 1, 0, 0, 0, 1, 0, 0, 0, 0, 0, 0, 0, 0, 1, 0, 1, 0, 0, 0, 0, 0, 0, 0, 0, 1, 0, 0, 0, 0, 0, 0, 0, 0] := rfl
theorem E76 : eqty eqs 76 = some [0, 0, 1, 0, 0, 0, 0, 0, 0, 0, 0, 0, 0, 0, 1, 0, 1, 0, 0, 0, 0, 0, 0, 0, 0, 1, 0, 0, 0, 0, 0, 0, 0, 0, 1, 0, 0, 0, 1, 0, 0, 0, 0, 0, 0, 0, 0, 1, 0, 1, 0, 0, 0, 0, 0, 0, 0, 0, 1, 0, 0, 0, 0, 0, 0, 0, 0] := rfl
theorem E101 : eqty eqs 101 = some [0, 0, 0] := rfl
theorem E102 : eqty eqs 102 = some [0, 0, 0] := rfl
theorem E106 : eqty eqs 106 = some [0, 0, 0, 0, 0] := rfl
theorem E107 : eqty eqs 107 = some [0, 0, 0, 0, 0] := rfl
theorem E110 : eqty eqs 110 = some [0, 0, 0, 1, 0, 0, 0, 0, 0, 0, 0, 0, 0, 0, 0] := rfl
theorem E111 : eqty eqs 111 = some [0, 0, 0, 1, 0, 0, 0, 0, 0, 0, 0, 0, 0, 0, 0] := rfl
theorem E156 : eqty eqs 156 = some [0, 1, 1, 0, 0, 0, 0, 0, 0, 0, 0, 0] := rfl
theorem E157 : eqty eqs 157 = some [0, 1, 1, 0, 0, 0, 0, 0, 0, 0, 0, 0] := rfl
theorem E193 : eqty eqs 193 = some [0, 0] := rfl
theorem E194 : eqty eqs 194 = some [0, 0] := rfl
theorem E227 : eqty eqs 227 = some [0, 0] := rfl
theorem E228 : eqty eqs 228 = some [0, 0] := rfl
theorem E229 : eqty eqs 229 = some [0, 0, 0, 0] := rfl
theorem E230 : eqty eqs 230 = some [0, 0, 0, 0] := rfl
theorem E237 : eqty eqs 237 = some [0, 0, 0] := rfl
theorem E238 : eqty eqs 238 = some [0, 0, 0] := rfl
theorem E239 : eqty eqs 239 = some [0, 0, 0, 0, 0] := rfl
theorem E240 : eqty eqs 240 = some [0, 0, 0, 0, 0] := rfl
theorem E242 : eqty eqs 242 = some [0, 0, 0, 0, 0, 0, 0, 0, 0] := rfl
theorem E243 : eqty eqs 243 = some [0, 0, 0, 0, 0, 0, 0, 0, 0] := rfl
theorem E267 : eqty eqs 267 = some [0, 0, 0, 0, 0, 0, 0, 0] := rfl
theorem E344 : eqty eqs 344 = some [0, 0, 0, 0, 0, 0, 0, 0, 0] := rfl
def cx : Cx := ⟨lay, eqs⟩
theorem cx_ok : CxOk Tryz.prog cx := ⟨lay_ok, eqs_ok⟩
/-- floodgate/floodgatelaw24.CoreOrder -/
theorem fn3 : FnOk Tryz.prog 3 := fun args w => Tryz.call3 args w
/-- floodgate/floodgatelaw24.CoreTotals -/
theorem fn4 : FnOk Tryz.prog 4 := fun args w => Tryz.call4 args w
/-- floodgate/floodgatelaw24.CoreRefused -/
theorem fn5 : FnOk Tryz.prog 5 := fun args w => Tryz.call5 args w
/-- floodgate/floodgatelaw24.CoreNil -/
theorem fn6 : FnOk Tryz.prog 6 := fun args w => Tryz.call6 args w
/-- floodgate/floodgatelaw39.ReplayAhead -/
theorem fn7 : FnOk Tryz.prog 7 := fun args w => Tryz.call7 args w
/-- floodgate/floodgatelaw39.ReplayDiffers -/
theorem fn8 : FnOk Tryz.prog 8 := fun args w => Tryz.call8 args w
/-- floodgate/floodgatelaw28.TopNil -/
theorem fn9 : FnOk Tryz.prog 9 := fun args w => Tryz.call9 args w
/-- floodgate/floodgatelaw24.few -/
theorem fn10 : FnOk Tryz.prog 10 := fun args w => Tryz.call10 args w
/-- floodgate/floodgateref24.May -/
theorem fn11 : FnOk Tryz.prog 11 := fun args w => Tryz.call11 args w
/-- floodgate/floodgatelaw24.six -/
theorem fn12 : FnOk Tryz.prog 12 := fun args w => Tryz.call12 args w
/-- floodgate/core.New -/
theorem fn13 : FnOk Tryz.prog 13 := fun args w => Tryz.call13 args w
/-- (*floodgate/core.Sched).Take -/
theorem fn14 : FnOk Tryz.prog 14 := fun args w => Tryz.call14 args w
/-- (*floodgate/core.Sched).Put -/
theorem fn15 : FnOk Tryz.prog 15 := fun args w => Tryz.call15 args w
/-- (*floodgate/core.Sched).Change -/
theorem fn16 : FnOk Tryz.prog 16 := fun args w => Tryz.call16 args w
/-- (*floodgate/core.Sched).Packets -/
theorem fn17 : FnOk Tryz.prog 17 := fun args w => Tryz.call17 args w
/-- floodgate/floodgateref11.Same -/
theorem fn18 : FnOk Tryz.prog 18 := fun args w => Tryz.call18 args w
/-- floodgate/floodgatelaw24.made -/
theorem fn19 : FnOk Tryz.prog 19 := fun args w => Tryz.call19 args w
/-- (*floodgate/core.Sched).Tree -/
theorem fn20 : FnOk Tryz.prog 20 := fun args w => Tryz.call20 args w
/-- (*floodgate/hier.Tree).IDs -/
theorem fn21 : FnOk Tryz.prog 21 := fun args w => Tryz.call21 args w
/-- (*floodgate/core.Sched).Get -/
theorem fn22 : FnOk Tryz.prog 22 := fun args w => Tryz.call22 args w
/-- (*floodgate/hier.Tree).Children -/
theorem fn23 : FnOk Tryz.prog 23 := fun args w => Tryz.call23 args w
/-- (*floodgate/core.Sched).Due -/
theorem fn24 : FnOk Tryz.prog 24 := fun args w => Tryz.call24 args w
/-- (*floodgate/core.Sched).Accepted -/
theorem fn25 : FnOk Tryz.prog 25 := fun args w => Tryz.call25 args w
/-- (*floodgate/core.Sched).Backlog -/
theorem fn26 : FnOk Tryz.prog 26 := fun args w => Tryz.call26 args w
/-- (*floodgate/core.Sched).Config -/
theorem fn27 : FnOk Tryz.prog 27 := fun args w => Tryz.call27 args w
/-- floodgate/floodgatelaw39.two -/
theorem fn28 : FnOk Tryz.prog 28 := fun args w => Tryz.call28 args w
/-- floodgate/replay.Ahead -/
theorem fn29 : FnOk Tryz.prog 29 := fun args w => Tryz.call29 args w
/-- floodgate/floodgateref28.Alike -/
theorem fn30 : FnOk Tryz.prog 30 := fun args w => Tryz.call30 args w
/-- floodgate/floodgateref39.Ahead -/
theorem fn31 : FnOk Tryz.prog 31 := fun args w => Tryz.call31 args w
/-- floodgate/replay.Differ -/
theorem fn32 : FnOk Tryz.prog 32 := fun args w => Tryz.call32 args w
/-- floodgate/floodgateref39.Apart -/
theorem fn33 : FnOk Tryz.prog 33 := fun args w => Tryz.call33 args w
/-- (*floodgate/top.System).Do -/
theorem fn34 : FnOk Tryz.prog 34 := fun args w => Tryz.call34 args w
/-- (*floodgate/top.System).Class -/
theorem fn35 : FnOk Tryz.prog 35 := fun args w => Tryz.call35 args w
/-- (*floodgate/top.System).Backlog -/
theorem fn36 : FnOk Tryz.prog 36 := fun args w => Tryz.call36 args w
/-- (*floodgate/top.System).Clock -/
theorem fn37 : FnOk Tryz.prog 37 := fun args w => Tryz.call37 args w
/-- (*floodgate/top.System).Until -/
theorem fn38 : FnOk Tryz.prog 38 := fun args w => Tryz.call38 args w
/-- (*floodgate/top.System).Next -/
theorem fn39 : FnOk Tryz.prog 39 := fun args w => Tryz.call39 args w
/-- (*floodgate/top.System).Packets -/
theorem fn40 : FnOk Tryz.prog 40 := fun args w => Tryz.call40 args w
/-- (*floodgate/top.System).Classes -/
theorem fn41 : FnOk Tryz.prog 41 := fun args w => Tryz.call41 args w
/-- (*floodgate/top.System).Rules -/
theorem fn42 : FnOk Tryz.prog 42 := fun args w => Tryz.call42 args w
/-- (*floodgate/top.System).Row -/
theorem fn43 : FnOk Tryz.prog 43 := fun args w => Tryz.call43 args w
/-- (*floodgate/top.System).Accepted -/
theorem fn44 : FnOk Tryz.prog 44 := fun args w => Tryz.call44 args w
/-- (*floodgate/top.System).Config -/
theorem fn45 : FnOk Tryz.prog 45 := fun args w => Tryz.call45 args w
/-- floodgate/floodgatelaw28.two -/
theorem fn46 : FnOk Tryz.prog 46 := fun args w => Tryz.call46 args w
/-- floodgate/floodgatelaw24.six$1 -/
theorem fn47 : FnOk Tryz.prog 47 := fun args w => Tryz.call47 args w
/-- floodgate/hier.New -/
theorem fn48 : FnOk Tryz.prog 48 := fun args w => Tryz.call48 args w
/-- floodgate/eltree.New -/
theorem fn49 : FnOk Tryz.prog 49 := fun args w => Tryz.call49 args w
/-- floodgate/vtree.New -/
theorem fn50 : FnOk Tryz.prog 50 := fun args w => Tryz.call50 args w
/-- floodgate/active.New -/
theorem fn51 : FnOk Tryz.prog 51 := fun args w => Tryz.call51 args w
/-- (*floodgate/core.Sched).told -/
theorem fn52 : FnOk Tryz.prog 52 := fun args w => Tryz.call52 args w
/-- (*floodgate/core.Sched).choose -/
theorem fn53 : FnOk Tryz.prog 53 := fun args w => Tryz.call53 args w
/-- (*floodgate/pktq.Queue).Pop -/
theorem fn54 : FnOk Tryz.prog 54 := fun args w => Tryz.call54 args w
/-- (*floodgate/hier.Tree).Up -/
theorem fn55 : FnOk Tryz.prog 55 := fun args w => Tryz.call55 args w
/-- floodgate/share.Took -/
theorem fn56 : FnOk Tryz.prog 56 := fun args w => Tryz.call56 args w
/-- floodgate/upper.Took -/
theorem fn57 : FnOk Tryz.prog 57 := fun args w => Tryz.call57 args w
/-- (*floodgate/core.Sched).due -/
theorem fn58 : FnOk Tryz.prog 58 := fun args w => Tryz.call58 args w
/-- (*floodgate/pktq.Queue).Len -/
theorem fn59 : FnOk Tryz.prog 59 := fun args w => Tryz.call59 args w
/-- (*floodgate/core.Sched).sleep -/
theorem fn60 : FnOk Tryz.prog 60 := fun args w => Tryz.call60 args w
/-- (*floodgate/core.Sched).settle -/
theorem fn61 : FnOk Tryz.prog 61 := fun args w => Tryz.call61 args w
/-- (*floodgate/pktq.Queue).Push -/
theorem fn62 : FnOk Tryz.prog 62 := fun args w => Tryz.call62 args w
/-- (*floodgate/core.Sched).wake -/
theorem fn63 : FnOk Tryz.prog 63 := fun args w => Tryz.call63 args w
/-- floodgate/trans.Apply -/
theorem fn64 : FnOk Tryz.prog 64 := fun args w => Tryz.call64 args w
/-- floodgate/trans.Touched -/
theorem fn65 : FnOk Tryz.prog 65 := fun args w => Tryz.call65 args w
/-- slices.ContainsFunc[[]int,int] -/
theorem fn66 : FnOk Tryz.prog 66 := fun args w => Tryz.call66 args w
/-- (*floodgate/core.Sched).busy -/
theorem fn67 : FnOk Tryz.prog 67 := fun args w => Tryz.call67 args w
/-- floodgate/trans.Reals -/
theorem fn68 : FnOk Tryz.prog 68 := fun args w => Tryz.call68 args w
/-- (*floodgate/core.Sched).loaded -/
theorem fn69 : FnOk Tryz.prog 69 := fun args w => Tryz.call69 args w
/-- (*floodgate/hier.Tree).Get -/
theorem fn70 : FnOk Tryz.prog 70 := fun args w => Tryz.call70 args w
/-- floodgate/core.fresh -/
theorem fn71 : FnOk Tryz.prog 71 := fun args w => Tryz.call71 args w
/-- (*floodgate/active.Set).On -/
theorem fn72 : FnOk Tryz.prog 72 := fun args w => Tryz.call72 args w
/-- (*floodgate/pktq.Queue).Packets -/
theorem fn73 : FnOk Tryz.prog 73 := fun args w => Tryz.call73 args w
/-- (*floodgate/hier.Tree).Copy -/
theorem fn74 : FnOk Tryz.prog 74 := fun args w => Tryz.call74 args w
/-- (*floodgate/hier.Tree).which -/
theorem fn75 : FnOk Tryz.prog 75 := fun args w => Tryz.call75 args w
/-- (*floodgate/hier.Tree).IDs$1 -/
theorem fn76 : FnOk Tryz.prog 76 := fun args w => Tryz.call76 args w
/-- (*floodgate/active.Set).Is -/
theorem fn77 : FnOk Tryz.prog 77 := fun args w => Tryz.call77 args w
/-- (*floodgate/core.Sched).fit -/
theorem fn78 : FnOk Tryz.prog 78 := fun args w => Tryz.call78 args w
/-- (*floodgate/pktq.Queue).Counts -/
theorem fn79 : FnOk Tryz.prog 79 := fun args w => Tryz.call79 args w
/-- (*floodgate/hier.Tree).Children$1 -/
theorem fn80 : FnOk Tryz.prog 80 := fun args w => Tryz.call80 args w
/-- (*floodgate/eltree.Table).Next -/
theorem fn81 : FnOk Tryz.prog 81 := fun args w => Tryz.call81 args w
/-- (*floodgate/vtree.Table).Fit -/
theorem fn82 : FnOk Tryz.prog 82 := fun args w => Tryz.call82 args w
/-- (*floodgate/pktq.Queue).Bytes -/
theorem fn83 : FnOk Tryz.prog 83 := fun args w => Tryz.call83 args w
/-- floodgate/replay.First -/
theorem fn84 : FnOk Tryz.prog 84 := fun args w => Tryz.call84 args w
/-- floodgate/floodgateref28.Same -/
theorem fn85 : FnOk Tryz.prog 85 := fun args w => Tryz.call85 args w
/-- slices.Equal[[]floodgate/api.Event,floodgate/api.Event] -/
theorem fn86 : FnOk Tryz.prog 86 := fun args w => Tryz.call86 args w
/-- floodgate/replay.of -/
theorem fn87 : FnOk Tryz.prog 87 := fun args w => Tryz.call87 args w
/-- floodgate/floodgateref39.of -/
theorem fn88 : FnOk Tryz.prog 88 := fun args w => Tryz.call88 args w
/-- (*floodgate/top.System).Do$1 -/
theorem fn89 : FnOk Tryz.prog 89 := fun args w => Tryz.call89 args w
/-- (*floodgate/link.Link).Free -/
theorem fn90 : FnOk Tryz.prog 90 := fun args w => Tryz.call90 args w
/-- floodgate/match.New -/
theorem fn91 : FnOk Tryz.prog 91 := fun args w => Tryz.call91 args w
/-- (*floodgate/top.System).packet -/
theorem fn92 : FnOk Tryz.prog 92 := fun args w => Tryz.call92 args w
/-- (*floodgate/top.System).advance -/
theorem fn93 : FnOk Tryz.prog 93 := fun args w => Tryz.call93 args w
/-- (*floodgate/link.Link).Until -/
theorem fn94 : FnOk Tryz.prog 94 := fun args w => Tryz.call94 args w
/-- floodgate/wake.Next -/
theorem fn95 : FnOk Tryz.prog 95 := fun args w => Tryz.call95 args w
/-- (*floodgate/match.Table).Rules -/
theorem fn96 : FnOk Tryz.prog 96 := fun args w => Tryz.call96 args w
/-- (*floodgate/stats.Stats).Row -/
theorem fn97 : FnOk Tryz.prog 97 := fun args w => Tryz.call97 args w
/-- floodgate/top.Run -/
theorem fn98 : FnOk Tryz.prog 98 := fun args w => Tryz.call98 args w
/-- floodgate/floodgatelaw28.script -/
theorem fn99 : FnOk Tryz.prog 99 := fun args w => Tryz.call99 args w
/-- floodgate/avl.New -/
theorem fn100 : FnOk Tryz.prog 100 := fun args w => Tryz.call100 args w
/-- floodgate/spec.Shares -/
theorem fn101 : FnOk Tryz.prog 101 := fun args w => Tryz.call101 args w
/-- (*floodgate/eltree.Table).Pick -/
theorem fn102 : FnOk Tryz.prog 102 := fun args w => Tryz.call102 args w
/-- (*floodgate/vtree.Table).Pick -/
theorem fn103 : FnOk Tryz.prog 103 := fun args w => Tryz.call103 args w
/-- (*floodgate/ring.Ring[floodgate/api.Packet]).Pop -/
theorem fn104 : FnOk Tryz.prog 104 := fun args w => Tryz.call104 args w
/-- floodgate/share.Time -/
theorem fn105 : FnOk Tryz.prog 105 := fun args w => Tryz.call105 args w
/-- floodgate/lines.Reach -/
theorem fn106 : FnOk Tryz.prog 106 := fun args w => Tryz.call106 args w
/-- floodgate/wide.Mul -/
theorem fn107 : FnOk Tryz.prog 107 := fun args w => Tryz.call107 args w
/-- floodgate/spec.Real -/
theorem fn108 : FnOk Tryz.prog 108 := fun args w => Tryz.call108 args w
/-- floodgate/real.Took -/
theorem fn109 : FnOk Tryz.prog 109 := fun args w => Tryz.call109 args w
/-- (*floodgate/pktq.Queue).Head -/
theorem fn110 : FnOk Tryz.prog 110 := fun args w => Tryz.call110 args w
/-- floodgate/real.Passed -/
theorem fn111 : FnOk Tryz.prog 111 := fun args w => Tryz.call111 args w
/-- (*floodgate/eltree.Table).Set -/
theorem fn112 : FnOk Tryz.prog 112 := fun args w => Tryz.call112 args w
/-- (*floodgate/eltree.Table).Drop -/
theorem fn113 : FnOk Tryz.prog 113 := fun args w => Tryz.call113 args w
/-- (*floodgate/ring.Ring[floodgate/api.Packet]).Len -/
theorem fn114 : FnOk Tryz.prog 114 := fun args w => Tryz.call114 args w
/-- (*floodgate/active.Set).Off -/
theorem fn115 : FnOk Tryz.prog 115 := fun args w => Tryz.call115 args w
/-- (*floodgate/vtree.Table).Drop -/
theorem fn116 : FnOk Tryz.prog 116 := fun args w => Tryz.call116 args w
/-- (*floodgate/vtree.Table).Len -/
theorem fn117 : FnOk Tryz.prog 117 := fun args w => Tryz.call117 args w
/-- (*floodgate/vtree.Table).Set -/
theorem fn118 : FnOk Tryz.prog 118 := fun args w => Tryz.call118 args w
/-- (*floodgate/ring.Ring[floodgate/api.Packet]).Push -/
theorem fn119 : FnOk Tryz.prog 119 := fun args w => Tryz.call119 args w
/-- floodgate/real.Wake -/
theorem fn120 : FnOk Tryz.prog 120 := fun args w => Tryz.call120 args w
/-- (*floodgate/vtree.Table).Low -/
theorem fn121 : FnOk Tryz.prog 121 := fun args w => Tryz.call121 args w
/-- floodgate/share.Wake -/
theorem fn122 : FnOk Tryz.prog 122 := fun args w => Tryz.call122 args w
/-- floodgate/upper.Wake -/
theorem fn123 : FnOk Tryz.prog 123 := fun args w => Tryz.call123 args w
/-- floodgate/trans.one -/
theorem fn124 : FnOk Tryz.prog 124 := fun args w => Tryz.call124 args w
/-- floodgate/admit.Fits -/
theorem fn125 : FnOk Tryz.prog 125 := fun args w => Tryz.call125 args w
/-- (*floodgate/hier.Tree).Reals -/
theorem fn126 : FnOk Tryz.prog 126 := fun args w => Tryz.call126 args w
/-- slices.Concat[[]int,int] -/
theorem fn127 : FnOk Tryz.prog 127 := fun args w => Tryz.call127 args w
/-- slices.Sort[[]int,int] -/
theorem fn128 : FnOk Tryz.prog 128 := fun args w => Tryz.call128 args w
/-- slices.Compact[[]int,int] -/
theorem fn129 : FnOk Tryz.prog 129 := fun args w => Tryz.call129 args w
/-- slices.IndexFunc[[]int,int] -/
theorem fn130 : FnOk Tryz.prog 130 := fun args w => Tryz.call130 args w
/-- (*floodgate/core.Sched).busy$1 -/
theorem fn131 : FnOk Tryz.prog 131 := fun args w => Tryz.call131 args w
/-- slices.Contains[[]int,int] -/
theorem fn132 : FnOk Tryz.prog 132 := fun args w => Tryz.call132 args w
/-- floodgate/trans.Reals$1 -/
theorem fn133 : FnOk Tryz.prog 133 := fun args w => Tryz.call133 args w
/-- slices.DeleteFunc[[]int,int] -/
theorem fn134 : FnOk Tryz.prog 134 := fun args w => Tryz.call134 args w
/-- (*floodgate/hier.Tree).Leaves -/
theorem fn135 : FnOk Tryz.prog 135 := fun args w => Tryz.call135 args w
/-- (*floodgate/core.Sched).loaded$1 -/
theorem fn136 : FnOk Tryz.prog 136 := fun args w => Tryz.call136 args w
/-- floodgate/pktq.New -/
theorem fn137 : FnOk Tryz.prog 137 := fun args w => Tryz.call137 args w
/-- (*floodgate/ring.Ring[floodgate/api.Packet]).At -/
theorem fn138 : FnOk Tryz.prog 138 := fun args w => Tryz.call138 args w
/-- maps.Clone[map[int]floodgate/api.Class,int,floodgate/api.Class] -/
theorem fn139 : FnOk Tryz.prog 139 := fun args w => Tryz.call139 args w
/-- floodgate/upper.Inner -/
theorem fn140 : FnOk Tryz.prog 140 := fun args w => Tryz.call140 args w
/-- (*floodgate/eltree.Table).Len -/
theorem fn141 : FnOk Tryz.prog 141 := fun args w => Tryz.call141 args w
/-- (*floodgate/avl.Tree).Least -/
theorem fn142 : FnOk Tryz.prog 142 := fun args w => Tryz.call142 args w
/-- (*floodgate/avl.Tree).Below -/
theorem fn143 : FnOk Tryz.prog 143 := fun args w => Tryz.call143 args w
/-- slices.DeleteFunc[[]floodgate/api.Event,floodgate/api.Event] -/
theorem fn144 : FnOk Tryz.prog 144 := fun args w => Tryz.call144 args w
/-- slices.Clone[[]floodgate/api.Event,floodgate/api.Event] -/
theorem fn145 : FnOk Tryz.prog 145 := fun args w => Tryz.call145 args w
/-- floodgate/replay.of$1 -/
theorem fn146 : FnOk Tryz.prog 146 := fun args w => Tryz.call146 args w
/-- slices.Clone[[]floodgate/api.Rule,floodgate/api.Rule] -/
theorem fn147 : FnOk Tryz.prog 147 := fun args w => Tryz.call147 args w
/-- floodgate/match.under -/
theorem fn148 : FnOk Tryz.prog 148 := fun args w => Tryz.call148 args w
/-- floodgate/match.whole -/
theorem fn149 : FnOk Tryz.prog 149 := fun args w => Tryz.call149 args w
/-- (*floodgate/match.Table).Find -/
theorem fn150 : FnOk Tryz.prog 150 := fun args w => Tryz.call150 args w
/-- (*floodgate/stats.Stats).Came -/
theorem fn151 : FnOk Tryz.prog 151 := fun args w => Tryz.call151 args w
/-- (*floodgate/top.System).pump -/
theorem fn152 : FnOk Tryz.prog 152 := fun args w => Tryz.call152 args w
/-- floodgate/bound.Least -/
theorem fn153 : FnOk Tryz.prog 153 := fun args w => Tryz.call153 args w
/-- floodgate/wake.greatest[uint64] -/
theorem fn154 : FnOk Tryz.prog 154 := fun args w => Tryz.call154 args w
/-- floodgate/top.New -/
theorem fn155 : FnOk Tryz.prog 155 := fun args w => Tryz.call155 args w
/-- floodgate/spec.has -/
theorem fn156 : FnOk Tryz.prog 156 := fun args w => Tryz.call156 args w
/-- (*floodgate/avl.Tree).First -/
theorem fn157 : FnOk Tryz.prog 157 := fun args w => Tryz.call157 args w
/-- (*floodgate/ring.Ring[floodgate/api.Packet]).place -/
theorem fn158 : FnOk Tryz.prog 158 := fun args w => Tryz.call158 args w
/-- floodgate/share.last -/
theorem fn159 : FnOk Tryz.prog 159 := fun args w => Tryz.call159 args w
/-- floodgate/lines.all -/
theorem fn160 : FnOk Tryz.prog 160 := fun args w => Tryz.call160 args w
/-- floodgate/line.Reach -/
theorem fn161 : FnOk Tryz.prog 161 := fun args w => Tryz.call161 args w
/-- (floodgate/real.Leaf).headed -/
theorem fn162 : FnOk Tryz.prog 162 := fun args w => Tryz.call162 args w
/-- (*floodgate/avl.Tree).Insert -/
theorem fn163 : FnOk Tryz.prog 163 := fun args w => Tryz.call163 args w
/-- (*floodgate/avl.Tree).Delete -/
theorem fn164 : FnOk Tryz.prog 164 := fun args w => Tryz.call164 args w
/-- (*floodgate/ring.Ring[floodgate/api.Packet]).Room -/
theorem fn165 : FnOk Tryz.prog 165 := fun args w => Tryz.call165 args w
/-- floodgate/real.Wake$1 -/
theorem fn166 : FnOk Tryz.prog 166 := fun args w => Tryz.call166 args w
/-- floodgate/real.units -/
theorem fn167 : FnOk Tryz.prog 167 := fun args w => Tryz.call167 args w
/-- floodgate/lines.Meet -/
theorem fn168 : FnOk Tryz.prog 168 := fun args w => Tryz.call168 args w
/-- floodgate/lines.Start -/
theorem fn169 : FnOk Tryz.prog 169 := fun args w => Tryz.call169 args w
/-- floodgate/lines.Ready -/
theorem fn170 : FnOk Tryz.prog 170 := fun args w => Tryz.call170 args w
/-- floodgate/curve.Of -/
theorem fn171 : FnOk Tryz.prog 171 := fun args w => Tryz.call171 args w
/-- (*floodgate/hier.Tree).Add -/
theorem fn172 : FnOk Tryz.prog 172 := fun args w => Tryz.call172 args w
/-- (*floodgate/hier.Tree).Set -/
theorem fn173 : FnOk Tryz.prog 173 := fun args w => Tryz.call173 args w
/-- floodgate/trans.one$1 -/
theorem fn174 : FnOk Tryz.prog 174 := fun args w => Tryz.call174 args w
/-- (*floodgate/hier.Tree).Del -/
theorem fn175 : FnOk Tryz.prog 175 := fun args w => Tryz.call175 args w
/-- floodgate/admit.may -/
theorem fn176 : FnOk Tryz.prog 176 := fun args w => Tryz.call176 args w
/-- floodgate/admit.Full -/
theorem fn177 : FnOk Tryz.prog 177 := fun args w => Tryz.call177 args w
/-- slices.Grow[[]int,int] -/
theorem fn178 : FnOk Tryz.prog 178 := fun args w => Tryz.call178 args w
/-- slices.pdqsortOrdered[int] -/
theorem fn179 : FnOk Tryz.prog 179 := fun args w => Tryz.call179 args w
/-- math/bits.Len -/
theorem fn180 : FnOk Tryz.prog 180 := fun args w => Tryz.call180 args w
/-- slices.Index[[]int,int] -/
theorem fn181 : FnOk Tryz.prog 181 := fun args w => Tryz.call181 args w
/-- (*floodgate/hier.Tree).Leaves$1 -/
theorem fn182 : FnOk Tryz.prog 182 := fun args w => Tryz.call182 args w
/-- floodgate/ring.New[floodgate/api.Packet] -/
theorem fn183 : FnOk Tryz.prog 183 := fun args w => Tryz.call183 args w
/-- (*floodgate/avl.Tree).Len -/
theorem fn185 : FnOk Tryz.prog 185 := fun args w => Tryz.call185 args w
/-- (*floodgate/avl.Tree).Below$1 -/
theorem fn186 : FnOk Tryz.prog 186 := fun args w => Tryz.call186 args w
/-- floodgate/avl.better -/
theorem fn187 : FnOk Tryz.prog 187 := fun args w => Tryz.call187 args w
/-- slices.IndexFunc[[]floodgate/api.Event,floodgate/api.Event] -/
theorem fn188 : FnOk Tryz.prog 188 := fun args w => Tryz.call188 args w
/-- floodgate/match.Matches -/
theorem fn189 : FnOk Tryz.prog 189 := fun args w => Tryz.call189 args w
/-- (*floodgate/link.Link).Send -/
theorem fn190 : FnOk Tryz.prog 190 := fun args w => Tryz.call190 args w
/-- (*floodgate/stats.Stats).Went -/
theorem fn191 : FnOk Tryz.prog 191 := fun args w => Tryz.call191 args w
/-- cmp.Less[uint64] -/
theorem fn192 : FnOk Tryz.prog 192 := fun args w => Tryz.call192 args w
/-- floodgate/link.New -/
theorem fn193 : FnOk Tryz.prog 193 := fun args w => Tryz.call193 args w
/-- floodgate/stats.New -/
theorem fn194 : FnOk Tryz.prog 194 := fun args w => Tryz.call194 args w
/-- floodgate/avl.has -/
theorem fn195 : FnOk Tryz.prog 195 := fun args w => Tryz.call195 args w
/-- floodgate/wide.Compare -/
theorem fn196 : FnOk Tryz.prog 196 := fun args w => Tryz.call196 args w
/-- floodgate/wide.Sub -/
theorem fn197 : FnOk Tryz.prog 197 := fun args w => Tryz.call197 args w
/-- floodgate/ratio.Ceil -/
theorem fn198 : FnOk Tryz.prog 198 := fun args w => Tryz.call198 args w
/-- (*floodgate/avl.Tree).find -/
theorem fn199 : FnOk Tryz.prog 199 := fun args w => Tryz.call199 args w
/-- floodgate/avl.change -/
theorem fn200 : FnOk Tryz.prog 200 := fun args w => Tryz.call200 args w
/-- (*floodgate/avl.Tree).Insert$1 -/
theorem fn201 : FnOk Tryz.prog 201 := fun args w => Tryz.call201 args w
/-- (*floodgate/avl.node).learn -/
theorem fn202 : FnOk Tryz.prog 202 := fun args w => Tryz.call202 args w
/-- floodgate/avl.without -/
theorem fn203 : FnOk Tryz.prog 203 := fun args w => Tryz.call203 args w
/-- floodgate/line.Lower -/
theorem fn204 : FnOk Tryz.prog 204 := fun args w => Tryz.call204 args w
/-- floodgate/wide.Add -/
theorem fn205 : FnOk Tryz.prog 205 := fun args w => Tryz.call205 args w
/-- floodgate/spec.Right -/
theorem fn206 : FnOk Tryz.prog 206 := fun args w => Tryz.call206 args w
/-- (*floodgate/hier.Tree).shares -/
theorem fn207 : FnOk Tryz.prog 207 := fun args w => Tryz.call207 args w
/-- (*floodgate/hier.Tree).Depth -/
theorem fn208 : FnOk Tryz.prog 208 := fun args w => Tryz.call208 args w
/-- (*floodgate/hier.Tree).Set$1 -/
theorem fn209 : FnOk Tryz.prog 209 := fun args w => Tryz.call209 args w
/-- slices.ContainsFunc[[]floodgate/api.Curve,floodgate/api.Curve] -/
theorem fn210 : FnOk Tryz.prog 210 := fun args w => Tryz.call210 args w
/-- floodgate/admit.may$1 -/
theorem fn211 : FnOk Tryz.prog 211 := fun args w => Tryz.call211 args w
/-- floodgate/curve.Right -/
theorem fn212 : FnOk Tryz.prog 212 := fun args w => Tryz.call212 args w
/-- floodgate/sum.Knees -/
theorem fn213 : FnOk Tryz.prog 213 := fun args w => Tryz.call213 args w
/-- slices.IndexFunc[[]uint64,uint64] -/
theorem fn214 : FnOk Tryz.prog 214 := fun args w => Tryz.call214 args w
/-- floodgate/admit.Full$1 -/
theorem fn215 : FnOk Tryz.prog 215 := fun args w => Tryz.call215 args w
/-- floodgate/admit.above -/
theorem fn216 : FnOk Tryz.prog 216 := fun args w => Tryz.call216 args w
/-- floodgate/sum.Service -/
theorem fn217 : FnOk Tryz.prog 217 := fun args w => Tryz.call217 args w
/-- floodgate/sum.Slope -/
theorem fn218 : FnOk Tryz.prog 218 := fun args w => Tryz.call218 args w
/-- slices.insertionSortOrdered[int] -/
theorem fn219 : FnOk Tryz.prog 219 := fun args w => Tryz.call219 args w
/-- slices.heapSortOrdered[int] -/
theorem fn220 : FnOk Tryz.prog 220 := fun args w => Tryz.call220 args w
/-- slices.breakPatternsOrdered[int] -/
theorem fn221 : FnOk Tryz.prog 221 := fun args w => Tryz.call221 args w
/-- slices.choosePivotOrdered[int] -/
theorem fn222 : FnOk Tryz.prog 222 := fun args w => Tryz.call222 args w
/-- slices.reverseRangeOrdered[int] -/
theorem fn223 : FnOk Tryz.prog 223 := fun args w => Tryz.call223 args w
/-- slices.partialInsertionSortOrdered[int] -/
theorem fn224 : FnOk Tryz.prog 224 := fun args w => Tryz.call224 args w
/-- cmp.Less[int] -/
theorem fn225 : FnOk Tryz.prog 225 := fun args w => Tryz.call225 args w
/-- slices.partitionEqualOrdered[int] -/
theorem fn226 : FnOk Tryz.prog 226 := fun args w => Tryz.call226 args w
/-- slices.partitionOrdered[int] -/
theorem fn227 : FnOk Tryz.prog 227 := fun args w => Tryz.call227 args w
/-- math/bits.Len32 -/
theorem fn228 : FnOk Tryz.prog 228 := fun args w => Tryz.call228 args w
/-- math/bits.Len64 -/
theorem fn229 : FnOk Tryz.prog 229 := fun args w => Tryz.call229 args w
/-- floodgate/avl.many -/
theorem fn230 : FnOk Tryz.prog 230 := fun args w => Tryz.call230 args w
/-- floodgate/rank.Compare -/
theorem fn231 : FnOk Tryz.prog 231 := fun args w => Tryz.call231 args w
/-- floodgate/packet.May -/
theorem fn232 : FnOk Tryz.prog 232 := fun args w => Tryz.call232 args w
/-- floodgate/packet.Ticks -/
theorem fn233 : FnOk Tryz.prog 233 := fun args w => Tryz.call233 args w
/-- (*floodgate/link.Counts).add -/
theorem fn234 : FnOk Tryz.prog 234 := fun args w => Tryz.call234 args w
/-- cmp.isNaN[uint64] -/
theorem fn235 : FnOk Tryz.prog 235 := fun args w => Tryz.call235 args w
/-- floodgate/wide.sub -/
theorem fn236 : FnOk Tryz.prog 236 := fun args w => Tryz.call236 args w
/-- floodgate/wide.Div -/
theorem fn237 : FnOk Tryz.prog 237 := fun args w => Tryz.call237 args w
/-- floodgate/wide.Of -/
theorem fn238 : FnOk Tryz.prog 238 := fun args w => Tryz.call238 args w
/-- floodgate/ratio.narrow -/
theorem fn239 : FnOk Tryz.prog 239 := fun args w => Tryz.call239 args w
/-- floodgate/avl.side -/
theorem fn240 : FnOk Tryz.prog 240 := fun args w => Tryz.call240 args w
/-- floodgate/avl.balance -/
theorem fn241 : FnOk Tryz.prog 241 := fun args w => Tryz.call241 args w
/-- floodgate/avl.high -/
theorem fn242 : FnOk Tryz.prog 242 := fun args w => Tryz.call242 args w
/-- floodgate/line.At -/
theorem fn243 : FnOk Tryz.prog 243 := fun args w => Tryz.call243 args w
/-- floodgate/wide.add -/
theorem fn244 : FnOk Tryz.prog 244 := fun args w => Tryz.call244 args w
/-- floodgate/spec.from -/
theorem fn245 : FnOk Tryz.prog 245 := fun args w => Tryz.call245 args w
/-- floodgate/spec.Capped -/
theorem fn246 : FnOk Tryz.prog 246 := fun args w => Tryz.call246 args w
/-- slices.IndexFunc[[]floodgate/api.Curve,floodgate/api.Curve] -/
theorem fn247 : FnOk Tryz.prog 247 := fun args w => Tryz.call247 args w
/-- slices.Sort[[]uint64,uint64] -/
theorem fn248 : FnOk Tryz.prog 248 := fun args w => Tryz.call248 args w
/-- slices.Compact[[]uint64,uint64] -/
theorem fn249 : FnOk Tryz.prog 249 := fun args w => Tryz.call249 args w
/-- floodgate/admit.times -/
theorem fn250 : FnOk Tryz.prog 250 := fun args w => Tryz.call250 args w
/-- floodgate/sum.over -/
theorem fn251 : FnOk Tryz.prog 251 := fun args w => Tryz.call251 args w
/-- floodgate/sum.Service$1 -/
theorem fn252 : FnOk Tryz.prog 252 := fun args w => Tryz.call252 args w
/-- floodgate/curve.Service -/
theorem fn253 : FnOk Tryz.prog 253 := fun args w => Tryz.call253 args w
/-- floodgate/sum.Slope$1 -/
theorem fn254 : FnOk Tryz.prog 254 := fun args w => Tryz.call254 args w
/-- slices.siftDownOrdered[int] -/
theorem fn255 : FnOk Tryz.prog 255 := fun args w => Tryz.call255 args w
/-- slices.nextPowerOfTwo -/
theorem fn256 : FnOk Tryz.prog 256 := fun args w => Tryz.call256 args w
/-- (*slices.xorshift).Next -/
theorem fn257 : FnOk Tryz.prog 257 := fun args w => Tryz.call257 args w
/-- slices.medianAdjacentOrdered[int] -/
theorem fn258 : FnOk Tryz.prog 258 := fun args w => Tryz.call258 args w
/-- slices.medianOrdered[int] -/
theorem fn259 : FnOk Tryz.prog 259 := fun args w => Tryz.call259 args w
/-- cmp.isNaN[int] -/
theorem fn260 : FnOk Tryz.prog 260 := fun args w => Tryz.call260 args w
/-- floodgate/packet.fits -/
theorem fn261 : FnOk Tryz.prog 261 := fun args w => Tryz.call261 args w
/-- floodgate/avl.turn -/
theorem fn262 : FnOk Tryz.prog 262 := fun args w => Tryz.call262 args w
/-- slices.pdqsortOrdered[uint64] -/
theorem fn263 : FnOk Tryz.prog 263 := fun args w => Tryz.call263 args w
/-- slices.order2Ordered[int] -/
theorem fn264 : FnOk Tryz.prog 264 := fun args w => Tryz.call264 args w
/-- slices.insertionSortOrdered[uint64] -/
theorem fn265 : FnOk Tryz.prog 265 := fun args w => Tryz.call265 args w
/-- slices.heapSortOrdered[uint64] -/
theorem fn266 : FnOk Tryz.prog 266 := fun args w => Tryz.call266 args w
/-- slices.breakPatternsOrdered[uint64] -/
theorem fn267 : FnOk Tryz.prog 267 := fun args w => Tryz.call267 args w
/-- slices.choosePivotOrdered[uint64] -/
theorem fn268 : FnOk Tryz.prog 268 := fun args w => Tryz.call268 args w
/-- slices.reverseRangeOrdered[uint64] -/
theorem fn269 : FnOk Tryz.prog 269 := fun args w => Tryz.call269 args w
/-- slices.partialInsertionSortOrdered[uint64] -/
theorem fn270 : FnOk Tryz.prog 270 := fun args w => Tryz.call270 args w
/-- slices.partitionEqualOrdered[uint64] -/
theorem fn271 : FnOk Tryz.prog 271 := fun args w => Tryz.call271 args w
/-- slices.partitionOrdered[uint64] -/
theorem fn272 : FnOk Tryz.prog 272 := fun args w => Tryz.call272 args w
/-- slices.siftDownOrdered[uint64] -/
theorem fn273 : FnOk Tryz.prog 273 := fun args w => Tryz.call273 args w
/-- slices.medianAdjacentOrdered[uint64] -/
theorem fn274 : FnOk Tryz.prog 274 := fun args w => Tryz.call274 args w
/-- slices.medianOrdered[uint64] -/
theorem fn275 : FnOk Tryz.prog 275 := fun args w => Tryz.call275 args w
/-- slices.order2Ordered[uint64] -/
theorem fn276 : FnOk Tryz.prog 276 := fun args w => Tryz.call276 args w
attribute [go_sem] cx L1 L2 L3 L4 L5 L9 L12 L17 L20 L21 L22 L23 L24 L25 L26 L27 L28 L29 L31 L32 L33 L34 L35 L36 L37 L38 L39 L40 L41 L42 L43 L45 L46 L48 L49 L50 L51 L52 L53 L54 L55 L56 L57 L58 L59 L60 L61 L62 L63 L64 L65 L66 L67 L68 L69 L70 L71 L72 L73 L74 L75 L76 L78 L79 L80 L81 L82 L84 L85 L86 L87 L88 L89 L90 L91 L92 L93 L95 L96 L97 L98 L99 L100 L101 L102 L104 L105 L106 L107 L108 L109 L110 L111 L112 L113 L114 L115 L116 L117 L118 L119 L120 L121 L122 L123 L125 L126 L128 L129 L130 L131 L132 L133 L134 L135 L136 L138 L139 L141 L142 L143 L144 L145 L147 L148 L150 L151 L152 L153 L154 L155 L156 L157 L159 L160 L161 L162 L163 L164 L165 L166 L167 L168 L169 L170 L172 L173 L174 L175 L176 L177 L178 L179 L180 L181 L182 L183 L184 L185 L186 L187 L188 L189 L190 L191 L192 L193 L194 L195 L196 L197 L198 L199 L200 L201 L202 L203 L204 L205 L206 L208 L209 L210 L211 L212 L213 L214 L215 L216 L217 L218 L219 L220 L223 L224 L225 L226 L227 L228 L229 L230 L232 L233 L234 L235 L236 L237 L238 L239 L240 L241 L242 L243 L244 L245 L246 L247 L248 L249 L250 L251 L252 L253 L254 L255 L256 L257 L259 L260 L261 L262 L263 L264 L265 L266 L267 L268 L269 L270 L271 L272 L273 L274 L275 L276 L277 L278 L279 L280 L281 L282 L283 L284 L285 L286 L288 L289 L290 L291 L292 L293 L294 L295 L296 L297 L299 L300 L301 L303 L304 L305 L306 L308 L309 L310 L311 L312 L313 L314 L315 L316 L317 L318 L319 L320 L321 L323 L324 L325 L326 L327 L328 L329 L330 L331 L332 L333 L334 L335 L337 L339 L340 L341 L342 L343 L344 L345 L346 L347 L348 L349 L350 L351 L352 L353 L354 L355 L356 L357 L358 L359 L360 L361 L362 L363 L364 L365 L366 L367 L368 L369 L370 L378 L379 L382 E22 E23 E35 E36 E37 E38 E42 E43 E57 E58 E59 E60 E61 E62 E63 E64 E65 E66 E67 E68 E69 E70 E71 E72 E73 E74 E75 E76 E101 E102 E106 E107 E110 E111 E156 E157 E193 E194 E227 E228 E229 E230 E237 E238 E239 E240 E242 E243 E267 E344
end Go.Fg.X
namespace Go.Fg
set_option linter.unusedSimpArgs false
set_option linter.unusedVariables false
open Go.RowKit (Below)

/-- Whatever cells of type t are trodden, they read ens enc a, for an a that may be. -/
def Rd (P : Program) (t : TypeId) {α : Type} (ok : α → Prop) (enc : α → List D) : Prop :=
  ∀ {H : Type} {en : TypeId × Value → H} {w : World} {base : Nat} {held : Bool} (m : Nat) (cs : List Value) (x : DataW H × List MemPlace), DataW.trod en P w base (fun _ => true) held m t cs = some x →
    ∃ a, ok a ∧ (enc a).length = cs.length ∧ ∀ j, j < cs.length → Cl (fun _ => True) w (nth (enc a) j) (nthV cs j)
theorem Rd.int {P : Program} {t : TypeId} (k : IntKind) (ht : P.underlying t = some (.int k)) : Rd P t (fun n : Int => (Lit.int k n).wf = true) (fun n => [.raw (.int k n)]) := by
  intro H en w base held m cs x h
  obtain ⟨n, rfl, _, hw⟩ := DataW.trod_int ht h
  refine ⟨n, hw, rfl, fun j hj => ?_⟩
  obtain rfl : j = 0 := by simpa using hj
  exact .raw _
theorem Rd.bool {P : Program} {t : TypeId} (ht : P.underlying t = some .bool) : Rd P t (fun _ : Bool => True) (fun n => [.raw (.bool n)]) := by
  intro H en w base held m cs x h
  obtain ⟨n, rfl, _⟩ := DataW.trod_bool ht h
  refine ⟨n, trivial, rfl, fun j hj => ?_⟩
  obtain rfl : j = 0 := by simpa using hj
  exact .raw _
theorem Rd.str {P : Program} {t : TypeId} (ht : P.underlying t = some .string) : Rd P t (fun s : ByteArray => s.size ≤ maxLen) (fun n => [.raw (.string n)]) := by
  intro H en w base held m cs x h
  obtain ⟨n, rfl, _, hw⟩ := DataW.trod_string ht h
  refine ⟨n, hw, rfl, fun j hj => ?_⟩
  obtain rfl : j = 0 := by simpa using hj
  exact .raw _
theorem Rd.map {P : Program} {t : TypeId} {α β : Type} {ok : α → Prop} {enc : α → List D} (r : Rd P t ok enc) (g : α → β) {ok' : β → Prop} {enc' : β → List D} (he : ∀ a, enc' (g a) = enc a) (ho : ∀ a, ok a → ok' (g a)) : Rd P t ok' enc' := by
  intro H en w base held m cs x h
  obtain ⟨a, h1, h2, h3⟩ := r m cs x h
  exact ⟨g a, ho a h1, by rw [he]; exact h2, by rw [he]; exact h3⟩
/-- The fields of a struct, from the cell 'off' on. -/
def RdF (P : Program) (fs : List Field) (off tot : Nat) {α : Type} (ok : α → Prop) (enc : α → List D) : Prop :=
  ∀ {H : Type} {en : TypeId × Value → H} {w : World} {base : Nat} {held : Bool} (m : Nat) (cs : List Value), cs.length = tot →
    (∀ f ∈ fs, ∃ x, DataW.trod en P w base (fun _ => true) held m f.type ((cs.drop f.offset).take (P.cellsOf f.type)) = some x) →
    ∃ a, ok a ∧ off + (enc a).length = tot ∧ ∀ j, off + j < tot → Cl (fun _ => True) w (nth (enc a) j) (nthV cs (off + j))
theorem RdF.nil {P : Program} {tot : Nat} : RdF P [] tot tot (fun _ : Unit => True) (fun _ => []) := by
  intro H en w base held m cs hl h
  exact ⟨(), trivial, rfl, fun j hj => by omega⟩
theorem RdF.cons {P : Program} {f : Field} {fs : List Field} {off off' tot : Nat} {α β : Type} {ok : α → Prop} {enc : α → List D} {ok' : β → Prop} {enc' : β → List D} (r : Rd P f.type ok enc) (rs : RdF P fs off' tot ok' enc')
    (ho : f.offset = off) (hc : off + P.cellsOf f.type = off') (ht : off' ≤ tot) : RdF P (f :: fs) off tot (fun ab : α × β => ok ab.1 ∧ ok' ab.2) (fun ab => enc ab.1 ++ enc' ab.2) := by
  intro H en w base held m cs hl h
  obtain ⟨x, hx⟩ := h f (by simp)
  obtain ⟨a, a1, a2, a3⟩ := r m _ x hx
  obtain ⟨b, b1, b2, b3⟩ := rs m cs hl fun g hg => h g (by simp [hg])
  have hlen : ((cs.drop f.offset).take (P.cellsOf f.type)).length = P.cellsOf f.type := by simp; omega
  rw [hlen] at a2 a3
  refine ⟨(a, b), ⟨a1, b1⟩, by simp; omega, fun j hj => ?_⟩
  by_cases h1 : j < P.cellsOf f.type
  · have := a3 j h1
    have e1 : nth (enc a ++ enc' b) j = nth (enc a) j := nth_append_lt (by omega)
    have e2 : nthV ((cs.drop f.offset).take (P.cellsOf f.type)) j = nthV cs (off + j) := by
      simp only [nthV, List.getD_eq_getElem?_getD, List.getElem?_take, if_pos h1, List.getElem?_drop, ho]
    show Cl _ w (nth (enc a ++ enc' b) j) _
    rw [e1, ← e2]; exact this
  · have e1 : nth (enc a ++ enc' b) j = nth (enc' b) (j - P.cellsOf f.type) := by rw [nth_append_ge (by omega), a2]
    have := b3 (j - P.cellsOf f.type) (by omega)
    show Cl _ w (nth (enc a ++ enc' b) j) _
    rw [e1, show off + j = off' + (j - P.cellsOf f.type) by omega]; exact this
theorem Rd.struct {P : Program} {t : TypeId} {fs : Array Field} {tot : Nat} {α : Type} {ok : α → Prop} {enc : α → List D} (ht : P.underlying t = some (.struct fs)) (hc : P.cellsOf t = tot) (r : RdF P fs.toList 0 tot ok enc) : Rd P t ok enc := by
  intro H en w base held m cs x h
  obtain ⟨xs, m', rfl, _, hl, hxl, hf⟩ := DataW.trod_struct ht h
  obtain ⟨a, a1, a2, a3⟩ := r m' cs (by omega) fun f hf' => by
    obtain ⟨i, hi⟩ := List.getElem?_of_mem hf'
    have hi' : fs[i]? = some f := by simpa using hi
    have hlt : i < xs.length := by rw [hxl]; exact (Array.getElem?_eq_some_iff.1 hi').1
    exact ⟨xs[i], by rw [hf i f hi']; exact List.getElem?_eq_getElem hlt⟩
  exact ⟨a, a1, by omega, fun j hj => by have := a3 j (by omega); rwa [Nat.zero_add] at this⟩
/-- The elements of an array, from the i-th on. -/
def RdA (P : Program) (e : TypeId) (i n : Nat) {α : Type} (ok : α → Prop) (enc : α → List D) : Prop :=
  ∀ {H : Type} {en : TypeId × Value → H} {w : World} {base : Nat} {held : Bool} (m : Nat) (cs : List Value), cs.length = n * P.cellsOf e →
    (∀ k, k < n → ∃ x, DataW.trod en P w base (fun _ => true) held m e ((cs.drop (k * P.cellsOf e)).take (P.cellsOf e)) = some x) →
    ∃ a, ok a ∧ i * P.cellsOf e + (enc a).length = n * P.cellsOf e ∧ ∀ j, i * P.cellsOf e + j < n * P.cellsOf e → Cl (fun _ => True) w (nth (enc a) j) (nthV cs (i * P.cellsOf e + j))
theorem RdA.nil {P : Program} {e : TypeId} {n : Nat} : RdA P e n n (fun _ : Unit => True) (fun _ => []) := by
  intro H en w base held m cs hl h
  exact ⟨(), trivial, rfl, fun j hj => by omega⟩
theorem RdA.cons {P : Program} {e : TypeId} {i n : Nat} {α β : Type} {ok : α → Prop} {enc : α → List D} {ok' : β → Prop} {enc' : β → List D} (hi : i < n) (r : Rd P e ok enc) (rs : RdA P e (i + 1) n ok' enc') :
    RdA P e i n (fun ab : α × β => ok ab.1 ∧ ok' ab.2) (fun ab => enc ab.1 ++ enc' ab.2) := by
  intro H en w base held m cs hl h
  obtain ⟨x, hx⟩ := h i hi
  obtain ⟨a, a1, a2, a3⟩ := r m _ x hx
  obtain ⟨b, b1, b2, b3⟩ := rs m cs hl h
  have hm := Nat.mul_le_mul_right (P.cellsOf e) (show i + 1 ≤ n from hi)
  rw [Nat.add_mul, Nat.one_mul] at hm
  rw [Nat.add_mul, Nat.one_mul] at b2 b3
  have hlen : ((cs.drop (i * P.cellsOf e)).take (P.cellsOf e)).length = P.cellsOf e := by simp; omega
  rw [hlen] at a2 a3
  refine ⟨(a, b), ⟨a1, b1⟩, by simp; omega, fun j hj => ?_⟩
  by_cases h1 : j < P.cellsOf e
  · have := a3 j h1
    have e1 : nth (enc a ++ enc' b) j = nth (enc a) j := nth_append_lt (by omega)
    have e2 : nthV ((cs.drop (i * P.cellsOf e)).take (P.cellsOf e)) j = nthV cs (i * P.cellsOf e + j) := by
      simp only [nthV, List.getD_eq_getElem?_getD, List.getElem?_take, if_pos h1, List.getElem?_drop]
    show Cl _ w (nth (enc a ++ enc' b) j) _
    rw [e1, ← e2]; exact this
  · have e1 : nth (enc a ++ enc' b) j = nth (enc' b) (j - P.cellsOf e) := by rw [nth_append_ge (by omega), a2]
    have := b3 (j - P.cellsOf e) (by omega)
    show Cl _ w (nth (enc a ++ enc' b) j) _
    rw [e1, show i * P.cellsOf e + j = i * P.cellsOf e + P.cellsOf e + (j - P.cellsOf e) by omega]; exact this
theorem Rd.array {P : Program} {t e : TypeId} {n : Nat} {α : Type} {ok : α → Prop} {enc : α → List D} (ht : P.underlying t = some (.array n e)) (hc : P.cellsOf t = n * P.cellsOf e) (r : RdA P e 0 n ok enc) : Rd P t ok enc := by
  intro H en w base held m cs x h
  obtain ⟨xs, m', rfl, _, hl, hxl, hf⟩ := DataW.trod_array ht h
  obtain ⟨a, a1, a2, a3⟩ := r m' cs (by omega) fun k hk => by
    have hlt : k < xs.length := by omega
    exact ⟨xs[k], by rw [hf k hk]; exact List.getElem?_eq_getElem hlt⟩
  simp only [Nat.zero_mul, Nat.zero_add] at a2 a3
  exact ⟨a, a1, by omega, fun j hj => a3 j (by omega)⟩
theorem Rd.slice {P : Program} {t e : TypeId} {α : Type} [Inhabited α] {ok : α → Prop} {enc : α → List D} (sz : Nat) (ht : P.underlying t = some (.slice e)) (hc : P.cellsOf e = sz) (hpos : 0 < sz) (r : Rd P e ok enc) :
    Rd P t (fun l : List α => l.length ≤ maxLen ∧ ∀ a ∈ l, ok a) (fun l => [.imm sz l.length fun i => enc (l.getD i default)]) := by
  intro H en w base held m cs x h
  rcases Deep.open_slice ht h with ⟨rfl, _⟩ | ⟨a, len, cap, m, n', D', Pl, rfl, hb, hl, hm, hmm, _, hel⟩
  · refine ⟨[], ⟨by simp, by simp⟩, rfl, fun j hj => ?_⟩
    obtain rfl : j = 0 := by simpa using hj
    exact .imm _ _ _ _ _ 0 0 (fun _ _ => Go.undef) (fun h => by simp at h) (by simp) (fun i hi => by simp at hi) (fun i j hi => by simp at hi) (fun i j hi => by simp at hi)
  · simp only [if_true] at hmm
    have key : ∀ i, ∃ ac : α × List Value, i < len → ok ac.1 ∧ (enc ac.1).length = sz ∧ ac.2.length = sz ∧ (∀ j, j < sz → w.cell? (a.add (i * sz + j)) = some (nthV ac.2 j)) ∧ ∀ j, j < sz → Cl (fun _ => True) w (nth (enc ac.1) j) (nthV ac.2 j) := fun i => by
      by_cases hi : i < len
      · obtain ⟨cs', h1, h2⟩ := hel i (by omega)
        obtain ⟨x, hx, hxl, hxc⟩ := r n' cs' _ h2
        obtain ⟨_, hlen, hcell⟩ := World.cells?_some h1
        have hl2 : cs'.length = sz := by omega
        refine ⟨(x, cs'), fun _ => ⟨hx, (by show (enc x).length = sz; omega), hl2, fun j hj => ?_, fun j hj => hxc j (by omega)⟩⟩
        have := hcell j (by omega)
        rw [Deep.add_add, hc] at this
        rw [this]
        simp [nthV, List.getD_eq_getElem?_getD, List.getElem?_eq_getElem (show j < cs'.length by omega)]
      · exact ⟨(default, []), fun h => absurd h hi⟩
    obtain ⟨f, hf⟩ := Classical.axiomOfChoice key
    have hlen : ((List.range len).map fun i => (f i).1).length = len := by simp
    have hget : ∀ i, i < len → ((List.range len).map fun i => (f i).1).getD i default = (f i).1 := fun i hi => by simp [List.getD_eq_getElem?_getD, hi]
    refine ⟨(List.range len).map fun i => (f i).1, ⟨by rw [hlen]; omega, fun x hx => ?_⟩, rfl, fun j hj => ?_⟩
    · obtain ⟨i, hi, rfl⟩ := List.mem_map.1 hx
      exact (hf i (List.mem_range.1 hi)).1
    · obtain rfl : j = 0 := by simpa using hj
      show Cl _ w (.imm sz ((List.range len).map fun i => (f i).1).length fun i => enc (((List.range len).map fun i => (f i).1).getD i default)) (.slice (some a) len cap)
      rw [hlen]
      have hspot : 0 < len → a = ⟨a.block, a.off, none⟩ := fun h0 => by
        have h1 := (hf 0 h0).2.2.2.1 0 hpos
        have h2 := World.cell?_spot h1
        obtain ⟨b, o, sp⟩ := a
        simp [Addr.add] at h2
        subst h2; rfl
      refine .imm _ _ _ _ _ a.block a.off (fun i j => nthV (f i).2 j) (fun h0 => by rw [← hspot h0]) hl (fun i hi => ?_) (fun i j hi hj => ⟨trivial, ?_⟩) (fun i j hi hj => ?_)
      · rw [hget i hi]; exact (hf i hi).2.1
      · have h1 := (hf i hi).2.2.2.1 j hj
        rw [hspot (by omega)] at h1
        rw [← h1]
        congr 1
        simp only [Addr.add]
        split <;> simp_all
      · rw [hget i hi]; exact (hf i hi).2.2.2.2 j hj
/-- A parameter of one cell. -/
theorem Rd.one {P : Program} {t : TypeId} {α : Type} {ok : α → Prop} {enc : α → D} (r : Rd P t ok fun a => [enc a]) {H : Type} {en : TypeId × Value → H} {w : World} {base : Nat} {held : Bool} {v : Value} {d : DataW H} {ps : List MemPlace}
    (h : DataW.Trod en P w base (fun _ => true) held t v d ps) (hv : v.cells.toList = [v]) : ∃ a, ok a ∧ Cl (fun _ => True) w (enc a) v := by
  obtain ⟨m, hm⟩ := h
  rw [hv] at hm
  obtain ⟨a, h1, h2, h3⟩ := r m _ _ hm
  exact ⟨a, h1, h3 0 (by simp)⟩
/-- A parameter of several. -/
theorem Rd.many {P : Program} {t : TypeId} {α : Type} {ok : α → Prop} {enc : α → List D} (r : Rd P t ok enc) {H : Type} {en : TypeId × Value → H} {w : World} {base : Nat} {held : Bool} {cs : Array Value} {d : DataW H} {ps : List MemPlace}
    (h : DataW.Trod en P w base (fun _ => true) held t (.agg cs) d ps) : ∃ a, ok a ∧ Cl (fun _ => True) w (.agg (enc a)) (.agg cs) := by
  obtain ⟨m, hm⟩ := h
  have e : (Value.agg cs).cells.toList = cs.toList := rfl
  rw [e] at hm
  obtain ⟨a, h1, h2, h3⟩ := r m _ _ hm
  have := Cl.agg (N := fun _ => True) (w := w) (enc a) cs.toList h2.symm (fun i hi => h3 i (by omega))
  exact ⟨a, h1, by simpa using this⟩
theorem one_cell_slice (a : Option Addr) (l c : Nat) : (Value.slice a l c).cells.toList = [Value.slice a l c] := by simp [Value.cells]
theorem one_cell_int (k : IntKind) (n : Int) : (Value.int k n).cells.toList = [Value.int k n] := by simp [Value.cells]
theorem one_cell_bool (b : Bool) : (Value.bool b).cells.toList = [Value.bool b] := by simp [Value.cells]
theorem one_cell_string (s : ByteArray) : (Value.string s).cells.toList = [Value.string s] := by simp [Value.cells]
/-- A contract, ens a call's law: the result is a bool, nothing changes. -/
theorem call_true {P : Program} {f : FuncId} {ds : List D} (h : AFn P f ds fun d h => d = .raw (.bool true) ∧ h = []) (W : World) (vs : List Value) (hl : vs.length = ds.length) (hc : ∀ i, i < ds.length → Cl (fun _ => True) W (nth ds i) (nthV vs i)) :
    Calls P f vs.toArray W fun e W' => e = .returned (.bool true) ∧ Below W.heap.size W W' := by
  refine (h (fun _ => True) W.heap.size W [] vs (Nat.le_refl _) (fun _ _ => trivial) ⟨rfl, fun l l' b q q' e => by simp at e, fun l o e => by simp at e, fun l o b q e => by simp at e⟩ hl (fun i hi => .cl _ _ ((hc i hi).mono fun b _ _ => ⟨⟨trivial, fun l q e => by simp at e⟩, rfl⟩))).mono fun e W' he => ?_
  obtain ⟨v, d, h', pl', rfl, ⟨rfl, rfl⟩, _, hv, _, hb⟩ := he
  rw [inv_raw hv]; exact ⟨rfl, hb⟩
end Go.Fg
namespace Go.Fg.X
set_option linter.unusedSimpArgs false
set_option linter.unusedVariables false
open Go.Proofs Go.Fg
set_option maxRecDepth 100000
def rowsI (k : IntKind) (l : List Int) : Nat → List D := fun i => [.raw (.int k (l.getD i 0))]
@[go_sem] theorem rowsI_at (k : IntKind) (l : List Int) (i : Nat) : rowsI k l i = [.raw (.int k (l.getD i 0))] := rfl

structure Cf where
  t : Int
  lmax : Int
instance : Inhabited Cf := ⟨⟨0, 0⟩⟩
@[go_sem] def Cf.cells (x : Cf) : List D := [.raw (.int .i64 x.t), .raw (.int .i64 x.lmax)]
def Cf.rows (l : List Cf) : Nat → List D := fun i => (l.getD i default).cells
@[go_sem] theorem Cf.rows_at (l : List Cf) (i : Nat) : Cf.rows l i = (l.getD i default).cells := rfl
def Cf.Ok (x : Cf) : Prop := (Lit.int .i64 x.t).wf = true ∧ (Lit.int .i64 x.lmax).wf = true ∧ True
theorem rdCf : Rd Tryz.prog 23 Cf.Ok Cf.cells :=
  Rd.map (Rd.struct (tot := 2) Tryz.underlying23 (by kernel_rfl) (RdF.cons (Rd.int .i64 Tryz.underlying3) (RdF.cons (Rd.int .i64 Tryz.underlying3) RdF.nil rfl (by kernel_rfl) (by decide)) rfl (by kernel_rfl) (by decide))) (fun p => ⟨p.1, p.2.1⟩) (fun _ => rfl) (fun _ h => ⟨h.1, h.2.1, trivial⟩)
structure Cv where
  m1 : Int
  d : Int
  m2 : Int
instance : Inhabited Cv := ⟨⟨0, 0, 0⟩⟩
@[go_sem] def Cv.cells (x : Cv) : List D := [.raw (.int .u64 x.m1), .raw (.int .u64 x.d), .raw (.int .u64 x.m2)]
def Cv.rows (l : List Cv) : Nat → List D := fun i => (l.getD i default).cells
@[go_sem] theorem Cv.rows_at (l : List Cv) (i : Nat) : Cv.rows l i = (l.getD i default).cells := rfl
def Cv.Ok (x : Cv) : Prop := (Lit.int .u64 x.m1).wf = true ∧ (Lit.int .u64 x.d).wf = true ∧ (Lit.int .u64 x.m2).wf = true ∧ True
theorem rdCv : Rd Tryz.prog 58 Cv.Ok Cv.cells :=
  Rd.map (Rd.struct (tot := 3) Tryz.underlying58 (by kernel_rfl) (RdF.cons (Rd.int .u64 Tryz.underlying33) (RdF.cons (Rd.int .u64 Tryz.underlying33) (RdF.cons (Rd.int .u64 Tryz.underlying33) RdF.nil rfl (by kernel_rfl) (by decide)) rfl (by kernel_rfl) (by decide)) rfl (by kernel_rfl) (by decide))) (fun p => ⟨p.1, p.2.1, p.2.2.1⟩) (fun _ => rfl) (fun _ h => ⟨h.1, h.2.1, h.2.2.1, trivial⟩)
structure Pk where
  iD : Int
  len : Int
  head0 : Int
  head1 : Int
  head2 : Int
  head3 : Int
instance : Inhabited Pk := ⟨⟨0, 0, 0, 0, 0, 0⟩⟩
@[go_sem] def Pk.cells (x : Pk) : List D := [.raw (.int .u64 x.iD), .raw (.int .i64 x.len), .raw (.int .u16 x.head0), .raw (.int .u16 x.head1), .raw (.int .u16 x.head2), .raw (.int .u16 x.head3)]
def Pk.rows (l : List Pk) : Nat → List D := fun i => (l.getD i default).cells
@[go_sem] theorem Pk.rows_at (l : List Pk) (i : Nat) : Pk.rows l i = (l.getD i default).cells := rfl
def Pk.Ok (x : Pk) : Prop := (Lit.int .u64 x.iD).wf = true ∧ (Lit.int .i64 x.len).wf = true ∧ (Lit.int .u16 x.head0).wf = true ∧ (Lit.int .u16 x.head1).wf = true ∧ (Lit.int .u16 x.head2).wf = true ∧ (Lit.int .u16 x.head3).wf = true ∧ True
theorem rdPk : Rd Tryz.prog 38 Pk.Ok Pk.cells :=
  Rd.map (Rd.struct (tot := 6) Tryz.underlying38 (by kernel_rfl) (RdF.cons (Rd.int .u64 Tryz.underlying33) (RdF.cons (Rd.int .i64 Tryz.underlying3) (RdF.cons (Rd.array Tryz.underlying36 (by kernel_rfl) (RdA.cons (by decide) (Rd.int .u16 Tryz.underlying34) (RdA.cons (by decide) (Rd.int .u16 Tryz.underlying34) (RdA.cons (by decide) (Rd.int .u16 Tryz.underlying34) (RdA.cons (by decide) (Rd.int .u16 Tryz.underlying34) RdA.nil))))) RdF.nil rfl (by kernel_rfl) (by decide)) rfl (by kernel_rfl) (by decide)) rfl (by kernel_rfl) (by decide))) (fun p => ⟨p.1, p.2.1, p.2.2.1.1, p.2.2.1.2.1, p.2.2.1.2.2.1, p.2.2.1.2.2.2.1⟩) (fun _ => rfl) (fun _ h => ⟨h.1, h.2.1, h.2.2.1.1, h.2.2.1.2.1, h.2.2.1.2.2.1, h.2.2.1.2.2.2.1, trivial⟩)
structure Kls where
  iD : Int
  parent : Int
  leaf : Bool
  rt : Cv
  ls : Cv
  ul : Cv
  pkts : Int
  bytes : Int
instance : Inhabited Kls := ⟨⟨0, 0, false, default, default, default, 0, 0⟩⟩
@[go_sem] def Kls.cells (x : Kls) : List D := [.raw (.int .i64 x.iD), .raw (.int .i64 x.parent), .raw (.bool x.leaf), .raw (.int .u64 x.rt.m1), .raw (.int .u64 x.rt.d), .raw (.int .u64 x.rt.m2), .raw (.int .u64 x.ls.m1), .raw (.int .u64 x.ls.d), .raw (.int .u64 x.ls.m2), .raw (.int .u64 x.ul.m1), .raw (.int .u64 x.ul.d), .raw (.int .u64 x.ul.m2), .raw (.int .i64 x.pkts), .raw (.int .i64 x.bytes)]
def Kls.rows (l : List Kls) : Nat → List D := fun i => (l.getD i default).cells
@[go_sem] theorem Kls.rows_at (l : List Kls) (i : Nat) : Kls.rows l i = (l.getD i default).cells := rfl
def Kls.Ok (x : Kls) : Prop := (Lit.int .i64 x.iD).wf = true ∧ (Lit.int .i64 x.parent).wf = true ∧ True ∧ Cv.Ok x.rt ∧ Cv.Ok x.ls ∧ Cv.Ok x.ul ∧ (Lit.int .i64 x.pkts).wf = true ∧ (Lit.int .i64 x.bytes).wf = true ∧ True
theorem rdKls : Rd Tryz.prog 60 Kls.Ok Kls.cells :=
  Rd.map (Rd.struct (tot := 14) Tryz.underlying60 (by kernel_rfl) (RdF.cons (Rd.int .i64 Tryz.underlying3) (RdF.cons (Rd.int .i64 Tryz.underlying3) (RdF.cons (Rd.bool Tryz.underlying4) (RdF.cons rdCv (RdF.cons rdCv (RdF.cons rdCv (RdF.cons (Rd.int .i64 Tryz.underlying3) (RdF.cons (Rd.int .i64 Tryz.underlying3) RdF.nil rfl (by kernel_rfl) (by decide)) rfl (by kernel_rfl) (by decide)) rfl (by kernel_rfl) (by decide)) rfl (by kernel_rfl) (by decide)) rfl (by kernel_rfl) (by decide)) rfl (by kernel_rfl) (by decide)) rfl (by kernel_rfl) (by decide)) rfl (by kernel_rfl) (by decide))) (fun p => ⟨p.1, p.2.1, p.2.2.1, p.2.2.2.1, p.2.2.2.2.1, p.2.2.2.2.2.1, p.2.2.2.2.2.2.1, p.2.2.2.2.2.2.2.1⟩) (fun _ => rfl) (fun _ h => ⟨h.1, h.2.1, h.2.2.1, h.2.2.2.1, h.2.2.2.2.1, h.2.2.2.2.2.1, h.2.2.2.2.2.2.1, h.2.2.2.2.2.2.2.1, trivial⟩)
structure Chg where
  kind : Int
  cls : Kls
instance : Inhabited Chg := ⟨⟨0, default⟩⟩
@[go_sem] def Chg.cells (x : Chg) : List D := [.raw (.int .i64 x.kind), .raw (.int .i64 x.cls.iD), .raw (.int .i64 x.cls.parent), .raw (.bool x.cls.leaf), .raw (.int .u64 x.cls.rt.m1), .raw (.int .u64 x.cls.rt.d), .raw (.int .u64 x.cls.rt.m2), .raw (.int .u64 x.cls.ls.m1), .raw (.int .u64 x.cls.ls.d), .raw (.int .u64 x.cls.ls.m2), .raw (.int .u64 x.cls.ul.m1), .raw (.int .u64 x.cls.ul.d), .raw (.int .u64 x.cls.ul.m2), .raw (.int .i64 x.cls.pkts), .raw (.int .i64 x.cls.bytes)]
def Chg.rows (l : List Chg) : Nat → List D := fun i => (l.getD i default).cells
@[go_sem] theorem Chg.rows_at (l : List Chg) (i : Nat) : Chg.rows l i = (l.getD i default).cells := rfl
def Chg.Ok (x : Chg) : Prop := (Lit.int .i64 x.kind).wf = true ∧ Kls.Ok x.cls ∧ True
theorem rdChg : Rd Tryz.prog 111 Chg.Ok Chg.cells :=
  Rd.map (Rd.struct (tot := 15) Tryz.underlying111 (by kernel_rfl) (RdF.cons (Rd.int .i64 Tryz.underlying3) (RdF.cons rdKls RdF.nil rfl (by kernel_rfl) (by decide)) rfl (by kernel_rfl) (by decide))) (fun p => ⟨p.1, p.2.1⟩) (fun _ => rfl) (fun _ h => ⟨h.1, h.2.1, trivial⟩)
structure Rul where
  mask0 : Int
  mask1 : Int
  mask2 : Int
  mask3 : Int
  want0 : Int
  want1 : Int
  want2 : Int
  want3 : Int
  cls : Int
instance : Inhabited Rul := ⟨⟨0, 0, 0, 0, 0, 0, 0, 0, 0⟩⟩
@[go_sem] def Rul.cells (x : Rul) : List D := [.raw (.int .u16 x.mask0), .raw (.int .u16 x.mask1), .raw (.int .u16 x.mask2), .raw (.int .u16 x.mask3), .raw (.int .u16 x.want0), .raw (.int .u16 x.want1), .raw (.int .u16 x.want2), .raw (.int .u16 x.want3), .raw (.int .i64 x.cls)]
def Rul.rows (l : List Rul) : Nat → List D := fun i => (l.getD i default).cells
@[go_sem] theorem Rul.rows_at (l : List Rul) (i : Nat) : Rul.rows l i = (l.getD i default).cells := rfl
def Rul.Ok (x : Rul) : Prop := (Lit.int .u16 x.mask0).wf = true ∧ (Lit.int .u16 x.mask1).wf = true ∧ (Lit.int .u16 x.mask2).wf = true ∧ (Lit.int .u16 x.mask3).wf = true ∧ (Lit.int .u16 x.want0).wf = true ∧ (Lit.int .u16 x.want1).wf = true ∧ (Lit.int .u16 x.want2).wf = true ∧ (Lit.int .u16 x.want3).wf = true ∧ (Lit.int .i64 x.cls).wf = true ∧ True
theorem rdRul : Rd Tryz.prog 243 Rul.Ok Rul.cells :=
  Rd.map (Rd.struct (tot := 9) Tryz.underlying243 (by kernel_rfl) (RdF.cons (Rd.array Tryz.underlying36 (by kernel_rfl) (RdA.cons (by decide) (Rd.int .u16 Tryz.underlying34) (RdA.cons (by decide) (Rd.int .u16 Tryz.underlying34) (RdA.cons (by decide) (Rd.int .u16 Tryz.underlying34) (RdA.cons (by decide) (Rd.int .u16 Tryz.underlying34) RdA.nil))))) (RdF.cons (Rd.array Tryz.underlying36 (by kernel_rfl) (RdA.cons (by decide) (Rd.int .u16 Tryz.underlying34) (RdA.cons (by decide) (Rd.int .u16 Tryz.underlying34) (RdA.cons (by decide) (Rd.int .u16 Tryz.underlying34) (RdA.cons (by decide) (Rd.int .u16 Tryz.underlying34) RdA.nil))))) (RdF.cons (Rd.int .i64 Tryz.underlying3) RdF.nil rfl (by kernel_rfl) (by decide)) rfl (by kernel_rfl) (by decide)) rfl (by kernel_rfl) (by decide))) (fun p => ⟨p.1.1, p.1.2.1, p.1.2.2.1, p.1.2.2.2.1, p.2.1.1, p.2.1.2.1, p.2.1.2.2.1, p.2.1.2.2.2.1, p.2.2.1⟩) (fun _ => rfl) (fun _ h => ⟨h.1.1, h.1.2.1, h.1.2.2.1, h.1.2.2.2.1, h.2.1.1, h.2.1.2.1, h.2.1.2.2.1, h.2.1.2.2.2.1, h.2.2.1, trivial⟩)
structure Opn where
  kind : Int
  changes : (List Chg)
  rules : (List Rul)
  packet : Pk
  ticks : Int
instance : Inhabited Opn := ⟨⟨0, [], [], default, 0⟩⟩
@[go_sem] def Opn.cells (x : Opn) : List D := [.raw (.int .i64 x.kind), .imm 15 x.changes.length (Chg.rows x.changes), .imm 9 x.rules.length (Rul.rows x.rules), .raw (.int .u64 x.packet.iD), .raw (.int .i64 x.packet.len), .raw (.int .u16 x.packet.head0), .raw (.int .u16 x.packet.head1), .raw (.int .u16 x.packet.head2), .raw (.int .u16 x.packet.head3), .raw (.int .u64 x.ticks)]
def Opn.rows (l : List Opn) : Nat → List D := fun i => (l.getD i default).cells
@[go_sem] theorem Opn.rows_at (l : List Opn) (i : Nat) : Opn.rows l i = (l.getD i default).cells := rfl
def Opn.Ok (x : Opn) : Prop := (Lit.int .i64 x.kind).wf = true ∧ (x.changes.length ≤ maxLen ∧ ∀ a ∈ x.changes, Chg.Ok a) ∧ (x.rules.length ≤ maxLen ∧ ∀ a ∈ x.rules, Rul.Ok a) ∧ Pk.Ok x.packet ∧ (Lit.int .u64 x.ticks).wf = true ∧ True
theorem rdOpn : Rd Tryz.prog 99 Opn.Ok Opn.cells :=
  Rd.map (Rd.struct (tot := 10) Tryz.underlying99 (by kernel_rfl) (RdF.cons (Rd.int .i64 Tryz.underlying3) (RdF.cons (Rd.slice 15 Tryz.underlying39 (by kernel_rfl) (by decide) rdChg) (RdF.cons (Rd.slice 9 Tryz.underlying97 (by kernel_rfl) (by decide) rdRul) (RdF.cons rdPk (RdF.cons (Rd.int .u64 Tryz.underlying33) RdF.nil rfl (by kernel_rfl) (by decide)) rfl (by kernel_rfl) (by decide)) rfl (by kernel_rfl) (by decide)) rfl (by kernel_rfl) (by decide)) rfl (by kernel_rfl) (by decide))) (fun p => ⟨p.1, p.2.1, p.2.2.1, p.2.2.2.1, p.2.2.2.2.1⟩) (fun _ => rfl) (fun _ h => ⟨h.1, h.2.1, h.2.2.1, h.2.2.2.1, h.2.2.2.2.1, trivial⟩)
structure Scr where
  config : Cf
  ops : (List Opn)
instance : Inhabited Scr := ⟨⟨default, []⟩⟩
@[go_sem] def Scr.cells (x : Scr) : List D := [.raw (.int .i64 x.config.t), .raw (.int .i64 x.config.lmax), .imm 10 x.ops.length (Opn.rows x.ops)]
def Scr.rows (l : List Scr) : Nat → List D := fun i => (l.getD i default).cells
@[go_sem] theorem Scr.rows_at (l : List Scr) (i : Nat) : Scr.rows l i = (l.getD i default).cells := rfl
def Scr.Ok (x : Scr) : Prop := Cf.Ok x.config ∧ (x.ops.length ≤ maxLen ∧ ∀ a ∈ x.ops, Opn.Ok a) ∧ True
theorem rdScr : Rd Tryz.prog 162 Scr.Ok Scr.cells :=
  Rd.map (Rd.struct (tot := 3) Tryz.underlying162 (by kernel_rfl) (RdF.cons rdCf (RdF.cons (Rd.slice 10 Tryz.underlying160 (by kernel_rfl) (by decide) rdOpn) RdF.nil rfl (by kernel_rfl) (by decide)) rfl (by kernel_rfl) (by decide))) (fun p => ⟨p.1, p.2.1⟩) (fun _ => rfl) (fun _ h => ⟨h.1, h.2.1, trivial⟩)
structure Res where
  err : Int
  place : Int
  cls : Int
instance : Inhabited Res := ⟨⟨0, 0, 0⟩⟩
@[go_sem] def Res.cells (x : Res) : List D := [.raw (.int .i64 x.err), .raw (.int .i64 x.place), .raw (.int .i64 x.cls)]
def Res.rows (l : List Res) : Nat → List D := fun i => (l.getD i default).cells
@[go_sem] theorem Res.rows_at (l : List Res) (i : Nat) : Res.rows l i = (l.getD i default).cells := rfl
def Res.Ok (x : Res) : Prop := (Lit.int .i64 x.err).wf = true ∧ (Lit.int .i64 x.place).wf = true ∧ (Lit.int .i64 x.cls).wf = true ∧ True
theorem rdRes : Rd Tryz.prog 102 Res.Ok Res.cells :=
  Rd.map (Rd.struct (tot := 3) Tryz.underlying102 (by kernel_rfl) (RdF.cons (Rd.int .i64 Tryz.underlying29) (RdF.cons (Rd.int .i64 Tryz.underlying3) (RdF.cons (Rd.int .i64 Tryz.underlying3) RdF.nil rfl (by kernel_rfl) (by decide)) rfl (by kernel_rfl) (by decide)) rfl (by kernel_rfl) (by decide))) (fun p => ⟨p.1, p.2.1, p.2.2.1⟩) (fun _ => rfl) (fun _ h => ⟨h.1, h.2.1, h.2.2.1, trivial⟩)
structure Act where
  kind : Int
  now : Int
  cls : Int
  packet : Pk
  idle : Bool
  changes : (List Chg)
instance : Inhabited Act := ⟨⟨0, 0, 0, default, false, []⟩⟩
@[go_sem] def Act.cells (x : Act) : List D := [.raw (.int .i64 x.kind), .raw (.int .u64 x.now), .raw (.int .i64 x.cls), .raw (.int .u64 x.packet.iD), .raw (.int .i64 x.packet.len), .raw (.int .u16 x.packet.head0), .raw (.int .u16 x.packet.head1), .raw (.int .u16 x.packet.head2), .raw (.int .u16 x.packet.head3), .raw (.bool x.idle), .imm 15 x.changes.length (Chg.rows x.changes)]
def Act.rows (l : List Act) : Nat → List D := fun i => (l.getD i default).cells
@[go_sem] theorem Act.rows_at (l : List Act) (i : Nat) : Act.rows l i = (l.getD i default).cells := rfl
def Act.Ok (x : Act) : Prop := (Lit.int .i64 x.kind).wf = true ∧ (Lit.int .u64 x.now).wf = true ∧ (Lit.int .i64 x.cls).wf = true ∧ Pk.Ok x.packet ∧ True ∧ (x.changes.length ≤ maxLen ∧ ∀ a ∈ x.changes, Chg.Ok a) ∧ True
theorem rdAct : Rd Tryz.prog 41 Act.Ok Act.cells :=
  Rd.map (Rd.struct (tot := 11) Tryz.underlying41 (by kernel_rfl) (RdF.cons (Rd.int .i64 Tryz.underlying3) (RdF.cons (Rd.int .u64 Tryz.underlying33) (RdF.cons (Rd.int .i64 Tryz.underlying3) (RdF.cons rdPk (RdF.cons (Rd.bool Tryz.underlying4) (RdF.cons (Rd.slice 15 Tryz.underlying39 (by kernel_rfl) (by decide) rdChg) RdF.nil rfl (by kernel_rfl) (by decide)) rfl (by kernel_rfl) (by decide)) rfl (by kernel_rfl) (by decide)) rfl (by kernel_rfl) (by decide)) rfl (by kernel_rfl) (by decide)) rfl (by kernel_rfl) (by decide))) (fun p => ⟨p.1, p.2.1, p.2.2.1, p.2.2.2.1, p.2.2.2.2.1, p.2.2.2.2.2.1⟩) (fun _ => rfl) (fun _ h => ⟨h.1, h.2.1, h.2.2.1, h.2.2.2.1, h.2.2.2.2.1, h.2.2.2.2.2.1, trivial⟩)
end Go.Fg.X
namespace Go.Fg.X
open Go.Proofs Go.Fg
set_option maxRecDepth 100000
@[go_sem] def dint (n : Int) : D := .raw (.int .i64 n)
@[go_sem] def dbool (b : Bool) : D := .raw (.bool b)
@[go_sem] def ints (l : List Int) : D := .imm 1 l.length (rowsI .i64 l)
structure Ev where
  op : Int
  inn : Bool
  real : Bool
  at_ : Int
  done : Int
  cls : Int
  id : Int
  len : Int
  h0 : Int
  h1 : Int
  h2 : Int
  h3 : Int
instance : Inhabited Ev := ⟨⟨0, false, false, 0, 0, 0, 0, 0, 0, 0, 0, 0⟩⟩
@[go_sem] def Ev.cells (e : Ev) : List D := [.raw (.int .i64 e.op), .raw (.bool e.inn), .raw (.bool e.real), .raw (.int .u64 e.at_), .raw (.int .u64 e.done), .raw (.int .i64 e.cls), .raw (.int .u64 e.id), .raw (.int .i64 e.len), .raw (.int .u16 e.h0), .raw (.int .u16 e.h1), .raw (.int .u16 e.h2), .raw (.int .u16 e.h3)]
def Ev.Ok (x : Ev) : Prop := (Lit.int .i64 x.op).wf = true ∧ (Lit.int .u64 x.at_).wf = true ∧ (Lit.int .u64 x.done).wf = true ∧ (Lit.int .i64 x.cls).wf = true ∧ (Lit.int .u64 x.id).wf = true ∧ (Lit.int .i64 x.len).wf = true ∧ (Lit.int .u16 x.h0).wf = true ∧ (Lit.int .u16 x.h1).wf = true ∧ (Lit.int .u16 x.h2).wf = true ∧ (Lit.int .u16 x.h3).wf = true
theorem rdEv : Rd Tryz.prog 157 Ev.Ok Ev.cells :=
  Rd.map (Rd.struct (tot := 12) Tryz.underlying157 (by kernel_rfl) (RdF.cons (Rd.int .i64 Tryz.underlying3) (RdF.cons (Rd.bool Tryz.underlying4) (RdF.cons (Rd.bool Tryz.underlying4) (RdF.cons (Rd.int .u64 Tryz.underlying33) (RdF.cons (Rd.int .u64 Tryz.underlying33) (RdF.cons (Rd.int .i64 Tryz.underlying3) (RdF.cons rdPk RdF.nil rfl (by kernel_rfl) (by decide)) rfl (by kernel_rfl) (by decide)) rfl (by kernel_rfl) (by decide)) rfl (by kernel_rfl) (by decide)) rfl (by kernel_rfl) (by decide)) rfl (by kernel_rfl) (by decide)) rfl (by kernel_rfl) (by decide)))
    (fun p => ⟨p.1, p.2.1, p.2.2.1, p.2.2.2.1, p.2.2.2.2.1, p.2.2.2.2.2.1, p.2.2.2.2.2.2.1.iD, p.2.2.2.2.2.2.1.len, p.2.2.2.2.2.2.1.head0, p.2.2.2.2.2.2.1.head1, p.2.2.2.2.2.2.1.head2, p.2.2.2.2.2.2.1.head3⟩) (fun _ => rfl) (fun _ h => ⟨h.1, h.2.2.2.1, h.2.2.2.2.1, h.2.2.2.2.2.1, h.2.2.2.2.2.2.1.1, h.2.2.2.2.2.2.1.2.1, h.2.2.2.2.2.2.1.2.2.1, h.2.2.2.2.2.2.1.2.2.2.1, h.2.2.2.2.2.2.1.2.2.2.2.1, h.2.2.2.2.2.2.1.2.2.2.2.2.1⟩)
def Ev.rows (l : List Ev) : Nat → List D := fun i => (l.getD i default).cells
@[go_sem] theorem Ev.rows_at (l : List Ev) (i : Nat) : Ev.rows l i = (l.getD i default).cells := rfl
@[go_sem] def evs (l : List Ev) : D := .imm 12 l.length (Ev.rows l)
theorem wrap64 {n : Int} (h1 : -9223372036854775808 ≤ n) (h2 : n ≤ 9223372036854775807) : IntKind.i64.wrap n = n := by
  rw [IntKind.wrap_i64]; omega
theorem wrap_succ {k : Nat} (h : k < 4611686018427387904) : IntKind.i64.wrap ((k : Int) + 1) = ((k + 1 : Nat) : Int) := by
  rw [wrap64 (by omega) (by omega)]; rfl
theorem bz {n : Nat} (h : n = 0) : ((n : Int) == 0) = true := by simp [h]
theorem bnz {n : Nat} (h : n ≠ 0) : ((n : Int) == 0) = false := by simp [h]
theorem dp {n : Nat} (h : n ≠ 0) : decide ((0 : Int) < n) = true := by simp; omega
theorem dnp {n : Nat} (h : n = 0) : decide ((0 : Int) < n) = false := by simp [h]
theorem getD_app {α : Type} (l : List α) (x d : α) (i : Nat) (hi : i < l.length + 1) : (l ++ [x]).getD i d = bif decide (i < l.length) then l.getD i d else x := by
  by_cases h : i < l.length
  · simp [h, List.getElem?_append_left h]
  · have : i = l.length := by omega
    subst this
    simp
set_option linter.unusedSimpArgs false
set_option linter.unusedVariables false
def Ret (d : D) : D → List Ob → Prop := fun d' h => d' = d ∧ h = []
attribute [go_sem] Ret
theorem Ret.flat {d : D} (hd : d.flat = true) : ∀ d' h, Ret d d' h → d'.flat = true ∧ ∀ o ∈ h, o.flat := by
  rintro d' h ⟨rfl, rfl⟩; exact ⟨hd, by simp⟩

theorem getD_take {α : Type} (l : List α) (d : α) (k : Nat) (h : k < l.length) : l.take (k + 1) = l.take k ++ [l.getD k d] := by
  rw [List.take_add_one, List.getElem?_eq_getElem h]; simp [List.getD_eq_getElem?_getD, List.getElem?_eq_getElem h]

theorem mixed : Tryz.prog.follows .mixedOrders = true := by kernel_rfl
theorem getD_lt {α : Type} (l : List α) (x d : α) (i : Nat) (h : i < l.length) : (l ++ [x]).getD i d = l.getD i d := by simp [List.getElem?_append_left h]
theorem getD_end {α : Type} (l : List α) (x d : α) : (l ++ [x]).getD l.length d = x := by simp
theorem getD_set_eq {α : Type} (l : List α) (x d : α) (i : Nat) (h : i < l.length) : (l.set i x).getD i d = x := by simp [h]
theorem getD_set_ne' {α : Type} (l : List α) (x d : α) (i j : Nat) (h : j ≠ i) : (l.set j x).getD i d = l.getD i d := by simp [List.getElem?_set_ne h]
theorem getD_map {α β : Type} (f : α → β) (l : List α) (d : α) (e : β) (i : Nat) (h : i < l.length) : (l.map f).getD i e = f (l.getD i d) := by simp [List.getD_eq_getElem?_getD, h]
theorem getD_mem {α : Type} (l : List α) (d : α) (i : Nat) (h : i < l.length) : l.getD i d ∈ l := by simp [List.getD_eq_getElem?_getD, h]
/-- Rows of which one more is as it should be. -/
theorem wf_i64 {n : Int} (h : (Lit.int .i64 n).wf = true) : -9223372036854775808 ≤ n ∧ n ≤ 9223372036854775807 := by
  simp only [Lit.wf, Bool.and_eq_true, decide_eq_true_eq] at h
  exact h
theorem wf_u64 {n : Int} (h : (Lit.int .u64 n).wf = true) : 0 ≤ n ∧ n ≤ 18446744073709551615 := by
  simp only [Lit.wf, Bool.and_eq_true, decide_eq_true_eq] at h
  exact h
theorem wf_u16 {n : Int} (h : (Lit.int .u16 n).wf = true) : 0 ≤ n ∧ n ≤ 65535 := by
  simp only [Lit.wf, Bool.and_eq_true, decide_eq_true_eq] at h
  exact h
theorem wrapu {n : Int} (h1 : 0 ≤ n) (h2 : n ≤ 18446744073709551615) : IntKind.u64.wrap n = n := by rw [IntKind.wrap_u64]; omega
@[go_sem] theorem cast0 : ((0 : Nat) : Int) = 0 := rfl
@[go_sem] theorem cast1 : ((1 : Nat) : Int) = 1 := rfl
@[go_sem] theorem cast2 : ((2 : Nat) : Int) = 2 := rfl
@[go_sem] theorem cast3 : ((3 : Nat) : Int) = 3 := rfl
@[go_sem] theorem cast4 : ((4 : Nat) : Int) = 4 := rfl
@[go_sem] theorem cast5 : ((5 : Nat) : Int) = 5 := rfl
@[go_sem] theorem cast6 : ((6 : Nat) : Int) = 6 := rfl
@[go_sem] theorem cast7 : ((7 : Nat) : Int) = 7 := rfl
@[go_sem] theorem cast8 : ((8 : Nat) : Int) = 8 := rfl
@[go_sem] theorem cast9 : ((9 : Nat) : Int) = 9 := rfl
@[go_sem] theorem cast10 : ((10 : Nat) : Int) = 10 := rfl
theorem beqT {a b : Int} (h : a = b) : (a == b) = true := by simp [h]
theorem beqF {a b : Int} (h : a ≠ b) : (a == b) = false := by simp [h]
theorem bneF {a b : Int} (h : a = b) : (a != b) = false := by simp [h]
theorem bneT {a b : Int} (h : a ≠ b) : (a != b) = true := by simp [h]
end Go.Fg.X
namespace Go.Fg
set_option linter.unusedSimpArgs false
set_option linter.unusedVariables false
open Go.RowKit (Below)
/-- The numbers of birth rise. -/
def Births (es : List Ent) : Prop := (es.map (·.b)).Pairwise (· < ·)
theorem EntRel.births {Z : Nat → Prop} {h : List Ob} {pl : List Pl} {w : World} {q : IntKind} {c : Nat} {es : List Ent} {ens : List MapEntry} (E : EntRel Z h pl w q c es ens) : Births es := by
  unfold Births
  rw [List.pairwise_iff_getElem]
  intro i j hi hj hij
  simp only [List.length_map] at hi hj
  have hl := E.len
  obtain ⟨_, _, h1, _⟩ := E.at_ i es[i] ens[i] (List.getElem?_eq_getElem hi) (List.getElem?_eq_getElem (by omega))
  obtain ⟨_, _, h2, _⟩ := E.at_ j es[j] ens[j] (List.getElem?_eq_getElem hj) (List.getElem?_eq_getElem (by omega))
  have := E.inc i j ens[i] ens[j] hij (List.getElem?_eq_getElem (by omega)) (List.getElem?_eq_getElem (by omega))
  simp only [List.getElem_map]
  omega
theorem Births.inj {es : List Ent} (B : Births es) {e e' : Ent} (h : e ∈ es) (h' : e' ∈ es) (hb : e.b = e'.b) : e = e' := by
  unfold Births at B
  rw [List.pairwise_iff_getElem] at B
  obtain ⟨i, hi, rfl⟩ := List.getElem_of_mem h
  obtain ⟨j, hj, rfl⟩ := List.getElem_of_mem h'
  rcases Nat.lt_trichotomy i j with h1 | h1 | h1
  · have := B i j (by simpa using hi) (by simpa using hj) h1; simp only [List.getElem_map] at this; omega
  · subst h1; rfl
  · have := B j i (by simpa using hj) (by simpa using hi) h1; simp only [List.getElem_map] at this; omega
theorem Births.nodup {es : List Ent} (B : Births es) : (es.map (·.b)).Nodup := by
  unfold List.Nodup
  exact List.Pairwise.imp (fun h => Nat.ne_of_lt h) B
/-- How many are left. -/
def leftE (es : List Ent) (seen : List Nat) : Nat := (es.filter fun e => !seen.contains e.b).length
theorem leftE_lt : ∀ {es : List Ent} {seen : List Nat} {e : Ent}, e ∈ es → e.b ∉ seen → leftE es (seen ++ [e.b]) < leftE es seen
  | [], _, _, h, _ => by simp at h
  | x :: es, seen, e, h, hs => by
    have le : ∀ es : List Ent, leftE es (seen ++ [e.b]) ≤ leftE es seen := fun es => by
      induction es with
      | nil => exact Nat.le_refl _
      | cons y r ih =>
        simp only [leftE, List.filter_cons] at ih ⊢
        by_cases h1 : y.b ∈ seen <;> by_cases h2 : y.b = e.b <;> simp_all <;> omega
    rcases List.mem_cons.1 h with rfl | h
    · have := le es
      simp only [leftE, List.filter_cons] at this ⊢
      simp_all
      omega
    · have := leftE_lt h hs
      simp only [leftE, List.filter_cons] at this ⊢
      by_cases h1 : x.b ∈ seen <;> by_cases h2 : x.b = e.b <;> simp_all <;> omega
section
variable {P : Program} {L : Lay} {base nt : Nat} {w0 : Start} {Q : Exit → St → Prop}
theorem map_births {Z : Nat → Prop} {s : St} {pl : List Pl} {a : Act} {w : World} (r : Rel Z base nt s pl a w) {l c : Nat} {es : List Ent} {kd : Kd} {q : IntKind} (hkd : kd.ty = 1) (hob : s.h[l]? = some (mapObK kd q c es)) : Births es := by
  have hl : l < pl.length := by rw [r.o.len]; exact lt_of_some hob
  cases hp : pl[l] with
  | none =>
    have := r.o.noRow l _ hob (by rw [List.getElem?_eq_getElem hl, hp])
    simp [mapObK] at this
  | some bq =>
    obtain ⟨b, p⟩ := bq
    obtain ⟨_, x⟩ := r.o.at_ l _ b p hob (by rw [List.getElem?_eq_getElem hl, hp])
    obtain ⟨_, ens, _, E⟩ := mapAt_to hkd x
    exact E.births
/-- The births of a map that is there rise. -/
theorem kont_births {c0 : Code} {k : List Item} {s : St} {l c : Nat} {es : List Ent} {kd : Kd} {q : IntKind} (hkd : kd.ty = 1) (hob : s.h[l]? = some (mapObK kd q c es)) (hk : Births es → kont P base nt w0 Q (.code c0 :: k) .normal s) : kont P base nt w0 Q (.code c0 :: k) .normal s := by
  simp only [kont] at hk ⊢
  intro Z z pl a w r b
  exact hk (map_births r hkd hob) Z z pl a w r b
theorem kont_birthsO {os : List (Oper × G)} {k : List Item} {s : St} {l c : Nat} {es : List Ent} {kd : Kd} {q : IntKind} (hkd : kd.ty = 1) (hob : s.h[l]? = some (mapObK kd q c es)) (hk : Births es → kont P base nt w0 Q (.ops os :: k) .normal s) : kont P base nt w0 Q (.ops os :: k) .normal s := by
  simp only [kont] at hk ⊢
  intro Z z pl a w r b
  exact hk (map_births r hkd hob) Z z pl a w r b
/-- The entry that an iterator met last. -/
theorem entry_ok {o : Oper} {s : St} {x : Operand} (ho : o.op = .entry x) {li l c : Nat} {es : List Ent} {seen : List Nat} {q : IntKind} {kd : Kd} {e : Ent}
    (hx : evalO s.fr x = .mref li 0) (hit : s.h[li]? = some (iterOb l c c (seen ++ [e.b]))) (hkd : kd.ty = 1) (hob : s.h[l]? = some (mapObK kd q c es)) (he : e ∈ es) : PureOk P base nt o s (.tup [.raw (.int q e.k), e.v]) := by
  intro Z pl a w r
  have e1 := r.eval x
  rw [hx] at e1
  obtain ⟨o', p, b, h1, h2, h3, h4, h5⟩ := inv_mref e1
  rw [hit] at h1; cases h1
  have h5 := h5 rfl
  rw [h5] at h2
  obtain ⟨hb0, xat⟩ := r.o.at_ li _ b 0 hit h2
  obtain ⟨_, m, sn, hb, hsn, hmr⟩ := iterAt_to xat
  have hv : a.eval x = .pointer (some ⟨b, 0, none⟩) := h3.2
  obtain ⟨o2, p2, bm, k1, k2, k3, k4, k5⟩ := inv_mref hmr
  rw [hob] at k1; cases k1
  have k5 := k5 rfl
  rw [k5] at k2
  have k3 := k3.2
  rw [show (mapObK kd q c es).kd.ty = 1 from hkd] at k3
  have k3 : m = bm := by simpa [mval] using k3
  subst k3
  obtain ⟨hm0, mat⟩ := r.o.at_ l _ m 0 hob k2
  obtain ⟨_, ens, hbm, E⟩ := mapAt_to hkd mat
  have hl : es.length = ens.toList.length := E.len
  obtain ⟨j, hj⟩ := List.getElem?_of_mem he
  have hlt := (List.getElem?_eq_some_iff.1 hj).1
  obtain ⟨d1, d2, d3, d4⟩ := E.at_ j e (ens.toList[j]'(by omega)) hj (List.getElem?_eq_getElem (by omega))
  have hnd : (ens.toList.map (·.born)).Nodup := by
    have : ens.toList.map (·.born) = es.map (·.b) := by
      apply List.ext_getElem (by simp [hl])
      intro i h1 h2
      simp only [List.length_map] at h1 h2
      obtain ⟨_, _, g, _⟩ := E.at_ i (es[i]'(by omega)) (ens.toList[i]'(by omega)) (List.getElem?_eq_getElem (by omega)) (List.getElem?_eq_getElem (by omega))
      simp only [List.getElem_map, g]
    rw [this]; exact E.births.nodup
  have hsn' : sn = (seen.toArray).push (ens.toList[j]'(by omega)).born := by
    apply Array.toList_inj.1
    rw [hsn, d3]; simp
  have hb' := hb
  rw [hsn'] at hb'
  refine ⟨.tuple #[(ens.toList[j]'(by omega)).key, (ens.toList[j]'(by omega)).val], ?_, fun w' ew => ?_⟩
  · rw [d1]
    exact .tup _ [.int q e.k, (ens.toList[j]'(by omega)).val] rfl fun i hi => match i, hi with
      | 0, _ => .cl _ _ (.raw _)
      | 1, _ => d2
  · have hrun := run_entry_at (P := P) w' b m c seen.toArray ens c (ens.toList[j]'(by omega)) (by rw [ew b (lt_of_heap hb')]; exact hb') (by rw [ew m (lt_of_heap hbm)]; exact hbm) (List.getElem_mem _) hnd
    simp [execOp, ho, hv, hrun]
theorem kont_entry {k : List Item} {dst : Option Nat} {ty : TypeId} {pos : String} {after : Array Edge} {gd : Option (Nat × Bool)} {r : List (Oper × G)} {s : St} {x : Operand} {li l c : Nat} {es : List Ent} {seen : List Nat} {q : IntKind} {kd : Kd} {e : Ent}
    (hx : evalO s.fr x = .mref li 0) (hit : s.h[li]? = some (iterOb l c c (seen ++ [e.b]))) (hkd : kd.ty = 1) (hob : s.h[l]? = some (mapObK kd q c es)) (he : e ∈ es) (ht : okO nt dst = true)
    (h1 : kont P base nt w0 Q (.ops r :: k) .normal ⟨putO s.fr dst (.tup [.raw (.int q e.k), e.v]), s.h⟩) :
    kont P base nt w0 Q (.ops ((⟨dst, .entry x, ty, pos, after, gd⟩, none) :: r) :: k) .normal s := by
  simp only [kont] at h1 ⊢
  exact AG_pure (entry_ok rfl hx hit hkd hob he) ht h1
end
end Go.Fg
namespace Go.Fg
set_option linter.unusedSimpArgs false
set_option linter.unusedVariables false
open Go.RowKit (Below)
def clearRow (off len : Nat) (zs : List D) (row : Nat → List D) : Nat → List D := fun k => bif Nat.ble off k && Nat.blt k (off + len) then zs else row k
theorem clearRow_lt {off len k : Nat} {zs : List D} {row : Nat → List D} (h : k < off) : clearRow off len zs row k = row k := by
  have : Nat.ble off k = false := by rw [← Bool.not_eq_true, Nat.ble_eq]; omega
  simp [clearRow, this]
section
variable {P : Program} {L : Lay} {base nt : Nat} {s : St} {o : Oper}
theorem clear_ok (hL : LayOk P L) {t e : TypeId} {x : Operand} {l g off len a b c : Nat} {z : Value} {zt : List Value} {ob : Ob} (ho : o.op = .call ⟨.builtin .clear, #[x], #[t]⟩) (hx : evalO s.fr x = .ref l g off len) (hob : s.h[l]? = some ob)
    (hk : ob.kd.isOne = false) (hg : ob.gen = g) (hs : ob.sz = 1) (hro : ob.kd.ro = false) (hn : off + len ≤ ob.n) (ht : ty L t = some ⟨.slice e, a, b, zt⟩) {k : TK} (he : ty L e = some ⟨k, 1, c, [z]⟩) (hz : oneV z = true) :
    EffOk P base nt o s (s.h.set l ⟨ob.kd, ob.gen, ob.sz, ob.n, clearRow off len [ofCell z] ob.row⟩) (.tup []) := by
  refine EffOk0.up ?_ (by simp [calm, ho])
  intro Z pl ac w r hbs
  have hv := r.eval x
  rw [hx] at hv
  obtain ⟨o', p', ad, cap, hvv, ho', hp', hk', hg', hat⟩ := inv_ref hv
  rw [hob] at ho'; cases ho'
  have hy := hL _ _ ht
  have hye := hL _ _ he
  have hu : P.underlying t = some (.slice e) := under_slice hy rfl
  obtain ⟨zv, hzz, hzr⟩ := hye.zeroValue
  have hzc : zv.cells = #[z] := by apply Array.toList_inj.1; rw [hzz]
  have hzl : (Builtin.zeroCells zv.cells len).toList = List.replicate len z := by
    rw [hzc]
    simp [Builtin.zeroCells]
    apply List.ext_getElem
    · simp
    · intro i h1 h2
      simp [Nat.mod_one]
  have hrz : ∀ Z' h' pl' w', RelV Z' h' pl' w' (ofCell z) z := fun Z' h' pl' w' =>
    .cl _ _ (cl_ofCell _ _ _)
  rcases hat hg.symm with ⟨hl0, hc0⟩ | ⟨bb, q, c0, el, hpp, haa, hb0, hsz0, hlc⟩
  · subst hl0
    have hrow : ∀ i, clearRow off 0 [ofCell z] ob.row i = ob.row i := fun i => by
      unfold clearRow
      cases h1 : Nat.ble off i && Nat.blt i (off + 0)
      · rfl
      · simp at h1; omega
    have hset : s.h.set l ⟨ob.kd, ob.gen, ob.sz, ob.n, clearRow off 0 [ofCell z] ob.row⟩ = s.h := by
      have e1 : (⟨ob.kd, ob.gen, ob.sz, ob.n, clearRow off 0 [ofCell z] ob.row⟩ : Ob) = ob := by rw [funext hrow]
      rw [e1]
      exact List.ext_getElem? fun i => by
        by_cases h : l = i
        · subst h; rw [List.getElem?_set_self (lt_of_some hob), hob]
        · rw [List.getElem?_set_ne h]
    rw [hset]
    refine ⟨.tuple #[], w, pl, .inl ?_, Tr.refl _ _ _, r.o, .tup [] [] rfl (fun i hi => absurd hi (Nat.not_lt_zero i)), Below.refl _ _⟩
    subst hc0
    cases ad <;> simp [execOp, ho, hvv, resolve, invoke, Go.builtin, Builtin.clear_, run_underlying hu]
  · subst hpp
    obtain ⟨hbase, xx⟩ := r.o.at_ l ob bb q hob hp'
    obtain ⟨c1, el1, hb, hcsz, hrl, hrow⟩ := xx.cells hk'
    rw [hb] at hb0; cases hb0
    have hkd : ∀ c2 : Nat → List D, (⟨ob.kd, ob.gen, ob.sz, ob.n, c2⟩ : Ob).kd = ob.kd := fun _ => rfl
    obtain ⟨w', c', g1, g2, g3, g4, g5, g6, g7, g8, g9⟩ := run_storeCells (P := P) bb el (List.replicate len z) 0 (q + off * ob.sz) w c0 hb (by simp; rw [hs] at hcsz ⊢; omega) (fun k hk => by
      have hk2 : k < len := by simpa using hk
      have : nthV (List.replicate len z) k = z := by simp [nthV, List.getD_eq_getElem?_getD, hk2]
      rw [this]; exact hz)
    have T : Tr s.h pl w (s.h.set l ⟨ob.kd, ob.gen, ob.sz, ob.n, clearRow off len [ofCell z] ob.row⟩) pl w' := Tr.upd r.o hob hp' rfl rfl rfl (fun k hk _ => g5 k hk) (fun c2 el2 e2 => by rw [hb] at e2; cases e2; exact ⟨c', g2, g3⟩)
    refine ⟨.tuple #[], w', pl, .inl ?_, T, ?_, .tup [] [] rfl (fun i hi => absurd hi (Nat.not_lt_zero i)), below_of (hbase hro) g5 g6 g7 g8 g9⟩
    · subst haa
      by_cases hl0 : len = 0
      · subst hl0
        have e1 : w' = w := by
          have : (storeCells ⟨bb, q + off * ob.sz, none⟩ (List.replicate 0 z) 0).run P w = .ok () w := by simp [storeCells]
          rw [g1] at this; cases this; rfl
        rw [e1]
        simp [execOp, ho, hvv, resolve, invoke, Go.builtin, Builtin.clear_, run_underlying hu]
      · obtain ⟨m, rfl⟩ : ∃ m, len = m + 1 := ⟨len - 1, by omega⟩
        simp [execOp, ho, hvv, resolve, invoke, Go.builtin, Builtin.clear_, run_underlying hu, hzr, hzl, g1]
    · refine RelO.upd (hro := rfl) r.o hob hp' hk' hk' rfl rfl (fun k hk _ => g5 k hk) hb g2 g3 (by rw [g3]; exact hcsz) (fun k hk => ?_) (fun k m hk hm => ?_)
      · show (clearRow off len [ofCell z] ob.row k).length = ob.sz
        unfold clearRow
        cases Nat.ble off k && Nat.blt k (off + len)
        · exact hrl k hk
        · simp [hs]
      · have hk2 : k < ob.n := hk
        have hm2 : m < ob.sz := hm
        show ∃ v, c'[q + (k * ob.sz + m)]? = some v ∧ RelV Z _ pl w' (nth (clearRow off len [ofCell z] ob.row k) m) v
        rw [hs] at hm2
        have hm0 : m = 0 := by omega
        subst hm0
        have hidx : k * ob.sz + 0 = k := by rw [hs]; omega
        have hidx2 : q + off * ob.sz + 0 = q + off := by rw [hs]; omega
        rw [g4, hidx, hidx2]
        simp only [List.length_replicate]
        by_cases hin : off ≤ k ∧ k < off + len
        · rw [if_pos (by omega)]
          have e1 : clearRow off len [ofCell z] ob.row k = [ofCell z] := by simp [clearRow, nat_ble, nat_blt, hin.1, hin.2]
          rw [e1]
          exact ⟨z, by rw [List.getElem?_replicate, if_pos (by omega)], hrz _ _ _ _⟩
        · rw [if_neg (by omega)]
          have e1 : clearRow off len [ofCell z] ob.row k = ob.row k := by
            unfold clearRow
            cases h : (Nat.ble off k && Nat.blt k (off + len))
            · rfl
            · simp at h; omega
          rw [e1]
          obtain ⟨v, hv1, hr1⟩ := hrow k 0 hk2 (by omega)
          rw [hidx] at hv1
          exact ⟨v, hv1, hr1.tr T⟩
end
section
variable {P : Program} {L : Lay} {base nt : Nat} {w0 : Start} {Q : Exit → St → Prop}
/-- The rule. -/
theorem kont_clear (hL : LayOk P L) (hb : base ≤ w0.w.heap.size) {k : List Item} {dst : Option Nat} {tyd : TypeId} {pos : String} {after : Array Edge} {gd : Option (Nat × Bool)} {r : List (Oper × G)} {s : St} {t e : TypeId} {x : Operand} {l g off len a b c : Nat} {z : Value} {zt : List Value} {ob : Ob}
    (hx : evalO s.fr x = .ref l g off len) (hob : s.h[l]? = some ob)
    (hk : ob.kd.isOne = false) (hg : ob.gen = g) (hs : ob.sz = 1) (hro : ob.kd.ro = false) (hn : off + len ≤ ob.n) (ht : ty L t = some ⟨.slice e, a, b, zt⟩) {tk : TK} (he : ty L e = some ⟨tk, 1, c, [z]⟩) (hz : oneV z = true) (hd : okO nt dst = true)
    (h1 : kont P base nt w0 Q (.ops r :: k) .normal ⟨putO s.fr dst (.tup []), s.h.set l ⟨ob.kd, ob.gen, ob.sz, ob.n, clearRow off len [ofCell z] ob.row⟩⟩) :
    kont P base nt w0 Q (.ops ((⟨dst, .call ⟨.builtin .clear, #[x], #[t]⟩, tyd, pos, after, gd⟩, none) :: r) :: k) .normal s := by
  simp only [kont] at h1 ⊢
  exact AG_eff hb (clear_ok hL rfl hx hob hk hg hs hro hn ht he hz) hd h1
end
end Go.Fg
namespace Go.Fg
set_option linter.unusedSimpArgs false
set_option linter.unusedVariables false
open Go.RowKit (Below)
theorem MFn.cut {P : Program} {f : FuncId} {F : List Ob} {args : List D} {R R' : D → List Ob → Prop} (hf : MFn P f F args R)
    (hr : ∀ d h, R d h → ∃ l o n', h[l]? = some o ∧ o.kd.ty = 0 ∧ n' ≤ o.n ∧ R' d (h.set l ⟨o.kd, o.gen, o.sz, n', o.row⟩)) : MFn P f F args R' := by
  intro Z base w pl vs h1 h2 h3 hl hc
  refine (hf Z base w pl vs h1 h2 h3 hl hc).mono fun e w' he => ?_
  obtain ⟨v, d, h, pl', rfl, hR, hO, hV, hT, hB⟩ := he
  obtain ⟨l, o, n', ho, hk, hn, hR'⟩ := hr _ _ hR
  have hl := lt_of_some ho
  have key : ∀ (x : Nat) (u : Ob), h[x]? = some u → ∃ u', (h.set l ⟨o.kd, o.gen, o.sz, n', o.row⟩)[x]? = some u' ∧ u'.gen = u.gen ∧ u'.sz = u.sz ∧ u'.kd.ty = u.kd.ty := fun x u e => by
    by_cases hx : l = x
    · subst hx
      rw [ho] at e; cases e
      exact ⟨_, List.getElem?_set_self hl, rfl, rfl, rfl⟩
    · exact ⟨u, by rw [List.getElem?_set_ne hx]; exact e, rfl, rfl, rfl⟩
  refine ⟨v, d, _, pl', rfl, hR', ⟨by simp [hO.len], hO.inj, fun x u e ep => ?_, fun x u b q e ep => ?_⟩, hV.kds key, ⟨hT.old, fun x u p e ep => ?_, fun x u u' b q e e' hg ep c el hc => ?_⟩, hB⟩
  · by_cases hx : l = x
    · subst hx
      rw [List.getElem?_set_self hl] at e; cases e
      have := hO.noRow l o ho ep
      show n' = 0
      omega
    · rw [List.getElem?_set_ne hx] at e
      exact hO.noRow x u e ep
  · by_cases hx : l = x
    · subst hx
      rw [List.getElem?_set_self hl] at e; cases e
      obtain ⟨g1, xx⟩ := hO.at_ l o b q ho ep
      obtain ⟨c, el, c1, c2, c3, c4⟩ := xx.cells hk
      refine ⟨g1, .ofCells hk ⟨c, el, c1, ?_, fun i hi => c3 i (Nat.lt_of_lt_of_le hi hn), fun i j hi hj => ?_⟩⟩
      · have := Nat.mul_le_mul_right o.sz hn
        show q + n' * o.sz ≤ c.size
        omega
      · obtain ⟨u, hu, hr⟩ := c4 i j (Nat.lt_of_lt_of_le hi hn) hj
        exact ⟨u, hu, hr.kds key⟩
    · rw [List.getElem?_set_ne hx] at e
      obtain ⟨g1, xx⟩ := hO.at_ x u b q e ep
      exact ⟨g1, xx.to rfl rfl rfl rfl (fun _ _ => rfl) fun i j v _ _ hr => hr.kds key⟩
  · obtain ⟨u', p', a1, a2, a3, a4, a5⟩ := hT.obj x u p e ep
    obtain ⟨u2, b1, b2, b3, b4⟩ := key x u' a1
    exact ⟨u2, p', b1, a2, by omega, by rw [b4, a4], fun hh => by rw [b3]; exact a5 (by omega)⟩
  · obtain ⟨u1, p', a1, a2, a3, a4, a5⟩ := hT.obj x u _ e ep
    obtain ⟨u2, b1, b2, b3, b4⟩ := key x u1 a1
    rw [e'] at b1; cases b1
    exact hT.shape x u u1 b q e a1 (by omega) ep c el hc
end Go.Fg
namespace Go.Fg
set_option linter.unusedSimpArgs false
set_option linter.unusedVariables false
open Go.RowKit (Below)
section
variable {P : Program} {L : Lay} {base nt : Nat} {s : St} {o : Oper}
theorem cap_nil_ok (hL : LayOk P L) {t : TypeId} {x : Operand} (ho : o.op = .call ⟨.builtin .cap, #[x], #[t]⟩) (hx : evalO s.fr x = .nil) {e a b : Nat} {zt : List Value} (ht : ty L t = some ⟨.slice e, a, b, zt⟩) : PureOk P base nt o s (.raw (.int .i64 0)) := by
  intro Z pl ac w r
  have hr := r.eval x
  rw [hx] at hr
  obtain ⟨a0, hv⟩ := inv_nil hr
  refine ⟨_, .cl _ _ (.raw _), fun w' _ => ?_⟩
  rw [run_builtin ho]
  simp [builtin, hv, Builtin.cap_, run_underlying (under_slice (hL _ _ ht) rfl), goInt]
theorem run_append_zeros {t ti e : TypeId} {ty0 : TypeId} {y : Ty} {k kn : IntKind} (ht : P.underlying t = some (.slice e)) (hti : P.underlying ti = some (.int kn)) (hy : TyOk P e y) (hz : y.zero.length = y.size) (hs : 0 < y.size) (w : World) (b : Option Addr) (n : Nat)
    (h0 : 0 < n) (h63 : n ≤ 4294967296) (hby : y.bytes ≤ 1024) :
    ∃ cap' rest, (Builtin.append_ #[t, ti] ty0 #[.slice b 0 0, .int k n]).run P w = .ok (.slice (some ⟨w.heap.size, 0, none⟩) n cap') (w.drew.alloc (.cells ((flat n y.size fun _ j => nthV y.zero j).toArray ++ rest) e)) ∧ n ≤ cap' ∧ rest.size = (cap' - n) * y.size := by
  obtain ⟨z, hzz, hzr⟩ := hy.zeroValue
  obtain ⟨i, hi, hi1, hi2⟩ := hy.typeInfo w
  have hi' : ∀ w, (typeInfo e).run P w = .ok i w := fun w => by
    have h4 := hy.info
    cases hx : P.info? e with
    | none => rw [hx] at h4; cases h4
    | some k =>
      simp [typeInfo, hx] at hi ⊢
      exact hi
  refine ⟨grownCap w n 0 e, Builtin.zeroCells z.cells (grownCap w n 0 e - n), ?_, grownCap_ge _ _ _ _, by rw [zeroCells_size]; congr 1; rw [← hz, ← hzz]; simp⟩
  have hn : ¬ n = 0 := by omega
  have hw : IntKind.i64.wrap (n : Int) = n := by rw [IntKind.wrap_i64]; omega
  have h63' : ¬ (9223372036854775807 < (n : Int)) := by omega
  have hmul : n * y.bytes ≤ 4294967296 * 1024 := Nat.mul_le_mul h63 hby
  have h48' : ¬ (281474976710656 < Builtin.nextslicecap n 0 * i.bytes) := by rw [nextslicecap_zero h0, hi2]; omega
  have h48i : ¬ (281474976710656 < (n : Int) * (i.bytes : Int)) := by
    rw [← Int.natCast_mul, hi2]
    omega
  have hneg : ¬ ((n : Int) < 0) := by omega
  have hns : ¬ (n * y.size = 0) := Nat.mul_ne_zero hn (by omega)
  have hzs : z.cells.size = y.size := by rw [← hz, ← hzz]; simp
  have hfl : (flat n y.size fun _ j => nthV y.zero j).toArray = Builtin.zeroCells z.cells n := by
    apply Array.ext
    · rw [zeroCells_size, hzs]; simp [flat_length]
    · intro j h1 h2
      simp only [List.size_toArray, flat_length] at h1
      obtain ⟨d1, d2, d3⟩ := div_lt h1
      have hz2 : y.zero = z.cells.toList := hzz.symm
      have hj : j % y.size < z.cells.size := by rw [hzs]; exact d2
      simp [flat, Builtin.zeroCells, nthV, hz2, List.getD_eq_getElem?_getD, hzs, hj]
      rw [getElem!_pos z.cells _ hj, Array.getElem?_eq_getElem hj]; rfl
  rw [hfl]
  cases b <;> simp [Builtin.append_, run_underlying ht, run_underlying hti, hy.sizeOf, hi', hzr, asInt, asIntOf, hw, hn, hneg, hns, h63', h48', h48i, Question.forced, Builtin.firstCells, loadCells, loadCellsFrom, newRow, grownCap, askRoom, mark, Sem.run]
theorem append_zeros_ok (hL : LayOk P L) {t ti e : TypeId} {x0 x : Operand} {n : Nat} {kn : IntKind} {a b c d : Nat} {zt zi : List Value} {y : Ty} {k : IntKind} (ho : o.op = .call ⟨.builtin .append, #[x0, x], #[t, ti]⟩) (hx0 : evalO s.fr x0 = .nil) (hx : evalO s.fr x = .raw (.int k n))
    (ht : ty L t = some ⟨.slice e, a, b, zt⟩) (hti : ty L ti = some ⟨.int kn, c, d, zi⟩) (hye : ty L e = some y) (hz : y.zero.length = y.size) (hs : 0 < y.size) (h0 : 0 < n) (h63 : n ≤ 4294967296) (hby : y.bytes ≤ 1024) :
    EffOk P base nt o s (s.h ++ [⟨.arr, 0, y.size, n, fun _ => y.zero.map ofCell⟩]) (.ref s.h.length 0 0 n) := by
  refine EffOk0.up ?_ (by simp [calm, ho])
  intro Z pl ac w r hbs
  have hr0 := r.eval x0
  have hrx := r.eval x
  rw [hx0] at hr0
  rw [hx] at hrx
  obtain ⟨a0, hv0⟩ := inv_nil hr0
  have hv := inv_raw hrx
  have hy := hL _ _ hye
  have hpl : pl.length = s.h.length := r.o.len
  obtain ⟨cap', rest, hrun, hcap, hrest⟩ := run_append_zeros (ty0 := o.type) (k := k) (under_slice (hL _ _ ht) rfl) (under_int (hL _ _ hti) rfl) hy hz hs w a0 n h0 h63 hby
  have e1 : ∀ b, b < w.heap.size → (w.drew.alloc (.cells ((flat n y.size fun _ j => nthV y.zero j).toArray ++ rest) e)).heap[b]? = w.heap[b]? := fun b hb => heap_push_old w.drew _ b hb
  have hnew : (w.drew.alloc (.cells ((flat n y.size fun _ j => nthV y.zero j).toArray ++ rest) e)).heap[w.heap.size]? = some (.cells ((flat n y.size fun _ j => nthV y.zero j).toArray ++ rest) e (0, 0)) := heap_alloc_new w.drew _
  have T : Tr s.h pl w (s.h ++ [⟨.arr, 0, y.size, n, fun _ => y.zero.map ofCell⟩]) (pl ++ [some (w.heap.size, 0)]) (w.drew.alloc (.cells ((flat n y.size fun _ j => nthV y.zero j).toArray ++ rest) e)) := Tr.push r.o e1 _ _ (by intro b q h; simp at h; omega)
  refine ⟨.slice (some ⟨w.heap.size, 0, none⟩) n cap', _, _, .inl ?_, T, RelO.push r.o e1 _ rfl (Nat.le_refl _) hbs hnew (by simp [flat_length]) (fun i hi => by simp [hz]) (fun i j hi hj => ⟨nthV y.zero j, ?_, ?_⟩), .ref _ _ _ _ ⟨.arr, 0, y.size, n, fun _ => y.zero.map ofCell⟩ (some (w.heap.size, 0)) _ _ (by simp) (by rw [← hpl]; simp) rfl (Nat.le_refl _) (fun _ => .inr ⟨w.heap.size, 0, _, _, rfl, by simp, hnew, ?_, hcap⟩), ((Below.refl base w).drew).alloc hbs _⟩
  · rw [run_builtin ho]
    have : (Array.map ac.eval #[x0, x]) = #[.slice a0 0 0, .int k n] := by simp [hv0, hv]
    rw [this]
    simp only [builtin, Sem.run_bind, hrun, Result.andThen_ok, Sem.run_pure]
  · have hg := flat_get (vs := fun _ j => nthV y.zero j) hi hj
    have hlt := (List.getElem?_eq_some_iff.1 hg).1
    rw [Nat.zero_add, Array.getElem?_append_left (by simpa using hlt)]
    simpa using hg
  · have hj2 : j < y.zero.length := by rw [hz]; exact hj
    have : nth (y.zero.map ofCell) j = ofCell (nthV y.zero j) := by simp [nth, nthV, List.getD_eq_getElem?_getD, hj2]
    show RelV Z _ _ _ (nth (y.zero.map ofCell) j) _
    rw [this]
    exact .cl _ _ (cl_ofCell _ _ _)
  · simp only [Nat.zero_add, Array.size_append, List.size_toArray, flat_length, hrest]
    rw [← Nat.add_mul]; exact Nat.mul_le_mul_right _ (by omega)
end
section
variable {P : Program} {L : Lay} {base nt : Nat} {w0 : Start} {Q : Exit → St → Prop}
theorem kont_cap_nil (hL : LayOk P L) {k : List Item} {dst : Option Nat} {tyd : TypeId} {pos : String} {after : Array Edge} {gd : Option (Nat × Bool)} {r : List (Oper × G)} {s : St} {t e a b : Nat} {x : Operand} {zt : List Value}
    (hx : evalO s.fr x = .nil) (ht : ty L t = some ⟨.slice e, a, b, zt⟩) (hd : okO nt dst = true) (h1 : kont P base nt w0 Q (.ops r :: k) .normal ⟨putO s.fr dst (.raw (.int .i64 0)), s.h⟩) :
    kont P base nt w0 Q (.ops ((⟨dst, .call ⟨.builtin .cap, #[x], #[t]⟩, tyd, pos, after, gd⟩, none) :: r) :: k) .normal s := by
  simp only [kont] at h1 ⊢
  exact AG_pure (cap_nil_ok hL rfl hx ht) hd h1
theorem kont_append_zeros (hL : LayOk P L) (hb : base ≤ w0.w.heap.size) {k : List Item} {dst : Option Nat} {tyd : TypeId} {pos : String} {after : Array Edge} {gd : Option (Nat × Bool)} {r : List (Oper × G)} {s : St} {t ti e : TypeId} {x0 x : Operand} {n : Nat} {kn : IntKind} {a b c d : Nat} {zt zi : List Value} {y : Ty} {ki : IntKind}
    (hx0 : evalO s.fr x0 = .nil) (hx : evalO s.fr x = .raw (.int ki n)) (ht : ty L t = some ⟨.slice e, a, b, zt⟩) (hti : ty L ti = some ⟨.int kn, c, d, zi⟩) (hye : ty L e = some y) (hz : y.zero.length = y.size) (hs : 0 < y.size) (h0 : 0 < n) (h63 : n ≤ 4294967296) (hby : y.bytes ≤ 1024) (hd : okO nt dst = true)
    (h1 : kont P base nt w0 Q (.ops r :: k) .normal ⟨putO s.fr dst (.ref s.h.length 0 0 n), s.h ++ [⟨.arr, 0, y.size, n, fun _ => y.zero.map ofCell⟩]⟩) :
    kont P base nt w0 Q (.ops ((⟨dst, .call ⟨.builtin .append, #[x0, x], #[t, ti]⟩, tyd, pos, after, gd⟩, none) :: r) :: k) .normal s := by
  simp only [kont] at h1 ⊢
  exact AG_eff hb (append_zeros_ok hL rfl hx0 hx ht hti hye hz hs h0 h63 hby) hd h1
end
end Go.Fg
namespace Go.Fg
set_option linter.unusedSimpArgs false
set_option linter.unusedVariables false
open Go.RowKit (Below)
variable {Z : Nat → Prop}
theorem Src.firstM {P : Program} {h : List Ob} {pl : List Pl} {w : World} {v : Value} {n sz : Nat} {rows : Nat → List D} {a : Option Addr} {cap : Nat} {vs : Nat → Nat → Value} (S : Src Z h pl w v n sz rows a cap vs) {m : Nat} (hm : m ≤ n) :
    (Builtin.firstCells sz m (.slice a n cap)).run P w = .ok (flat m sz vs).toArray w := by
  cases a with
  | none =>
    have : m * sz = 0 := by
      by_cases h : m * sz = 0
      · exact h
      · obtain ⟨h1, h2, _⟩ := div_lt (n := m) (sz := sz) (k := 0) (by omega)
        have hm0 : 0 < m := Nat.pos_of_ne_zero fun e => by subst e; simp at h
        have hs0 : 0 < sz := Nat.pos_of_ne_zero fun e => by subst e; simp at h
        obtain ⟨b, q, hh, _⟩ := S.cell 0 0 (by omega) hs0
        cases hh
    simp [Builtin.firstCells, flat, this]
  | some ad =>
    refine run_firstCells_some w sz m ad n cap _ (flat_length _ _ _) (fun k u hu => ?_)
    have hk : k < m * sz := by have := (List.getElem?_eq_some_iff.1 hu).1; rw [flat_length] at this; exact this
    obtain ⟨h1, h2, h3⟩ := div_lt hk
    obtain ⟨b, q, hh, hc⟩ := S.cell _ _ (show k / sz < n by omega) h2
    cases hh
    rw [← h3, flat_get h1 h2] at hu
    cases hu
    rw [add_mk, ← h3, hc]
    simp only [h3]
/-- The rows behind a copy of the first 'len' of 'rows' to the place 'off'. -/
def copyRow (off len : Nat) (rows row : Nat → List D) : Nat → List D := fun k => bif Nat.ble off k && Nat.blt k (off + len) then rows (k - off) else row k
section
variable {P : Program} {L : Lay} {base nt : Nat} {s : St} {o : Oper}
theorem copy_ok (hL : LayOk P L) {t t2 e : TypeId} {x0 x : Operand} {l g off len n a b : Nat} {zt : List Value} {ob : Ob} {p : Prop} {rows : Nat → List D} {y : Ty} (ho : o.op = .call ⟨.builtin .copy, #[x0, x], #[t, t2]⟩) (hx0 : evalO s.fr x0 = .ref l g off len) (hob : s.h[l]? = some ob)
    (hg : ob.gen = g) (hs : ob.sz = y.size) (hro : ob.kd.ro = false) (hn : off + len ≤ ob.n) (ht : ty L t = some ⟨.slice e, a, b, zt⟩) (hye : ty L e = some y)
    (hsrc : psrc s.h (evalO s.fr x) = some (p, n, y.size, rows)) (hp : p) (hle : len ≤ n) (hone : ∀ i, i < len → (rows i).all D.oneCell = true) :
    EffOk P base nt o s (s.h.set l ⟨ob.kd, ob.gen, ob.sz, ob.n, copyRow off len rows ob.row⟩) (.raw (.int .i64 len)) := by
  refine EffOk0.up ?_ (by simp [calm, ho])
  intro Z pl ac w r hbs
  have hv := r.eval x0
  rw [hx0] at hv
  obtain ⟨o', p', ad, cap, hvv, ho', hp', hk', hg', hat⟩ := inv_ref hv
  rw [hob] at ho'; cases ho'
  obtain ⟨ax, capx, vs, S⟩ := psrc_ok r.o (r.eval x) hsrc hp
  have hy := hL _ _ ht
  have hye' := hL _ _ hye
  have hu : P.underlying t = some (.slice e) := under_slice hy rfl
  have hmin : Nat.min n len = len := Nat.min_eq_right hle
  have hev : (Array.map ac.eval #[x0, x]) = #[.slice ad len cap, .slice ax n capx] := by simp [hvv, S.v]
  have hfirst := S.firstM (P := P) hle
  have hrv : ∀ Z' h' pl' w', RelV Z' h' pl' w' (.raw (.int .i64 len)) (.int .i64 len) := fun _ _ _ _ => .cl _ _ (.raw _)
  have fin : ∀ {w' : World}, (∀ a0, ad = some a0 → (storeCells a0 (flat len y.size vs)).run P w = .ok () w') → (ad = none → w' = w) → (execOp ac.eval o).run P w = .ok (.value (.int .i64 len)) w' := by
    intro w' h1 h2
    rw [run_builtin ho, hev]
    cases ad with
    | none =>
      have := h2 rfl
      subst this
      simp [builtin, Builtin.copy_, run_underlying hu, Builtin.lenOf, hye'.sizeOf, hmin, hfirst, goInt]
    | some a0 =>
      simp [builtin, Builtin.copy_, run_underlying hu, Builtin.lenOf, hye'.sizeOf, hmin, hfirst, goInt, h1 a0 rfl]
  rcases hat hg.symm with ⟨hl0, hc0⟩ | ⟨bb, q, c0, el, hpp, haa, hb0, hsz0, hlc⟩
  · subst hl0
    have hrow : ∀ i, copyRow off 0 rows ob.row i = ob.row i := fun i => by
      unfold copyRow
      cases h1 : Nat.ble off i && Nat.blt i (off + 0)
      · rfl
      · simp at h1; omega
    have hset : s.h.set l ⟨ob.kd, ob.gen, ob.sz, ob.n, copyRow off 0 rows ob.row⟩ = s.h := by
      have e1 : (⟨ob.kd, ob.gen, ob.sz, ob.n, copyRow off 0 rows ob.row⟩ : Ob) = ob := by rw [funext hrow]
      rw [e1]
      exact List.ext_getElem? fun i => by
        by_cases h : l = i
        · subst h; rw [List.getElem?_set_self (lt_of_some hob), hob]
        · rw [List.getElem?_set_ne h]
    rw [hset]
    refine ⟨.int .i64 0, w, pl, .inl (fin (fun a0 _ => ?_) fun _ => rfl), Tr.refl _ _ _, r.o, hrv _ _ _ _, Below.refl _ _⟩
    simp [flat, storeCells]
  · subst hpp
    obtain ⟨hbase, xx⟩ := r.o.at_ l ob bb q hob hp'
    obtain ⟨c1, el1, hb, hcsz, hrl, hrow⟩ := xx.cells hk'
    rw [hb] at hb0; cases hb0
    rw [hs] at hcsz hrl hrow haa hsz0
    obtain ⟨w', c', g1, g2, g3, g4, g5, g6, g7, g8, g9⟩ := run_storeCells (P := P) bb el (flat len y.size vs) 0 (q + off * y.size) w c0 hb (by
        have h1 := Nat.mul_le_mul_right y.size hn
        rw [Nat.add_mul] at h1
        simp only [flat_length]; omega) (fun k hk => by
      rw [flat_length] at hk
      obtain ⟨k1, k2, k3⟩ := div_lt hk
      have hg := flat_get (vs := vs) k1 k2
      rw [k3] at hg
      have : nthV (flat len y.size vs) k = vs (k / y.size) (k % y.size) := by simp [nthV, List.getD_eq_getElem?_getD, hg]
      rw [this]
      refine oneCell_ok (S.rel _ _ (by omega) k2) ?_
      have h2 := hone _ k1
      rw [List.all_eq_true] at h2
      refine h2 _ ?_
      have h3 : k % y.size < (rows (k / y.size)).length := by rw [S.len _ (by omega)]; exact k2
      simp only [nth, List.getD_eq_getElem?_getD, List.getElem?_eq_getElem h3, Option.getD_some]
      exact List.getElem_mem h3)
    have T : Tr s.h pl w (s.h.set l ⟨ob.kd, ob.gen, ob.sz, ob.n, copyRow off len rows ob.row⟩) pl w' := Tr.upd r.o hob hp' rfl rfl rfl (fun k hk _ => g5 k hk) (fun c2 el2 e2 => by rw [hb] at e2; cases e2; exact ⟨c', g2, g3⟩)
    refine ⟨.int .i64 len, w', pl, .inl (fin (fun a0 ha0 => ?_) fun h => by rw [haa] at h; cases h), T, ?_, hrv _ _ _ _, below_of (hbase hro) g5 g6 g7 g8 g9⟩
    · rw [haa] at ha0; cases ha0; exact g1
    · refine RelO.upd (hro := rfl) r.o hob hp' hk' hk' rfl rfl (fun k hk _ => g5 k hk) hb g2 g3 (by rw [g3, hs]; exact hcsz) (fun k hk => ?_) (fun k m hk hm => ?_)
      · show (copyRow off len rows ob.row k).length = ob.sz
        rw [hs]
        unfold copyRow
        cases hin : Nat.ble off k && Nat.blt k (off + len)
        · exact hrl k hk
        · simp at hin
          exact S.len _ (by omega)
      · have hk2 : k < ob.n := hk
        have hm2 : m < y.size := by rw [← hs]; exact hm
        show ∃ v, c'[q + (k * ob.sz + m)]? = some v ∧ RelV Z _ pl w' (nth (copyRow off len rows ob.row k) m) v
        rw [show q + (k * ob.sz + m) = q + (k * y.size + m) by rw [hs], g4]
        simp only [flat_length, Nat.add_zero]
        by_cases hin : off ≤ k ∧ k < off + len
        · have h1 := Nat.mul_le_mul_right y.size hin.1
          have h2 : k * y.size = (k - off) * y.size + off * y.size := by rw [← Nat.add_mul]; congr 1; omega
          have h3 := Nat.mul_le_mul_right y.size (show (k - off) + 1 ≤ len by omega)
          rw [Nat.add_mul] at h3
          have e1 : copyRow off len rows ob.row k = rows (k - off) := by simp [copyRow, nat_ble, nat_blt, hin.1, hin.2]
          rw [e1, if_pos (by omega)]
          refine ⟨vs (k - off) m, ?_, (S.rel (k - off) m (by omega) hm2).tr T⟩
          rw [show q + (k * y.size + m) - (q + off * y.size) = (k - off) * y.size + m by omega]
          exact flat_get (by omega) hm2
        · have e1 : copyRow off len rows ob.row k = ob.row k := by
            unfold copyRow
            cases h : (Nat.ble off k && Nat.blt k (off + len))
            · rfl
            · simp at h; omega
          obtain ⟨v, hv1, hr1⟩ := hrow k m hk2 hm2
          rw [e1, if_neg]
          · exact ⟨v, hv1, hr1.tr T⟩
          · rcases Nat.lt_or_ge k off with hlt | hge
            · have := Nat.mul_le_mul_right y.size (show k + 1 ≤ off from hlt); rw [Nat.add_mul] at this; omega
            · have := Nat.mul_le_mul_right y.size (show off + len ≤ k by omega); rw [Nat.add_mul] at this; omega
end
section
variable {P : Program} {L : Lay} {base nt : Nat} {w0 : Start} {Q : Exit → St → Prop}
/-- The rule. -/
theorem kont_copy (hL : LayOk P L) (hb : base ≤ w0.w.heap.size) {k : List Item} {dst : Option Nat} {tyd : TypeId} {pos : String} {after : Array Edge} {gd : Option (Nat × Bool)} {r : List (Oper × G)} {s : St} {t t2 e : TypeId} {x0 x : Operand} {l g off len n a b : Nat} {zt : List Value} {ob : Ob} {p : Prop} {rows : Nat → List D} {y : Ty}
    (hx0 : evalO s.fr x0 = .ref l g off len) (hob : s.h[l]? = some ob)
    (hg : ob.gen = g) (hs : ob.sz = y.size) (hro : ob.kd.ro = false) (hn : off + len ≤ ob.n) (ht : ty L t = some ⟨.slice e, a, b, zt⟩) (hye : ty L e = some y)
    (hsrc : psrc s.h (evalO s.fr x) = some (p, n, y.size, rows)) (hp : p) (hle : len ≤ n) (hone : ∀ i, i < len → (rows i).all D.oneCell = true) (hd : okO nt dst = true)
    (h1 : kont P base nt w0 Q (.ops r :: k) .normal ⟨putO s.fr dst (.raw (.int .i64 len)), s.h.set l ⟨ob.kd, ob.gen, ob.sz, ob.n, copyRow off len rows ob.row⟩⟩) :
    kont P base nt w0 Q (.ops ((⟨dst, .call ⟨.builtin .copy, #[x0, x], #[t, t2]⟩, tyd, pos, after, gd⟩, none) :: r) :: k) .normal s := by
  simp only [kont] at h1 ⊢
  exact AG_eff hb (copy_ok hL rfl hx0 hob hg hs hro hn ht hye hsrc hp hle hone) hd h1
end
def isSl : D → Bool
  | .imm _ _ _ => true
  | .ref _ _ _ _ => true
  | .nil => true
  | _ => false
theorem inv_sl {h : List Ob} {pl : List Pl} {w : World} {d : D} {v : Value} (r : RelV Z h pl w d v) (hd : isSl d = true) : ∃ a n cap, v = .slice a n cap := by
  cases d <;> simp only [isSl, Bool.false_eq_true] at hd
  all_goals first
    | (obtain ⟨a, e⟩ := inv_nil r; exact ⟨_, _, _, e⟩)
    | (obtain ⟨a, cap, _, _, _, e, _⟩ := inv_imm r; exact ⟨_, _, _, e⟩)
    | (obtain ⟨_, _, a, cap, e, _⟩ := inv_ref r; exact ⟨_, _, _, e⟩)
section
variable {P : Program} {L : Lay} {base nt : Nat} {s : St} {o : Oper}
theorem cut00_ok (hL : LayOk P L) {t e : TypeId} {x hi mx : Operand} {a b : Nat} {zt : List Value} {y : Ty} {k1 k2 : IntKind} (ho : o.op = .slice t x none (some hi) (some mx)) (hx : isSl (evalO s.fr x) = true) (h1 : evalO s.fr hi = .raw (.int k1 0)) (h2 : evalO s.fr mx = .raw (.int k2 0))
    (ht : ty L t = some ⟨.slice e, a, b, zt⟩) (hye : ty L e = some y) : PureOk P base nt o s .nil := by
  intro Z pl ac w r
  obtain ⟨ad, n, cap, hv⟩ := inv_sl (r.eval x) hx
  have hi1 := r.eval hi
  have hm1 := r.eval mx
  rw [h1] at hi1
  rw [h2] at hm1
  have e1 := inv_raw hi1
  have e2 := inv_raw hm1
  have hy := hL _ _ hye
  refine ⟨.slice ad 0 0, .cl _ _ (.nil _), fun w' _ => ?_⟩
  have b1 := fun (c : BoundsCode) => run_bound (P := P) w' (k := k1) (i := 0) (y := 0) (c := c) (by omega) (by simp)
  have b2 := fun (c : BoundsCode) => run_bound (P := P) w' (k := k2) (i := 0) (y := cap) (c := c) (by omega) (by simp)
  simp [execOp, ho, Instr.sliceAt, run_underlying (under_slice (hL _ _ ht) rfl), Instr.slice, Instr.sliceBounds, hv, e1, e2, b1, b2, hy.sizeOf]
/-- 'clear' of rows of any size. -/
theorem clearN_ok (hL : LayOk P L) {t e : TypeId} {x : Operand} {l g off len a b : Nat} {zt : List Value} {ob : Ob} {y : Ty} (ho : o.op = .call ⟨.builtin .clear, #[x], #[t]⟩) (hx : evalO s.fr x = .ref l g off len) (hob : s.h[l]? = some ob)
    (hg : ob.gen = g) (hs : ob.sz = y.size) (hro : ob.kd.ro = false) (hn : off + len ≤ ob.n) (ht : ty L t = some ⟨.slice e, a, b, zt⟩) (hye : ty L e = some y) (hyl : y.zero.length = y.size) (hpos : 0 < y.size) (hz : y.zero.all oneV = true) :
    EffOk P base nt o s (s.h.set l ⟨ob.kd, ob.gen, ob.sz, ob.n, clearRow off len (y.zero.map ofCell) ob.row⟩) (.tup []) := by
  refine EffOk0.up ?_ (by simp [calm, ho])
  intro Z pl ac w r hbs
  have hv := r.eval x
  rw [hx] at hv
  obtain ⟨o', p', ad, cap, hvv, ho', hp', hk', hg', hat⟩ := inv_ref hv
  rw [hob] at ho'; cases ho'
  have hyt := hL _ _ ht
  have hy := hL _ _ hye
  have hu : P.underlying t = some (.slice e) := under_slice hyt rfl
  obtain ⟨zv, hzz, hzr⟩ := hy.zeroValue
  have hzs : zv.cells.size = y.size := by rw [← hyl, ← hzz]; simp
  have hfl : (Builtin.zeroCells zv.cells len).toList = flat len y.size fun _ j => nthV y.zero j := by
    apply List.ext_getElem
    · simp [Builtin.zeroCells, flat_length, hzs]
    · intro j h1 h2
      simp only [flat_length] at h2
      obtain ⟨d1, d2, d3⟩ := div_lt h2
      have hz2 : y.zero = zv.cells.toList := hzz.symm
      have hj : j % y.size < zv.cells.size := by rw [hzs]; exact d2
      simp [flat, Builtin.zeroCells, nthV, hz2, List.getD_eq_getElem?_getD, hzs, hj]
      rw [getElem!_pos zv.cells _ hj, Array.getElem?_eq_getElem hj]; rfl
  rcases hat hg.symm with ⟨hl0, hc0⟩ | ⟨bb, q, c0, el, hpp, haa, hb0, hsz0, hlc⟩
  · subst hl0
    have hrow : ∀ i, clearRow off 0 (y.zero.map ofCell) ob.row i = ob.row i := fun i => by
      unfold clearRow
      cases h1 : Nat.ble off i && Nat.blt i (off + 0)
      · rfl
      · simp at h1; omega
    have hset : s.h.set l ⟨ob.kd, ob.gen, ob.sz, ob.n, clearRow off 0 (y.zero.map ofCell) ob.row⟩ = s.h := by
      have e1 : (⟨ob.kd, ob.gen, ob.sz, ob.n, clearRow off 0 (y.zero.map ofCell) ob.row⟩ : Ob) = ob := by rw [funext hrow]
      rw [e1]
      exact List.ext_getElem? fun i => by
        by_cases h : l = i
        · subst h; rw [List.getElem?_set_self (lt_of_some hob), hob]
        · rw [List.getElem?_set_ne h]
    rw [hset]
    refine ⟨.tuple #[], w, pl, .inl ?_, Tr.refl _ _ _, r.o, .tup [] [] rfl (fun i hi => absurd hi (Nat.not_lt_zero i)), Below.refl _ _⟩
    subst hc0
    cases ad <;> simp [execOp, ho, hvv, resolve, invoke, Go.builtin, Builtin.clear_, run_underlying hu]
  · subst hpp
    obtain ⟨hbase, xx⟩ := r.o.at_ l ob bb q hob hp'
    obtain ⟨c1, el1, hb, hcsz, hrl, hrow⟩ := xx.cells hk'
    rw [hb] at hb0; cases hb0
    rw [hs] at hcsz hrl hrow haa hsz0
    obtain ⟨w', c', g1, g2, g3, g4, g5, g6, g7, g8, g9⟩ := run_storeCells (P := P) bb el (flat len y.size fun _ j => nthV y.zero j) 0 (q + off * y.size) w c0 hb (by
        have h1 := Nat.mul_le_mul_right y.size hn
        rw [Nat.add_mul] at h1
        simp only [flat_length]; omega) (fun k hk => by
      rw [flat_length] at hk
      obtain ⟨k1, k2, k3⟩ := div_lt hk
      have hg := flat_get (vs := fun _ j => nthV y.zero j) k1 k2
      rw [k3] at hg
      have : nthV (flat len y.size fun _ j => nthV y.zero j) k = nthV y.zero (k % y.size) := by
        show (flat len y.size fun _ j => nthV y.zero j).getD k Go.undef = _
        rw [List.getD_eq_getElem?_getD, hg]; rfl
      rw [this]
      rw [List.all_eq_true] at hz
      refine hz _ ?_
      have h3 : k % y.size < y.zero.length := by rw [hyl]; exact k2
      simp only [nthV, List.getD_eq_getElem?_getD, List.getElem?_eq_getElem h3, Option.getD_some]
      exact List.getElem_mem h3)
    have T : Tr s.h pl w (s.h.set l ⟨ob.kd, ob.gen, ob.sz, ob.n, clearRow off len (y.zero.map ofCell) ob.row⟩) pl w' := Tr.upd r.o hob hp' rfl rfl rfl (fun k hk _ => g5 k hk) (fun c2 el2 e2 => by rw [hb] at e2; cases e2; exact ⟨c', g2, g3⟩)
    refine ⟨.tuple #[], w', pl, .inl ?_, T, ?_, .tup [] [] rfl (fun i hi => absurd hi (Nat.not_lt_zero i)), below_of (hbase hro) g5 g6 g7 g8 g9⟩
    · subst haa
      by_cases hl0 : len = 0
      · subst hl0
        have e1 : w' = w := by
          have : (storeCells ⟨bb, q + off * y.size, none⟩ (flat 0 y.size fun _ j => nthV y.zero j) 0).run P w = .ok () w := by simp [storeCells, flat]
          rw [g1] at this; cases this; rfl
        rw [e1]
        simp [execOp, ho, hvv, resolve, invoke, Go.builtin, Builtin.clear_, run_underlying hu]
      · obtain ⟨m, rfl⟩ : ∃ m, len = m + 1 := ⟨len - 1, by omega⟩
        simp [execOp, ho, hvv, resolve, invoke, Go.builtin, Builtin.clear_, run_underlying hu, hzr, hfl, g1]
    · refine RelO.upd (hro := rfl) r.o hob hp' hk' hk' rfl rfl (fun k hk _ => g5 k hk) hb g2 g3 (by rw [g3, hs]; exact hcsz) (fun k hk => ?_) (fun k m hk hm => ?_)
      · show (clearRow off len (y.zero.map ofCell) ob.row k).length = ob.sz
        rw [hs]
        unfold clearRow
        cases Nat.ble off k && Nat.blt k (off + len)
        · exact hrl k hk
        · simp [hyl]
      · have hk2 : k < ob.n := hk
        have hm2 : m < y.size := by rw [← hs]; exact hm
        show ∃ v, c'[q + (k * ob.sz + m)]? = some v ∧ RelV Z _ pl w' (nth (clearRow off len (y.zero.map ofCell) ob.row k) m) v
        rw [show q + (k * ob.sz + m) = q + (k * y.size + m) by rw [hs], g4]
        simp only [flat_length, Nat.add_zero]
        by_cases hin : off ≤ k ∧ k < off + len
        · have h1 := Nat.mul_le_mul_right y.size hin.1
          have h2 : k * y.size = (k - off) * y.size + off * y.size := by rw [← Nat.add_mul]; congr 1; omega
          have h3 := Nat.mul_le_mul_right y.size (show (k - off) + 1 ≤ len by omega)
          rw [Nat.add_mul] at h3
          have e1 : clearRow off len (y.zero.map ofCell) ob.row k = y.zero.map ofCell := by simp [clearRow, nat_ble, nat_blt, hin.1, hin.2]
          rw [e1, if_pos (by omega)]
          refine ⟨nthV y.zero m, ?_, ?_⟩
          · rw [show q + (k * y.size + m) - (q + off * y.size) = (k - off) * y.size + m by omega]
            exact flat_get (vs := fun _ j => nthV y.zero j) (show k - off < len by omega) hm2
          · have hj2 : m < y.zero.length := by rw [hyl]; exact hm2
            have : nth (y.zero.map ofCell) m = ofCell (nthV y.zero m) := by simp [nth, nthV, List.getD_eq_getElem?_getD, hj2]
            rw [this]
            exact .cl _ _ (cl_ofCell _ _ _)
        · have e1 : clearRow off len (y.zero.map ofCell) ob.row k = ob.row k := by
            unfold clearRow
            cases h : (Nat.ble off k && Nat.blt k (off + len))
            · rfl
            · simp at h; omega
          obtain ⟨v, hv1, hr1⟩ := hrow k m hk2 hm2
          rw [e1, if_neg]
          · exact ⟨v, hv1, hr1.tr T⟩
          · rcases Nat.lt_or_ge k off with hlt | hge
            · have := Nat.mul_le_mul_right y.size (show k + 1 ≤ off from hlt); rw [Nat.add_mul] at this; omega
            · have := Nat.mul_le_mul_right y.size (show off + len ≤ k by omega); rw [Nat.add_mul] at this; omega
end
section
variable {P : Program} {L : Lay} {base nt : Nat} {w0 : Start} {Q : Exit → St → Prop}
theorem kont_cut00 (hL : LayOk P L) {k : List Item} {dst : Option Nat} {tyd : TypeId} {pos : String} {after : Array Edge} {gd : Option (Nat × Bool)} {r : List (Oper × G)} {s : St} {t e a b : Nat} {x hi mx : Operand} {zt : List Value} {y : Ty} {k1 k2 : IntKind}
    (hx : isSl (evalO s.fr x) = true) (h1 : evalO s.fr hi = .raw (.int k1 0)) (h2 : evalO s.fr mx = .raw (.int k2 0)) (ht : ty L t = some ⟨.slice e, a, b, zt⟩) (hye : ty L e = some y) (hd : okO nt dst = true) (h3 : kont P base nt w0 Q (.ops r :: k) .normal ⟨putO s.fr dst .nil, s.h⟩) :
    kont P base nt w0 Q (.ops ((⟨dst, .slice t x none (some hi) (some mx), tyd, pos, after, gd⟩, none) :: r) :: k) .normal s := by
  simp only [kont] at h3 ⊢
  exact AG_pure (cut00_ok hL rfl hx h1 h2 ht hye) hd h3
theorem kont_clearN (hL : LayOk P L) (hb : base ≤ w0.w.heap.size) {k : List Item} {dst : Option Nat} {tyd : TypeId} {pos : String} {after : Array Edge} {gd : Option (Nat × Bool)} {r : List (Oper × G)} {s : St} {t e : TypeId} {x : Operand} {l g off len a b : Nat} {zt : List Value} {ob : Ob} {y : Ty}
    (hx : evalO s.fr x = .ref l g off len) (hob : s.h[l]? = some ob)
    (hg : ob.gen = g) (hs : ob.sz = y.size) (hro : ob.kd.ro = false) (hn : off + len ≤ ob.n) (ht : ty L t = some ⟨.slice e, a, b, zt⟩) (hye : ty L e = some y) (hyl : y.zero.length = y.size) (hpos : 0 < y.size) (hz : y.zero.all oneV = true) (hd : okO nt dst = true)
    (h1 : kont P base nt w0 Q (.ops r :: k) .normal ⟨putO s.fr dst (.tup []), s.h.set l ⟨ob.kd, ob.gen, ob.sz, ob.n, clearRow off len (y.zero.map ofCell) ob.row⟩⟩) :
    kont P base nt w0 Q (.ops ((⟨dst, .call ⟨.builtin .clear, #[x], #[t]⟩, tyd, pos, after, gd⟩, none) :: r) :: k) .normal s := by
  simp only [kont] at h1 ⊢
  exact AG_eff hb (clearN_ok hL rfl hx hob hg hs hro hn ht hye hyl hpos hz) hd h1
end
def lenI : D → Nat
  | .imm _ n _ => n
  | _ => 0
theorem inv_sl0 {h : List Ob} {pl : List Pl} {w : World} {d : D} {v : Value} (r : RelV Z h pl w d v) (hd : isSl d = true) : ∃ a n cap, v = .slice a n cap ∧ (a.isNone = true → lenI d = 0) := by
  cases d <;> simp only [isSl, Bool.false_eq_true] at hd
  all_goals first
    | (obtain ⟨a, e⟩ := inv_nil r; exact ⟨_, _, _, e, fun _ => rfl⟩)
    | (obtain ⟨a, cap, _, _, _, e, h0, _⟩ := inv_imm r
       refine ⟨_, _, _, e, fun hn => Nat.eq_zero_of_not_pos fun hp => ?_⟩
       have hq : 0 < _ := hp
       simp only [lenI] at hq
       rw [h0 hq] at hn; cases hn)
    | (obtain ⟨_, _, a, cap, e, _⟩ := inv_ref r; exact ⟨_, _, _, e, fun _ => rfl⟩)
section
variable {P : Program} {L : Lay} {base nt : Nat} {w0 : Start} {Q : Exit → St → Prop}
theorem AG_eqNil (hL : LayOk P L) {Q : Exit → St → Prop} {o : Oper} {rest : List (Oper × G)} {s : St} {t t' e a b : Nat} {x : Operand} {zt : List Value} (ho : o.op = .binOp .eql t x (.const (.slice none 0 0)) t') (hx : isSl (evalO s.fr x) = true) (ht : ty L t = some ⟨.slice e, a, b, zt⟩) (hd : okO nt o.dst = true)
    (hk : ∀ b : Bool, (b = true → lenI (evalO s.fr x) = 0) → AG P base nt w0 rest Q ⟨putO s.fr o.dst (.raw (.bool b)), s.h⟩) : AG P base nt w0 ((o, none) :: rest) Q s := by
  intro Z z pl ac w r b
  obtain ⟨ad, n, cap, hv, hb⟩ := inv_sl0 (r.eval x) hx
  have hc : ac.eval (.const (.slice none 0 0)) = .slice none 0 0 := rfl
  have hrun : (execOp ac.eval o).run P w = .ok (.value (.bool ad.isNone)) w := by
    have hu := under_slice (hL _ _ ht) rfl
    have he : (Op.equal t (.slice ad n cap) (.slice none 0 0)).run P w = .ok ad.isNone w := run_eql_of fun m => by
      cases ad <;> simp [Op.equalIn, run_underlying hu]
    have hq : (eqGuard .eql t x (.const (.slice none 0 0)) (.slice ad n cap) (.slice none 0 0)).run P w = .ok () w := by simp [eqGuard]
    simp [execOp, ho, hv, hc, Go.binOp, he, hq]
  simp only [wpG, wantedG, if_true]
  unfold Oper.wp
  rw [hrun]
  simp only [Oper.upon_value]
  refine hk _ hb Z z pl _ w ?_ b
  cases hdd : o.dst with
  | none => exact r
  | some t => rw [hdd] at hd; exact r.to (Tr.ext r.o fun _ _ => rfl) r.o (okO_lt hd) (.cl _ _ (.raw _))
theorem kont_eqNil (hL : LayOk P L) {k : List Item} {dst : Option Nat} {tyd : TypeId} {pos : String} {after : Array Edge} {gd : Option (Nat × Bool)} {r : List (Oper × G)} {s : St} {t t' e a b : Nat} {x : Operand} {zt : List Value}
    (hx : isSl (evalO s.fr x) = true) (ht : ty L t = some ⟨.slice e, a, b, zt⟩) (hd : okO nt dst = true) (h1 : ∀ b : Bool, (b = true → lenI (evalO s.fr x) = 0) → kont P base nt w0 Q (.ops r :: k) .normal ⟨putO s.fr dst (.raw (.bool b)), s.h⟩) :
    kont P base nt w0 Q (.ops ((⟨dst, .binOp .eql t x (.const (.slice none 0 0)) t', tyd, pos, after, gd⟩, none) :: r) :: k) .normal s := by
  simp only [kont] at h1 ⊢
  exact AG_eqNil hL rfl hx ht hd h1
end
end Go.Fg
