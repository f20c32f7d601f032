/- Walks of the functions that the statement reaches. No conditions: contracts and laws. -/
import Derived.Test.YtbijdpnacnnaoaaGreatFgRule
import Derived.OrdersHeld
namespace Go.Fg
set_option linter.unusedSimpArgs false
set_option linter.unusedVariables false
open Go.RowKit (Below)
variable {Z : Nat → Prop}

/-- Number j waits, by edges among what is not yet listed, for number i. -/
inductive Dep (ops : Array Oper) (listed : Array Bool) (i : Nat) : Nat → Prop
  | edge (j : Nat) (oj : Oper) (e : Edge) (hj : ops[j]? = some oj) (he : e ∈ oj.after) (hb : Region.binds .any e = true) (h : e.on = i) : Dep ops listed i j
  | step (j : Nat) (oj : Oper) (e : Edge) (hj : ops[j]? = some oj) (he : e ∈ oj.after) (hb : Region.binds .any e = true) (hu : listed.getD e.on true = false) (h : Dep ops listed i e.on) : Dep ops listed i j

theorem both {listed : Array Bool} {i : Nat} (h : listed.getD i true = false) : listed.getD i false = false := by
  rcases Nat.lt_or_ge i listed.size with h' | h'
  · simp [h'] at h ⊢; exact h
  · simp [Array.getElem?_eq_none h'] at h
theorem Dep.not_ready {ops : Array Oper} {listed : Array Bool} {i j : Nat} (h : Dep ops listed i j) (hi : listed.getD i true = false) : j ∉ Region.ready .any ops listed := by
  intro hr
  obtain ⟨_, oj', hoj, hall⟩ := mem_ready.1 hr
  cases h with
  | edge _ oj e hj he hb h =>
    rw [hj] at hoj; cases hoj
    have := hall e he hb
    rw [h, both hi] at this; cases this
  | step _ oj e hj he hb hu h =>
    rw [hj] at hoj; cases hoj
    have := hall e he hb
    rw [both hu] at this; cases this
theorem Dep.set {ops : Array Oper} {listed : Array Bool} {i j k : Nat} (h : Dep ops listed i j) (hi : listed.getD i true = false) (hk : k ∈ Region.ready .any ops listed) : Dep ops (listed.setIfInBounds k true) i j := by
  induction h with
  | edge j oj e hj he hb h => exact .edge j oj e hj he hb h
  | step j oj e hj he hb hu h ih =>
    refine .step j oj e hj he hb ?_ ih
    have : k ≠ e.on := fun hek => by subst hek; exact h.not_ready hi hk
    rw [getD_set_ne true this]; exact hu

def wpAnyE (P : Program) (ops : Array Oper) (N : Act → World → Prop) (cm : Nat → World → World → Prop) : Nat → Array Bool → Act → World → Prop
  | 0, listed, a, w => Region.ready .any ops listed = [] ∧ N a w
  | n + 1, listed, a, w => (Region.ready .any ops listed = [] → N a w) ∧
    ∀ i ∈ Region.ready .any ops listed, wpOp P ops (fun _ _ _ => False) i (fun a' w' => cm i w w' ∧ wpAnyE P ops N cm n (listed.setIfInBounds i true) a' w') a w

theorem wp_noexit {P : Program} {o : Oper} {a : Act} {w : World} {K : Act → World → Prop} {Q : Exit → Act → World → Prop} (h : o.wp P a w K (fun _ _ _ => False)) : o.wp P a w K Q := by
  unfold Oper.wp at *
  generalize (execOp a.eval o).run P w = r at *
  cases r with
  | ok n w' =>
    cases n <;> simp only [Oper.upon] at h ⊢ <;> first | exact h | skip
    · exact Calls.mono h fun e w'' he => by cases e <;> first | exact he | exact he.elim | exact (let ⟨_, _, h⟩ := he; h.elim)
  | halt x w' => cases x <;> simp only [Oper.upon] at h ⊢ <;> exact h.elim
theorem wpAny_of_E {P : Program} {ops : Array Oper} {N : Act → World → Prop} {cm : Nat → World → World → Prop} {Q : Exit → Act → World → Prop} (hQ : ∀ a w, N a w → Q .normal a w) : ∀ (n : Nat) (listed : Array Bool) (a : Act) (w : World), wpAnyE P ops N cm n listed a w → wpAny P .any ops Q n listed a w
  | 0, _, _, _, h => ⟨h.1, hQ _ _ h.2⟩
  | n + 1, listed, a, w, h => ⟨fun e => hQ _ _ (h.1 e), fun i hi => by
    have := h.2 i hi
    unfold wpOp at this ⊢
    split
    · rename_i ho; simp only [ho] at this; exact wpAny_of_E hQ n _ _ _ this.2
    · rename_i o ho
      simp only [ho] at this
      split
      · rename_i hw
        simp only [hw, if_true] at this
        rcases this with h1 | ⟨_, _, _, h2⟩
        · exact .inl (wp_noexit (Oper.wp_mono (fun a' w' h' => wpAny_of_E hQ n _ _ _ h'.2) h1))
        · exact h2.elim
      · rename_i hw
        simp only [hw] at this
        exact wpAny_of_E hQ n _ _ _ this.2⟩

/-- What looks at no world. -/
def still (L : Lay) (o : Oper) : Bool := match o.op with
  | .extract .. => true
  | .move _ => true
  | .nilCheck _ => true
  | .fieldAddr t _ f => match pfield L t f with
    | some (_, y) => !Nat.beq y.size 0
    | none => false
  | _ => false
theorem still_run {P : Program} {L : Lay} (hL : LayOk P L) {o : Oper} (hs : still L o = true) {ρ : Operand → Value} {w : World} {v : Value} (h : (execOp ρ o).run P w = .ok (.value v) w) (w' : World) : (execOp ρ o).run P w' = .ok (.value v) w' := by
  unfold still at hs
  split at hs
  · rename_i x i ho
    simp only [execOp, ho, Instr.extract] at h ⊢
    split at h <;> first | skip | (simp at h)
    all_goals (first | (split at h <;> first | (simp at h) | skip) | skip)
    all_goals (first | (simp at h ⊢; exact h) | simp_all)
  · rename_i x ho
    simp only [execOp, ho] at h ⊢
    simp at h ⊢
    exact h
  · rename_i x ho
    exact ((Quiet.nilCheck ho ρ) w _ w h).2 w'
  · rename_i t x f ho
    split at hs
    · rename_i off y hf
      obtain ⟨g, fd, hg, hfd, _, hy⟩ := pfield_ok hL hf
      have hy0 : y.size ≠ 0 := fun e => by rw [e] at hs; cases hs
      cases hx : ρ x with
      | pointer a =>
        cases a with
        | some a =>
          have e : ∀ w : World, (execOp ρ o).run P w = .ok (.value (.pointer (some (a.add fd.offset)))) w := fun w => by
            simp [execOp, ho, hx, Instr.fieldAt, run_underlying hg, hfd, Instr.sureAddr, fieldPlace, hy.sizeOf, hy0]
          rw [e w] at h
          rw [e w']
          simp at h ⊢
          exact h
        | none => simp [execOp, ho, hx, Instr.fieldAt, run_underlying hg, hfd, Instr.sureAddr, stuck] at h
      | _ => simp [execOp, ho, hx, Instr.fieldAt, run_underlying hg, hfd, Instr.sureAddr, stuck] at h
    · cases hs
  · cases hs

theorem wpAnyE_first {P : Program} {ops : Array Oper} {N : Act → World → Prop} {cm : Nat → World → World → Prop} {i : Nat} {oi : Oper} {v : Value} {S : World → Prop} (hci : ∀ w, cm i w w) (hi : ops[i]? = some oi) (hsel : ∀ (j : Nat) (o : Oper) cs b, ops[j]? = some o → o.op ≠ .select cs b) :
    ∀ (fuel : Nat) (listed : Array Bool) (a : Act) (w1 : World), S w1 →
      (∀ j oj, ops[j]? = some oj → j ≠ i → listed.getD j true = false → Dep ops listed i j ∨ ((∀ w w', cm j w w' → S w → S w') ∧ oi.apart ops oj = true)) →
      i ∈ Region.ready .any ops listed → YieldsIf P ops S oi v a →
      wpAnyE P ops N cm fuel (listed.setIfInBounds i true) (a.put oi.dst v) w1 → wpAnyE P ops N cm (fuel + 1) listed a w1 := by
  intro fuel
  induction fuel with
  | zero =>
    intro listed a w1 hext _ hr hy H
    refine ⟨fun h => (by rw [h] at hr; cases hr), fun j hj => ?_⟩
    by_cases hji : j = i
    · subst hji; exact hy.wpOp hi hext ⟨hci _, H⟩
    · have := ready_mono hj hji
      rw [H.1] at this
      cases this
  | succ fuel ih =>
    intro listed a w1 hext hfree hr hy H
    have hun := (mem_ready.1 hr).1
    refine ⟨fun h => (by rw [h] at hr; cases hr), fun j hj => ?_⟩
    by_cases hji : j = i
    · subst hji; exact hy.wpOp hi hext ⟨hci _, H⟩
    · have h1 := H.2 j (ready_mono hj hji)
      obtain ⟨hjun, oj, hoj, hall⟩ := mem_ready.1 hj
      obtain ⟨hcm, hap⟩ := (hfree j oj hoj hji hjun).resolve_left fun hd => hd.not_ready hun hj
      have h2 := wpOp_putIf hoj hap (fun cs b => hsel i oi cs b hi) (fun cs b => hsel j oj cs b hoj) (fun _ _ _ h => h) hy h1
      refine wpOp_mono (fun a' w' h3 => ?_) h2
      refine ⟨h3.2.1, ih (listed.setIfInBounds j true) a' w' (hcm _ _ h3.2.1 hext) (fun k ok hk hki hun' => ?_) (ready_mono hr (Ne.symm hji)) h3.1 ?_⟩
      · have hku : listed.getD k true = false := by
          by_cases hjk : j = k
          · subst hjk; exact hjun
          · rw [getD_set_ne true hjk] at hun'; exact hun'
        exact (hfree k ok hk hki hku).imp (fun hd => hd.set hun hj) id
      · rw [Array.setIfInBounds_comm _ _ hji]
        exact h3.2.2

/-! The check of an order. -/
def memB (i : Nat) : List Nat → Bool
  | [] => false
  | j :: r => Nat.beq i j || memB i r
theorem memB_iff {i : Nat} : ∀ {l : List Nat}, memB i l = true ↔ i ∈ l
  | [] => by simp [memB]
  | j :: r => by simp [memB, memB_iff (l := r)]
def waitsB (i : Nat) : List Edge → Bool
  | [] => false
  | e :: r => (Region.binds .any e && Nat.beq e.on i) || waitsB i r
def heldB (done : List Nat) : List Edge → Bool
  | [] => false
  | e :: r => (Region.binds .any e && !memB e.on done) || heldB done r
def depB (ops : Array Oper) (done : List Nat) (i : Nat) : Nat → List Edge → Bool
  | 0, _ => false
  | _ + 1, [] => false
  | n + 1, e :: r => (Region.binds .any e && (Nat.beq e.on i || (!memB e.on done && match ops[e.on]? with
      | some o => depB ops done i n o.after.toList
      | none => false))) || depB ops done i n r
def loadB (o : Oper) : Bool := match o.op with
  | .load .. => true
  | _ => false
def insB (o : Oper) : Bool := match o.op with
  | .insert .. => true
  | _ => false
def pureB (nc : List Nat) (L : Lay) (ops : Array Oper) (done : List Nat) (i : Nat) (oi : Oper) : List (Nat × Bool × Option Oper) → Bool
  | [] => true
  | (j, _, some oj) :: r => (waitsB i oj.after.toList || (((calm oj && !memB j nc) || still L oi || (loadB oi && insB oj)) && oi.apart ops oj) || depB ops done i (4 * ops.size) oj.after.toList) && pureB nc L ops done i oi r
  | (_, _, none) :: _ => false
def coverB (l : List Nat) : Nat → Bool
  | 0 => true
  | n + 1 => memB n l && coverB l n
theorem coverB_ok {l : List Nat} : ∀ {n : Nat}, coverB l n = true → ∀ j, j < n → j ∈ l
  | 0, _, j, h => by omega
  | n + 1, h, j, hj => by
    simp only [coverB, Bool.and_eq_true, memB_iff] at h
    by_cases e : j = n
    · subst e; exact h.1
    · exact coverB_ok h.2 j (by omega)
theorem waitsB_ok {i : Nat} : ∀ {l : List Edge}, waitsB i l = true → ∃ e ∈ l, Region.binds .any e = true ∧ e.on = i
  | [], h => by cases h
  | e :: r, h => by
    simp only [waitsB, Bool.or_eq_true, Bool.and_eq_true, Nat.beq_eq] at h
    rcases h with h | h
    · exact ⟨e, by simp, h.1, h.2⟩
    · obtain ⟨e', h1, h2⟩ := waitsB_ok h; exact ⟨e', by simp [h1], h2⟩
theorem heldB_ok {done : List Nat} : ∀ {l : List Edge}, heldB done l = true → ∃ e ∈ l, Region.binds .any e = true ∧ e.on ∉ done
  | [], h => by cases h
  | e :: r, h => by
    simp only [heldB, Bool.or_eq_true, Bool.and_eq_true, Bool.not_eq_true'] at h
    rcases h with h | h
    · exact ⟨e, by simp, h.1, fun hm => by rw [memB_iff.2 hm] at h; cases h.2⟩
    · obtain ⟨e', h1, h2⟩ := heldB_ok h; exact ⟨e', by simp [h1], h2⟩
theorem heldB_not {done : List Nat} : ∀ {l : List Edge}, heldB done l = false → ∀ e ∈ l, Region.binds .any e = true → e.on ∈ done
  | [], _, e, h, _ => by cases h
  | e :: r, h, e', h', hb => by
    simp only [heldB, Bool.or_eq_false_iff, Bool.and_eq_false_iff] at h
    rcases List.mem_cons.1 h' with h1 | h1
    · subst h1
      rcases h.1 with h2 | h2
      · rw [hb] at h2; cases h2
      · exact memB_iff.1 (by simpa using h2)
    · exact heldB_not h.2 e' h1 hb

structure Marks (ops : Array Oper) (listed : Array Bool) (done : List Nat) : Prop where
  size : listed.size = ops.size
  get : ∀ j, j < ops.size → (listed.getD j true = false ↔ j ∉ done)
  get' : ∀ j, listed.getD j false = true ↔ j ∈ done ∧ j < ops.size
  lt : ∀ j, j ∈ done → j < ops.size
theorem Marks.set {ops : Array Oper} {listed : Array Bool} {done : List Nat} (M : Marks ops listed done) {i : Nat} (hi : i < ops.size) : Marks ops (listed.setIfInBounds i true) (i :: done) where
  size := by simp [M.size]
  get := fun j hj => by
    by_cases e : i = j
    · subst e; simp [M.size, hi]
    · rw [getD_set_ne true e, M.get j hj]; simp [Ne.symm e]
  get' := fun j => by
    by_cases e : i = j
    · subst e; simp [M.size, hi]
    · rw [getD_set_ne false e, M.get' j]; simp [Ne.symm e]
  lt := fun j hj => by
    rcases List.mem_cons.1 hj with e | e
    · subst e; exact hi
    · exact M.lt j e
/-! What makes a new object may come up early: the object is taken up late. -/
def lateT (o : Oper) : Bool := match o.op with
  | .alloc _ => true
  | .makeMap _ none => true
  | _ => false
/-- The operation makes object 'ob', told by 'mk' of its number, whatever the world. -/
def LateOk (P : Program) (o : Oper) (ob : Ob) (mk : Nat → D) : Prop := ∃ (obj : Obj) (val : Nat → Value),
  (∀ (ρ : Operand → Value) (w : World), (execOp ρ o).run P w = .ok (.value (val w.heap.size)) (w.alloc obj)) ∧
  (∀ (Z : Nat → Prop) (h : List Ob) (pl : List Pl) (w : World) (b : Nat), w.heap[b]? = some obj → ObAt Z h pl w ob b 0) ∧
  (∀ (Z : Nat → Prop) (h : List Ob) (pl : List Pl) (w : World) (l b : Nat), h[l]? = some ob → pl[l]? = some (some (b, 0)) → RelV Z h pl w (mk l) (val b))
theorem late_alloc {P : Program} {L : Lay} (hL : LayOk P L) {o : Oper} {t : TypeId} (ho : o.op = .alloc t) {y : Ty} (hy : ty L t = some y) :
    LateOk P o ⟨.one, 0, (y.zero.map ofCell).length, 1, fun _ => y.zero.map ofCell⟩ (fun l => .ptr l 0 0 0) := by
  obtain ⟨z, hz, hrun⟩ := (hL _ _ hy).zeroValue
  refine ⟨.cells z.cells t, fun b => .pointer (some ⟨b, 0, none⟩), fun ρ w => ?_, fun Z h pl w b hb => ?_, fun Z h pl w l b h1 h2 => ?_⟩
  · simp [execOp, ho, Instr.alloc, newVar, newRow, hrun]
  · refine .ofCells rfl ⟨z.cells, t, hb, by simp [← hz], fun _ _ => rfl, fun i j hi hj => ?_⟩
    have hi0 : i = 0 := by simp at hi; omega
    subst hi0
    have hj' : j < z.cells.size := by rw [← hz] at hj; simpa using hj
    refine ⟨nthV z.cells.toList j, ?_, .cl _ _ ?_⟩
    · simp only [Nat.zero_mul, Nat.zero_add, nthV, List.getD_eq_getElem?_getD]
      rw [Array.getElem?_toList, Array.getElem?_eq_getElem hj']; rfl
    · rw [← hz]
      simp only [nth, nthV, List.getD_eq_getElem?_getD, List.getElem?_map, Array.getElem?_toList, Array.getElem?_eq_getElem hj', Option.map_some, Option.getD_some]
      exact cl_ofCell _ _ _
  · exact .ptr _ _ _ _ _ (some (b, 0)) _ h1 h2 rfl (Nat.le_refl _) (fun _ => ⟨_, _, rfl, by simp⟩)

theorem late_make {P : Program} {o : Oper} {t : TypeId} (ho : o.op = .makeMap t none) (q : IntKind) : LateOk P o (mapOb q 0 []) (fun l => .mref l 0) := by
  refine ⟨.map #[] 0, fun b => .map (some b), fun ρ w => ?_, fun Z h pl w b hb => ?_, fun Z h pl w l b h1 h2 => ?_⟩
  · simp [execOp, ho, Instr.makeMap]
  · exact mapAt_of (kd := .map) hb ⟨rfl, fun i e a h => by simp at h, fun i j a a' _ h => by simp at h⟩ rfl
  · exact .mref _ _ (mapOb q 0 []) (some (b, 0)) b h1 h2 ⟨by simp [mapOb, mapObK, Kd.ty], rfl⟩ (Nat.le_refl _) (fun _ => rfl)

/-! The walk over abstract states. -/
section
variable (P : Program) (base nt : Nat) (w0 : Start)
/-- An operation that is not told to change memory that stands. -/
def calmS (o : Oper) : Bool := calm o && !(o.pos == "!")
def stripN (b : Bool) (o : Oper) : Oper := ⟨o.dst, o.op, o.type, bif b then "!" else "", #[], none⟩
theorem wp_stripN {P : Program} {b : Bool} {o : Oper} {a : Act} {w : World} {K : Act → World → Prop} {Q : Exit → Act → World → Prop} : (stripN b o).wp P a w K Q = o.wp P a w K Q := rfl
theorem calmS_strip (b : Bool) (o : Oper) : calmS (stripN b o) = (calm o && !b) := by cases b <;> simp [calmS, stripN, calm]
def CmO (o : Oper) (w w' : World) : Prop := match o.op with
  | .insert .. => ExtC w w'
  | _ => calmS o = true → Ext w w'
theorem CmO.ext {o : Oper} {w w' : World} (h : Ext w w') : CmO o w w' := by
  unfold CmO
  split
  · exact .ext h
  · exact fun _ => h
theorem CmO.calm {o : Oper} {w w' : World} (h : CmO o w w') (hc : calmS o = true) : Ext w w' := by
  unfold CmO at h
  split at h
  · rename_i ho; simp [calmS, Go.Fg.calm, ho] at hc
  · exact h hc
theorem CmO.ins {o : Oper} {w w' : World} (h : CmO o w w') (hc : insB o = true) : ExtC w w' := by
  unfold insB at hc
  split at hc
  · rename_i ho; unfold CmO at h; rw [ho] at h; exact h
  · cases hc
theorem CmO.mk {o : Oper} {w w' : World} (h : calmS o = true → Ext w w') (hi : insB o = false) : CmO o w w' := by
  unfold CmO
  split
  · rename_i ho; simp [insB, ho] at hi
  · exact h
def cmP (nc : List Nat) (ops : Array Oper) (i : Nat) (w w' : World) : Prop := match ops[i]? with
  | some o => CmO (stripN (memB i nc) o) w w'
  | none => True
theorem cmP_at {nc : List Nat} {ops : Array Oper} {i : Nat} {o : Oper} {w w' : World} (ho : ops[i]? = some o) : cmP nc ops i w w' = CmO (stripN (memB i nc) o) w w' := by simp only [cmP, ho]
def AE (o : Oper) (F : St → Prop) (s : St) : Prop := ∀ (Z : Nat → Prop), ZOk w0 Z → ∀ pl a w, Rel Z base nt s pl a w → Since Z base w0 s.h pl w →
  o.wp P a w (fun a' w' => CmO o w w' ∧ ∃ d h' pl' v, F ⟨putO s.fr o.dst d, h'⟩ ∧ Rel Z base nt ⟨putO s.fr o.dst d, h'⟩ pl' a' w' ∧ Since Z base w0 h' pl' w' ∧ Tr s.h pl w h' pl' w' ∧ a' = a.put o.dst v) (fun _ _ _ => False)
def AXo (pu : Bool) (o : Oper) (F : St → Prop) (s : St) : Prop := match pu with
  | true => ∃ d, PureOk P base nt o s d ∧ (loadB o = true → PureOkC P base nt o s d) ∧ okO nt o.dst = true ∧ F ⟨putO s.fr o.dst d, s.h⟩
  | false => match lateT o with
    | true => ∃ ob mk, LateOk P o ob mk ∧ okO nt o.dst = true ∧ F ⟨putO s.fr o.dst (mk s.h.length), s.h ++ [ob]⟩
    | false => AE P base nt w0 o F s
def AX (K : St → Prop) : List (Bool × Oper × G) → St → Prop
  | [], s => K s
  | (pu, o, g) :: r, s => match g with
    | none => AXo P base nt w0 pu o (AX K r) s
    | some (none, _) => okO nt o.dst = true ∧ AX K r ⟨putO s.fr o.dst (.raw Go.undef), s.h⟩
    | some (some t, b) => match get s.fr t with
      | .raw (.bool x) => (x = b → AXo P base nt w0 pu o (AX K r) ⟨put s.fr t (.raw (.bool b)), s.h⟩) ∧
          (x = (!b) → okO nt o.dst = true ∧ AX K r ⟨putO (put s.fr t (.raw (.bool (!b)))) o.dst (.raw Go.undef), s.h⟩)
      | .raw (.tuple _) => okO nt o.dst = true ∧ AX K r ⟨putO s.fr o.dst (.raw Go.undef), s.h⟩
      | _ => False
end
def pickO (nc : List Nat) (ops : Array Oper) (l : List (Nat × Bool)) : List (Bool × Oper × G) := l.map fun ip => match ops[ip.1]? with
  | some o => (ip.2, stripN (memB ip.1 nc) o, guardOf ops o)
  | none => (ip.2, ⟨none, .move (.tmp 0), 0, "", #[], none⟩, none)

section
variable {nc : List Nat} {P : Program} {base nt : Nat} {w0 : Start}
theorem late_AE {o : Oper} {ob : Ob} {mk : Nat → D} {F : St → Prop} {s : St} (h : LateOk P o ob mk) (ht : okO nt o.dst = true) (hbase : base ≤ w0.w.heap.size) (hF : F ⟨putO s.fr o.dst (mk s.h.length), s.h ++ [ob]⟩) : AE P base nt w0 o F s := by
  intro Z z pl a w r b
  obtain ⟨obj, val, h1, h2, h3⟩ := h
  have e : ∀ k, k < w.heap.size → (w.alloc obj).heap[k]? = w.heap[k]? := fun k hk => heap_push_old w obj k hk
  have hnew : (w.alloc obj).heap[w.heap.size]? = some obj := heap_alloc_new w obj
  have hsize : base ≤ w.heap.size := Nat.le_trans hbase b.1.size
  have T : Tr s.h pl w (s.h ++ [ob]) (pl ++ [some (w.heap.size, 0)]) (w.alloc obj) := Tr.push r.o e _ _ (by intro k q hh; simp at hh; omega)
  have R' := RelO.push' r.o e ob (Nat.le_refl _) hsize (h2 Z (s.h ++ [ob]) (pl ++ [some (w.heap.size, 0)]) _ _ hnew)
  have hv : RelV Z (s.h ++ [ob]) (pl ++ [some (w.heap.size, 0)]) (w.alloc obj) (mk s.h.length) (val w.heap.size) := h3 Z _ _ _ _ _ (by simp) (by rw [← r.o.len]; simp)
  unfold Oper.wp
  rw [h1 a.eval w]
  simp only [Oper.upon_value]
  refine ⟨CmO.ext fun k hk => e k hk, _, _, _, _, hF, ?_, b.step T (below_alloc hsize obj), T, rfl⟩
  cases hd : o.dst with
  | none => exact r.to' T R' _
  | some t => rw [hd] at ht; exact r.to T R' (okO_lt ht) hv
theorem AXo.ae (hbase : base ≤ w0.w.heap.size) {o : Oper} {F : St → Prop} {s : St} (h : AXo P base nt w0 false o F s) : AE P base nt w0 o F s := by
  simp only [AXo] at h
  split at h
  · obtain ⟨ob, mk, h1, h2, h3⟩ := h; exact late_AE h1 h2 hbase h3
  · exact h

theorem RelV.trZ {Z Z' : Nat → Prop} {h h' : List Ob} {pl pl' : List Pl} {w w' : World} (hf : ∀ b, free Z pl b → b < w.heap.size → free Z' pl' b ∧ w'.heap[b]? = w.heap[b]?)
    (hobj : ∀ (l : Nat) (o : Ob) (p : Pl), h[l]? = some o → pl[l]? = some p → h'[l]? = some o ∧ pl'[l]? = some p) (hb : ∀ (l b q : Nat), pl[l]? = some (some (b, q)) → w'.heap[b]? = w.heap[b]?) {d : D} {v : Value} (r : RelV Z h pl w d v) : RelV Z' h' pl' w' d v := by
  induction r with
  | cl d v hc => exact .cl d v (hc.mono hf)
  | ref l g off len o p a cap ho hp hk hg hs =>
    refine .ref l g off len o p a cap (hobj l o p ho hp).1 (hobj l o p ho hp).2 hk hg fun hgg => ?_
    rcases hs hgg with h1 | ⟨b, q, c, el, hpp, ha, hb', hc, hl⟩
    · exact .inl h1
    · exact .inr ⟨b, q, c, el, hpp, ha, by rw [hb l b q (by rw [hp, hpp])]; exact hb', hc, hl⟩
  | ptr l g i j o p a ho hp hk hg hs => exact .ptr l g i j o p a (hobj l o p ho hp).1 (hobj l o p ho hp).2 hk hg hs
  | mref l g o p b ho hp hk hg hs => exact .mref l g o p b (hobj l o p ho hp).1 (hobj l o p ho hp).2 hk hg hs
  | clo f nf cs vs hl hr ih => exact .clo f nf cs vs hl ih
  | agg cs vs hl hr ih => exact .agg cs vs hl ih
  | tup cs vs hl hr ih => exact .tup cs vs hl ih
theorem RelO.trZ {Z Z' : Nat → Prop} {h : List Ob} {pl : List Pl} {w w' : World} (R : RelO Z base h pl w) (hf : ∀ b, free Z pl b → b < w.heap.size → free Z' pl b ∧ w'.heap[b]? = w.heap[b]?) (e : ∀ b, b < w.heap.size → w'.heap[b]? = w.heap[b]?) : RelO Z' base h pl w' where
  len := R.len
  inj := R.inj
  noRow := R.noRow
  at_ := fun l o b q ho hp => by
    obtain ⟨h1, x⟩ := R.at_ l o b q ho hp
    exact ⟨h1, x.to rfl rfl rfl (e b (R.lt hp).1) (fun _ _ => rfl) fun i j v _ _ hr => hr.trZ hf (fun _ _ _ a b => ⟨a, b⟩) (fun l b q hp => e b (R.lt hp).1)⟩
theorem RelO.adopt {Z Z' : Nat → Prop} {h : List Ob} {pl : List Pl} {w : World} (R : RelO Z base h pl w) {b : Nat} (hf : ∀ c, free Z pl c → free Z' (pl ++ [some (b, 0)]) c) (ha : away pl b) (hbase : base ≤ b) {ob : Ob}
    (hx : ObAt Z' (h ++ [ob]) (pl ++ [some (b, 0)]) w ob b 0) : RelO Z' base (h ++ [ob]) (pl ++ [some (b, 0)]) w := by
  refine ⟨by simp [R.len], ?_, ?_, ?_⟩
  · intro l l' b' q q' e1 e2
    rcases append_inv e1 with h1 | ⟨h1, h1'⟩ <;> rcases append_inv e2 with h2 | ⟨h2, h2'⟩
    · exact R.inj l l' b' q q' h1 h2
    · simp at h2'; obtain ⟨rfl, rfl⟩ := h2'; exact absurd h1 (ha l q)
    · simp at h1'; obtain ⟨rfl, rfl⟩ := h1'; exact absurd h2 (ha l' q')
    · omega
  · intro l o ho e1
    rcases append_inv e1 with h1 | ⟨h1, h1'⟩
    · rcases append_inv ho with h2 | ⟨h2, h2'⟩
      · exact R.noRow l o h2 h1
      · have := ltp_of_some h1; have := R.len; omega
    · simp at h1'
  · intro l o b' q ho hpl
    rcases append_inv hpl with h1 | ⟨h1, h1'⟩
    · rcases append_inv ho with h2 | ⟨h2, h2'⟩
      · obtain ⟨g1, x⟩ := R.at_ l o b' q h2 h1
        exact ⟨g1, x.to rfl rfl rfl rfl (fun _ _ => rfl) fun i j v _ _ hr => hr.trZ (fun c hc _ => ⟨hf c hc, rfl⟩) (fun _ _ _ a b => ⟨append_left_some a, append_left_some b⟩) (fun _ _ _ _ => rfl)⟩
      · have := ltp_of_some h1; have := R.len; omega
    · rcases append_inv ho with h2 | ⟨h2, h2'⟩
      · have := lt_of_some h2; have := R.len; omega
      · subst h2'
        simp at h1'
        obtain ⟨rfl, rfl⟩ := h1'
        exact ⟨fun _ => hbase, hx⟩

/-- The check of an order, with what may come up early. -/
def lateAt (ops : Array Oper) (i : Nat) : Bool := match ops[i]? with
  | some o => lateT o && o.guard.isNone && o.after.toList.isEmpty
  | none => false
def heldN (ops : Array Oper) (done : List Nat) (i : Nat) : List Edge → Bool
  | [] => false
  | e :: r => (Region.binds .any e && !memB e.on done && (!lateAt ops e.on || Nat.beq e.on i)) || heldN ops done i r
def aloneN (ops : Array Oper) (done : List Nat) (i : Nat) : List (Nat × Bool × Option Oper) → Bool
  | [] => true
  | (j, _, some oj) :: r => (lateAt ops j || heldN ops done i oj.after.toList) && aloneN ops done i r
  | (_, _, none) :: _ => false
/-- What is left, to be taken in whatever order. -/
def tailN (ops : Array Oper) (R : List Nat) : List (Nat × Bool × Option Oper) := R.map fun i => (i, false, ops[i]?)
def schedN (nc : List Nat) (L : Lay) (ops : Array Oper) (R : List Nat) : List (Nat × Bool × Option Oper) → List Nat → Bool
  | [], _ => true
  | (i, p, some o) :: r, done => !memB i done && !heldB done o.after.toList && (match p with
    | true => !lateAt ops i && pureB nc L ops done i o (r ++ tailN ops R)
    | false => aloneN ops done i (r ++ tailN ops R)) && schedN nc L ops R r (i :: done)
  | (_, _, none) :: _, _ => false
theorem heldN_ok {ops : Array Oper} {done : List Nat} {i : Nat} : ∀ {l : List Edge}, heldN ops done i l = true → ∃ e ∈ l, Region.binds .any e = true ∧ e.on ∉ done ∧ (lateAt ops e.on = false ∨ e.on = i)
  | [], h => by cases h
  | e :: r, h => by
    simp only [heldN, Bool.or_eq_true, Bool.and_eq_true, Bool.not_eq_true', Nat.beq_eq] at h
    rcases h with h | h
    · exact ⟨e, by simp, h.1.1, (fun hm => by rw [memB_iff.2 hm] at h; exact absurd h.1.2 (by simp)), h.2⟩
    · obtain ⟨e', h1, h2⟩ := heldN_ok h; exact ⟨e', by simp [h1], h2⟩
theorem aloneN_ok {ops : Array Oper} {done : List Nat} {i : Nat} : ∀ {r : List (Nat × Bool × Option Oper)}, (∀ x ∈ r, x.2.2 = ops[x.1]?) → aloneN ops done i r = true → ∀ x ∈ r, ∀ oj, ops[x.1]? = some oj → lateAt ops x.1 = true ∨ heldN ops done i oj.after.toList = true
  | [], _, _, x, hx, _, _ => by cases hx
  | (j, p, none) :: r, _, h, _, _, _, _ => by cases h
  | (j, p, some o) :: r, hr, h, x, hx, oj, hoj => by
    simp only [aloneN, Bool.and_eq_true, Bool.or_eq_true] at h
    rcases List.mem_cons.1 hx with h1 | h1
    · subst h1
      have e : some o = ops[j]? := hr (j, p, some o) (by simp)
      have hoj : ops[j]? = some oj := hoj
      rw [hoj] at e; cases e
      exact h.1
    · exact aloneN_ok (fun y hy => hr y (by simp [hy])) h.2 x h1 oj hoj

abbrev En := Nat × Bool × Option Nat
def idsN (l : List En) : List Nat := l.map (·.1)
def pbN (l : List En) : List (Nat × Bool) := l.map fun x => (x.1, x.2.1)
def early : List En → List Nat
  | [] => []
  | (i, _, some _) :: r => i :: early r
  | (_, _, none) :: r => early r
def blocks : List En → List Nat
  | [] => []
  | (_, _, some b) :: r => b :: blocks r
  | (_, _, none) :: r => blocks r
def cntN : List En → Nat
  | [] => 0
  | (_, _, some _) :: r => cntN r
  | (_, _, none) :: r => cntN r + 1
theorem mem_early {j : Nat} : ∀ {l : List En}, j ∈ early l ↔ ∃ p b, (j, p, some b) ∈ l
  | [] => by simp [early]
  | (i, p, some b) :: r => by
    simp only [early, List.mem_cons, mem_early (l := r), Prod.mk.injEq, Option.some.injEq]
    constructor
    · rintro (rfl | ⟨p', b', h⟩)
      · exact ⟨p, b, .inl ⟨rfl, rfl, rfl⟩⟩
      · exact ⟨p', b', .inr h⟩
    · rintro ⟨p', b', ⟨rfl, _⟩ | h⟩
      · exact .inl rfl
      · exact .inr ⟨p', b', h⟩
  | (i, p, none) :: r => by
    simp only [early, List.mem_cons, mem_early (l := r), Prod.mk.injEq, reduceCtorEq, and_false, false_or]
theorem mem_blocks {c : Nat} : ∀ {l : List En}, c ∈ blocks l ↔ ∃ j p, (j, p, some c) ∈ l
  | [] => by simp [blocks]
  | (i, p, some b) :: r => by
    simp only [blocks, List.mem_cons, mem_blocks (l := r), Prod.mk.injEq, Option.some.injEq]
    constructor
    · rintro (rfl | ⟨p', b', h⟩)
      · exact ⟨i, p, .inl ⟨rfl, rfl, rfl⟩⟩
      · exact ⟨p', b', .inr h⟩
    · rintro ⟨p', b', ⟨_, _, rfl⟩ | h⟩
      · exact .inl rfl
      · exact .inr ⟨p', b', h⟩
  | (i, p, none) :: r => by
    simp only [blocks, List.mem_cons, mem_blocks (l := r), Prod.mk.injEq, reduceCtorEq, and_false, false_or]
theorem cntN_set {j : Nat} {p : Bool} {b : Nat} {l2 : List En} : ∀ l1 : List En, cntN (l1 ++ (j, p, none) :: l2) = cntN (l1 ++ (j, p, some b) :: l2) + 1
  | [] => rfl
  | (_, _, some _) :: r => cntN_set r
  | (_, _, none) :: r => by
    simp only [List.cons_append, cntN]
    rw [cntN_set (b := b) r]
theorem blocks_set {j : Nat} {p : Bool} {b : Nat} {l2 : List En} : ∀ l1 : List En, b ∉ blocks (l1 ++ (j, p, none) :: l2) → (blocks (l1 ++ (j, p, none) :: l2)).Nodup → (blocks (l1 ++ (j, p, some b) :: l2)).Nodup
  | [], h, k => by simp only [List.nil_append, blocks] at h k ⊢; exact List.nodup_cons.2 ⟨h, k⟩
  | (i, q, some c) :: r, h, k => by
    simp only [List.cons_append, blocks, List.mem_cons, not_or] at h k ⊢
    obtain ⟨k1, k2⟩ := List.nodup_cons.1 k
    refine List.nodup_cons.2 ⟨fun hm => ?_, blocks_set r h.2 k2⟩
    obtain ⟨j', p', hj⟩ := mem_blocks.1 hm
    rcases List.mem_append.1 hj with h1 | h1
    · exact k1 (mem_blocks.2 ⟨j', p', List.mem_append.2 (.inl h1)⟩)
    · rcases List.mem_cons.1 h1 with h2 | h2
      · cases h2; exact h.1 rfl
      · exact k1 (mem_blocks.2 ⟨j', p', List.mem_append.2 (.inr (List.mem_cons.2 (.inr h2)))⟩)
  | (i, q, none) :: r, h, k => by
    simp only [List.cons_append, blocks] at h k ⊢
    exact blocks_set r h k

/-- What came up early and is not taken up yet. -/
structure Pend (P : Program) (ops : Array Oper) (nt : Nat) (w0 : Start) (pl : List Pl) (a : Act) (w : World) (i b : Nat) : Prop where
  run : ∃ (o : Oper) (d : Nat) (w1 : World) (ρ : Operand → Value) (v : Value) (obj : Obj), ops[i]? = some o ∧ o.dst = some d ∧ (execOp ρ o).run P w1 = .ok (.value v) (w1.alloc obj) ∧ b = w1.heap.size ∧ w.heap[b]? = some obj ∧ (d < nt → a.tmps.getD d Go.undef = v)
  away : away pl b
  low : w0.w.heap.size ≤ b
theorem put_other {a : Act} {t : Option Nat} {d : Nat} {v : Value} (h : t ≠ some d) : (a.put t v).tmps.getD d Go.undef = a.tmps.getD d Go.undef := by
  cases t with
  | none => rfl
  | some t =>
    have : t ≠ d := fun e => h (by rw [e])
    simp [Act.put, Array.getD_eq_getD_getElem?, Array.getElem?_setIfInBounds_ne this]
theorem Pend.step {P : Program} {ops : Array Oper} {nt : Nat} {w0 : Start} {h h' : List Ob} {pl pl' : List Pl} {a : Act} {w w' : World} {i b : Nat} (p : Pend P ops nt w0 pl a w i b) (T : Tr h pl w h' pl' w') {t : Option Nat} (v : Value)
    (hd : ∀ o d, ops[i]? = some o → o.dst = some d → t ≠ some d) : Pend P ops nt w0 pl' (a.put t v) w' i b := by
  obtain ⟨o, d, w1, ρ, u, obj, h1, h2, h3, h4, h5, h6⟩ := p.run
  obtain ⟨k1, k2⟩ := T.old b p.away (lt_of_heap h5)
  exact ⟨⟨o, d, w1, ρ, u, obj, h1, h2, h3, h4, by rw [k2]; exact h5, fun hn => by rw [put_other (hd o d h1 h2)]; exact h6 hn⟩, k1, p.low⟩
theorem get_putO_other {fr : List (Nat × D)} {t : Option Nat} {u : Nat} {d : D} (h : t ≠ some u) : get (putO fr t d) u = get fr u := by
  cases t with
  | none => rfl
  | some t => rw [putO, get_put, if_neg (fun e => h (by rw [e]))]

structure InvN (nc : List Nat) (P : Program) (L : Lay) (ops : Array Oper) (R : List Nat) (base nt : Nat) (w0 : Start) (Z0 Z : Nat → Prop) (l : List En) (done : List Nat) (listed : Array Bool) (s : St) (pl : List Pl) (a : Act) (w : World) : Prop where
  sched : schedN nc L ops R ((pbN l).map fun ip => (ip.1, ip.2, ops[ip.1]?)) done = true
  cover : ∀ j, j < ops.size → j ∉ done → j ∈ idsN l ∨ j ∈ R
  rnd : ∀ j ∈ R, j ∉ done ∧ j ∉ idsN l ∧ lateAt ops j = false
  marks : Marks ops listed (early l ++ done)
  late : ∀ i p b, (i, p, some b) ∈ l → lateAt ops i = true
  lp : ∀ i p q, (i, p, q) ∈ l → lateAt ops i = true → p = false
  z : ∀ b, Z b ↔ Z0 b ∧ b ∉ blocks l
  z0 : ∀ i p b, (i, p, some b) ∈ l → Z0 b
  nod : (blocks l).Nodup
  und : ∀ i p q, (i, p, q) ∈ l → lateAt ops i = true → ∀ o d, ops[i]? = some o → o.dst = some d → get s.fr d = .undef
  rel : Rel Z base nt s pl a w
  since : Since Z base w0 s.h pl w
  pend : ∀ i p b, (i, p, some b) ∈ l → Pend P ops nt w0 pl a w i b

theorem schedN_not {L : Lay} {ops : Array Oper} {R : List Nat} : ∀ {l : List En} {done : List Nat}, schedN nc L ops R ((pbN l).map fun ip => (ip.1, ip.2, ops[ip.1]?)) done = true → ∀ j, j ∈ idsN l → j ∉ done
  | [], _, _, j, hj => by simp [idsN] at hj
  | (i, p, q) :: r, done, h, j, hj => by
    simp only [pbN, List.map_cons] at h
    cases ho : ops[i]? with
    | none => rw [ho] at h; cases h
    | some o =>
      rw [ho] at h
      simp only [schedN, Bool.and_eq_true, Bool.not_eq_true'] at h
      simp only [idsN, List.map_cons, List.mem_cons] at hj
      rcases hj with rfl | hj
      · exact fun hm => by rw [memB_iff.2 hm] at h; exact absurd h.1.1.1 (by simp)
      · exact fun hm => schedN_not (l := r) h.2 j hj (List.mem_cons.2 (.inr hm))
theorem Marks.same {ops : Array Oper} {listed : Array Bool} {d d' : List Nat} (M : Marks ops listed d) (h : ∀ j, j ∈ d ↔ j ∈ d') : Marks ops listed d' where
  size := M.size
  get := fun j hj => by rw [M.get j hj, h]
  get' := fun j => by rw [M.get', h]
  lt := fun j hj => M.lt j ((h j).2 hj)
theorem lateAt_spec {ops : Array Oper} {i : Nat} {o : Oper} (ho : ops[i]? = some o) (h : lateAt ops i = true) : lateT o = true ∧ o.guard = none ∧ ∀ e, e ∉ o.after := by
  simp only [lateAt, ho, Bool.and_eq_true, Option.isNone_iff_eq_none, List.isEmpty_iff] at h
  exact ⟨h.1.1, h.1.2, fun e he => by have : e ∈ o.after.toList := by simpa using he
                                      rw [h.2] at this; cases this⟩
theorem depB_okN {ops : Array Oper} {listed : Array Bool} {done ea : List Nat} (M : Marks ops listed (ea ++ done)) (hea : ∀ j ∈ ea, lateAt ops j = true) {i : Nat} : ∀ {n : Nat} {j : Nat} {oj : Oper} {l : List Edge}, ops[j]? = some oj → (∀ e ∈ l, e ∈ oj.after) → depB ops done i n l = true → Dep ops listed i j
  | 0, _, _, _, _, _, h => by cases h
  | n + 1, _, _, [], _, _, h => by cases h
  | n + 1, j, oj, e :: r, hj, hl, h => by
    simp only [depB, Bool.or_eq_true, Bool.and_eq_true, Nat.beq_eq, Bool.not_eq_true'] at h
    rcases h with ⟨hb, h1 | ⟨h1, h2⟩⟩ | h
    · exact .edge j oj e hj (hl e (by simp)) hb h1
    · split at h2
      · rename_i o ho
        have hlt := (Array.getElem?_eq_some_iff.1 ho).1
        refine .step j oj e hj (hl e (by simp)) hb ((M.get e.on hlt).2 fun hm => ?_) (depB_okN M hea ho (fun e he => by simpa using he) h2)
        rcases List.mem_append.1 hm with h3 | h3
        · have h4 := (lateAt_spec ho (hea _ h3)).2.2
          have : o.after.toList = [] := List.eq_nil_iff_forall_not_mem.2 fun e he => h4 e (by simpa using he)
          rw [this] at h2
          cases n <;> simp [depB] at h2
        · rw [memB_iff.2 h3] at h1; cases h1
      · cases h2
    · exact depB_okN M hea hj (fun e he => hl e (by simp [he])) h
theorem pureB_okN {L : Lay} {ops : Array Oper} {done ea : List Nat} {i : Nat} {oi : Oper} {listed : Array Bool} (M : Marks ops listed (ea ++ done)) (hea : ∀ j ∈ ea, lateAt ops j = true) : ∀ {r : List (Nat × Bool × Option Oper)}, (∀ x ∈ r, x.2.2 = ops[x.1]?) → pureB nc L ops done i oi r = true → ∀ x ∈ r, ∀ oj, ops[x.1]? = some oj → Dep ops listed i x.1 ∨ ((((calm oj = true ∧ memB x.1 nc = false) ∨ still L oi = true) ∨ (loadB oi = true ∧ insB oj = true)) ∧ oi.apart ops oj = true)
  | [], _, _, x, hx, _, _ => by cases hx
  | (j, p, none) :: r, _, h, _, _, _, _ => by cases h
  | (j, p, some o) :: r, hr, h, x, hx, oj, hoj => by
    simp only [pureB, Bool.and_eq_true, Bool.or_eq_true] at h
    rcases List.mem_cons.1 hx with h1 | h1
    · subst h1
      have e : some o = ops[j]? := hr (j, p, some o) (by simp)
      have hoj : ops[j]? = some oj := hoj
      rw [hoj] at e
      cases e
      rcases h.1 with (h2 | h2) | h2
      · obtain ⟨e, he, hb, hon⟩ := waitsB_ok h2
        exact .inl (.edge j _ e hoj (by simpa using he) hb hon)
      · simp only [Bool.not_eq_true'] at h2; exact .inr h2
      · exact .inl (depB_okN M hea hoj (fun e he => by simpa using he) h2)
    · exact pureB_okN M hea (fun y hy => hr y (by simp [hy])) h.2 x h1 oj hoj

/-- No other operation writes the slot of what may come up early. -/
def Dst1 (ops : Array Oper) : Prop := ∀ (i j : Nat) (oi oj : Oper) (d : Nat), i ≠ j → lateAt ops i = true → ops[i]? = some oi → ops[j]? = some oj → oi.dst = some d → oj.dst ≠ some d

theorem InvN.head {L : Lay} {ops : Array Oper} {R : List Nat} {Z0 Z : Nat → Prop} {i : Nat} {p : Bool} {q : Option Nat} {r : List En} {done : List Nat} {listed : Array Bool} {s : St} {pl : List Pl} {a : Act} {w : World} (I : InvN nc P L ops R base nt w0 Z0 Z ((i, p, q) :: r) done listed s pl a w) :
    ∃ o, ops[i]? = some o ∧ i ∉ done ∧ (∀ e ∈ o.after, Region.binds .any e = true → e.on ∈ done) ∧
      (p = true → lateAt ops i = false ∧ pureB nc L ops done i o ((pbN r).map (fun ip => (ip.1, ip.2, ops[ip.1]?)) ++ tailN ops R) = true) ∧ (p = false → aloneN ops done i ((pbN r).map (fun ip => (ip.1, ip.2, ops[ip.1]?)) ++ tailN ops R) = true) ∧
      schedN nc L ops R ((pbN r).map fun ip => (ip.1, ip.2, ops[ip.1]?)) (i :: done) = true := by
  have h := I.sched
  simp only [pbN, List.map_cons] at h
  cases ho : ops[i]? with
  | none => rw [ho] at h; cases h
  | some o =>
    rw [ho] at h
    simp only [schedN, Bool.and_eq_true, Bool.not_eq_true'] at h
    refine ⟨o, rfl, fun hm => by rw [memB_iff.2 hm] at h; exact absurd h.1.1.1 (by simp), fun e he hb => heldB_not h.1.1.2 e (by simpa using he) hb, fun hp => ?_, fun hp => ?_, h.2⟩
    · subst hp; have := h.1.2; simp only [Bool.and_eq_true, Bool.not_eq_true'] at this; exact this
    · subst hp; exact h.1.2
theorem mem_ids {i : Nat} {p : Bool} {q : Option Nat} {l : List En} (h : (i, p, q) ∈ l) : i ∈ idsN l := List.mem_map.2 ⟨_, h, rfl⟩

theorem InvN.next {L : Lay} {ops : Array Oper} {R : List Nat} (hD : Dst1 ops) {Z0 Z : Nat → Prop} {i : Nat} {p : Bool} {r : List En} {done : List Nat} {listed : Array Bool} {s s' : St} {pl pl' : List Pl} {a : Act} {w w' : World} (I : InvN nc P L ops R base nt w0 Z0 Z ((i, p, none) :: r) done listed s pl a w)
    {o : Oper} (ho : ops[i]? = some o) (v : Value) (T : Tr s.h pl w s'.h pl' w') (hr : Rel Z base nt s' pl' (a.put o.dst v) w') (hs : Since Z base w0 s'.h pl' w') (hu : ∀ d, o.dst ≠ some d → get s.fr d = .undef → get s'.fr d = .undef) :
    InvN nc P L ops R base nt w0 Z0 Z r (i :: done) (listed.setIfInBounds i true) s' pl' (a.put o.dst v) w' := by
  obtain ⟨o', ho', h1, h2, h3, h4, h5⟩ := I.head
  rw [ho] at ho'; cases ho'
  have hlt := (Array.getElem?_eq_some_iff.1 ho).1
  have hne : ∀ j p q, (j, p, q) ∈ r → j ≠ i := fun j p q hj e => schedN_not h5 j (mem_ids hj) (by rw [e]; simp)
  have hdst : ∀ j p q, (j, p, q) ∈ r → lateAt ops j = true → ∀ oj d, ops[j]? = some oj → oj.dst = some d → o.dst ≠ some d := fun j p q hj hl oj d hoj hd => hD j i oj o d (hne j p q hj) hl hoj ho hd
  refine ⟨h5, fun j hj hd => ?_, fun j hj => ?_, (I.marks.set hlt).same fun j => ?_, fun j p b hj => I.late j p b (List.mem_cons_of_mem _ hj), fun j p q hj => I.lp j p q (List.mem_cons_of_mem _ hj), I.z, fun j p b hj => I.z0 j p b (List.mem_cons_of_mem _ hj), I.nod, fun j p q hj hl oj d hoj hd => ?_, hr, hs, fun j p b hj => ?_⟩
  · simp only [List.mem_cons, not_or] at hd
    have := I.cover j hj hd.2
    simp only [idsN, List.map_cons, List.mem_cons] at this
    rcases this with (h | h) | h
    · exact absurd h hd.1
    · exact .inl h
    · exact .inr h
  · obtain ⟨k1, k2, k3⟩ := I.rnd j hj
    simp only [idsN, List.map_cons, List.mem_cons, not_or] at k2
    exact ⟨fun h => by
      rcases List.mem_cons.1 h with h | h
      · exact k2.1 h
      · exact k1 h, k2.2, k3⟩
  · simp only [early, List.mem_cons, List.mem_append]
    constructor
    · rintro (h | h | h)
      · exact .inr (.inl h)
      · exact .inl h
      · exact .inr (.inr h)
    · rintro (h | h | h)
      · exact .inr (.inl h)
      · exact .inl h
      · exact .inr (.inr h)
  · exact hu d (hdst j p q hj hl oj d hoj hd) (I.und j p q (List.mem_cons_of_mem _ hj) hl oj d hoj hd)
  · exact (I.pend j p b (List.mem_cons_of_mem _ hj)).step T v fun oj d hoj hd => hdst j p _ hj (I.late j p b (List.mem_cons_of_mem _ hj)) oj d hoj hd

theorem Tr.snoc {h h' : List Ob} {pl pl' : List Pl} {w w' : World} (T : Tr h pl w h' pl' w') {b q : Nat} (hb : w.heap.size ≤ b) (ob : Ob) : Tr h pl w (h' ++ [ob]) (pl' ++ [some (b, q)]) w' where
  old := fun c hc hlt => ⟨away_append (T.old c hc hlt).1 fun q e => by simp at e; omega, (T.old c hc hlt).2⟩
  obj := fun l o p ho hp => by
    obtain ⟨o', p', h1, h2, h3⟩ := T.obj l o p ho hp
    exact ⟨o', p', append_left_some h1, append_left_some h2, h3⟩
  shape := fun l o o' b q ho ho' hg hp c el hc => by
    obtain ⟨o1, p1, h1, h2, h3⟩ := T.obj l o _ ho hp
    rw [append_left_some h1] at ho'; cases ho'
    exact T.shape l o _ b q ho h1 hg hp c el hc
theorem InvN.adopt {L : Lay} {ops : Array Oper} {R : List Nat} (hD : Dst1 ops) (hbase : base ≤ w0.w.heap.size) {Z0 Z : Nat → Prop} {i b : Nat} {p : Bool} {r : List En} {done : List Nat} {listed : Array Bool} {s : St} {pl : List Pl} {a : Act} {w : World} (I : InvN nc P L ops R base nt w0 Z0 Z ((i, p, some b) :: r) done listed s pl a w)
    {o : Oper} (ho : ops[i]? = some o) {ob : Ob} {mk : Nat → D} (hL : LateOk P o ob mk) (ht : okO nt o.dst = true) :
    ∃ Z', InvN nc P L ops R base nt w0 Z0 Z' r (i :: done) listed ⟨putO s.fr o.dst (mk s.h.length), s.h ++ [ob]⟩ (pl ++ [some (b, 0)]) a w := by
  obtain ⟨o', ho', h1, h2, h3, h4, h5⟩ := I.head
  rw [ho] at ho'; cases ho'
  have hne : ∀ j p q, (j, p, q) ∈ r → j ≠ i := fun j p q hj e => schedN_not h5 j (mem_ids hj) (by rw [e]; simp)
  have hli := I.late i p b (List.mem_cons_self ..)
  have hdst : ∀ j p q, (j, p, q) ∈ r → lateAt ops j = true → ∀ oj d, ops[j]? = some oj → oj.dst = some d → o.dst ≠ some d := fun j p q hj hl oj d hoj hd => hD j i oj o d (hne j p q hj) hl hoj ho hd
  obtain ⟨o1, d, w1, ρ, v, obj, g1, g2, g3, g4, g5, g6⟩ := (I.pend i p b (List.mem_cons_self ..)).run
  rw [ho] at g1; cases g1
  have haw := (I.pend i p b (List.mem_cons_self ..)).away
  have hlow := (I.pend i p b (List.mem_cons_self ..)).low
  obtain ⟨obj', val, k1, k2, k3⟩ := hL
  have ke := k1 ρ w1
  rw [g3] at ke
  simp only [Result.ok.injEq, Next.value.injEq] at ke
  obtain ⟨rfl, ke2⟩ := ke
  have hobj : obj = obj' := by
    have e1 := heap_alloc_new w1 obj
    have e2 := heap_alloc_new w1 obj'
    rw [ke2, e2] at e1
    exact (Option.some.inj e1).symm
  subst hobj
  have hdn : d < nt := by rw [g2] at ht; exact okO_lt ht
  have hz : ∀ c, Z c ↔ Z0 c ∧ c ≠ b ∧ c ∉ blocks r := fun c => by rw [I.z c]; simp only [blocks, List.mem_cons, not_or]
  have hnb : b ∉ blocks r := by have := I.nod; simp only [blocks] at this; exact (List.nodup_cons.1 this).1
  have hZ0b : Z0 b := I.z0 i p b (List.mem_cons_self ..)
  have hfr : ∀ c, free Z pl c → free (fun c => Z0 c ∧ c ∉ blocks r) (pl ++ [some (b, 0)]) c := fun c hc => ⟨⟨((hz c).1 hc.1).1, ((hz c).1 hc.1).2.2⟩, away_append hc.2 fun q e => by simp at e; exact ((hz c).1 hc.1).2.1 e.1.symm⟩
  have hlen : pl.length = s.h.length := I.rel.o.len
  have hx := k2 (fun c => Z0 c ∧ c ∉ blocks r) (s.h ++ [ob]) (pl ++ [some (b, 0)]) w b g5
  have hO := I.rel.o.adopt hfr haw (Nat.le_trans hbase hlow) hx
  have hv := k3 (fun c => Z0 c ∧ c ∉ blocks r) (s.h ++ [ob]) (pl ++ [some (b, 0)]) w s.h.length b (by simp) (by rw [← hlen]; simp)
  have htr : ∀ {d v}, RelV Z s.h pl w d v → RelV (fun c => Z0 c ∧ c ∉ blocks r) (s.h ++ [ob]) (pl ++ [some (b, 0)]) w d v := fun hr => hr.trZ (fun c hc _ => ⟨hfr c hc, rfl⟩) (fun _ _ _ a b => ⟨append_left_some a, append_left_some b⟩) (fun _ _ _ _ => rfl)
  refine ⟨fun c => Z0 c ∧ c ∉ blocks r, h5, fun j hj hd => ?_, fun j hj => ?_, I.marks.same fun j => ?_, fun j p b hj => I.late j p b (List.mem_cons_of_mem _ hj), fun j p q hj => I.lp j p q (List.mem_cons_of_mem _ hj), fun c => Iff.rfl, fun j p b hj => I.z0 j p b (List.mem_cons_of_mem _ hj), ?_, fun j p q hj hl oj d hoj hd => ?_, ⟨I.rel.nt, I.rel.defers, fun t => ?_, hO⟩, ⟨I.since.1, ?_, ⟨fun c hc => ?_, fun l c q e h0 => ?_⟩⟩, fun j p b' hj => ?_⟩
  · simp only [List.mem_cons, not_or] at hd
    have := I.cover j hj hd.2
    simp only [idsN, List.map_cons, List.mem_cons] at this
    rcases this with (h | h) | h
    · exact absurd h hd.1
    · exact .inl h
    · exact .inr h
  · obtain ⟨k1, k2, k3⟩ := I.rnd j hj
    simp only [idsN, List.map_cons, List.mem_cons, not_or] at k2
    exact ⟨fun h => by
      rcases List.mem_cons.1 h with h | h
      · exact k2.1 h
      · exact k1 h, k2.2, k3⟩
  · simp only [early, List.mem_cons, List.mem_append]
    constructor
    · rintro ((h | h) | h)
      · exact .inr (.inl h)
      · exact .inl h
      · exact .inr (.inr h)
    · rintro (h | h | h)
      · exact .inl (.inr h)
      · exact .inl (.inl h)
      · exact .inr h
  · have := I.nod; simp only [blocks] at this; exact (List.nodup_cons.1 this).2
  · rw [get_putO_other (hdst j p q hj hl oj d hoj hd)]
    exact I.und j p q (List.mem_cons_of_mem _ hj) hl oj d hoj hd
  · rw [g2, putO, get_put]
    by_cases e : t = d
    · rw [if_pos e, e, g6 hdn, ← g4]; exact hv
    · rw [if_neg e]; exact htr (I.rel.fr t)
  · exact I.since.2.1.snoc hlow ob
  · exact (I.z c).1 (I.since.2.2.new c hc) |> fun h => ⟨h.1, fun hm => h.2 (by simp only [blocks, List.mem_cons]; exact .inr hm)⟩
  · rcases append_inv e with h1 | ⟨h1, h1'⟩
    · exact (I.z c).1 (I.since.2.2.own l c q h1 h0) |> fun h => ⟨h.1, fun hm => h.2 (by simp only [blocks, List.mem_cons]; exact .inr hm)⟩
    · simp at h1'; obtain ⟨rfl, rfl⟩ := h1'; exact ⟨hZ0b, hnb⟩
  · have P' := I.pend j p b' (List.mem_cons_of_mem _ hj)
    exact ⟨P'.run, away_append P'.away fun q e => by
      simp at e
      exact hnb (by rw [e.1]; exact mem_blocks.2 ⟨j, p, hj⟩), P'.low⟩

theorem mem_setN {j b : Nat} {p : Bool} {l1 l2 : List En} {x : En} (h : x ∈ l1 ++ (j, p, some b) :: l2) : x ∈ l1 ++ (j, p, none) :: l2 ∨ x = (j, p, some b) := by
  rcases List.mem_append.1 h with h | h
  · exact .inl (List.mem_append.2 (.inl h))
  · rcases List.mem_cons.1 h with h | h
    · exact .inr h
    · exact .inl (List.mem_append.2 (.inr (List.mem_cons_of_mem _ h)))
theorem mem_setN' {j b : Nat} {p : Bool} {l1 l2 : List En} {i c : Nat} {q : Bool} (h : (i, q, some c) ∈ l1 ++ (j, p, none) :: l2) : (i, q, some c) ∈ l1 ++ (j, p, some b) :: l2 := by
  rcases List.mem_append.1 h with h | h
  · exact List.mem_append.2 (.inl h)
  · rcases List.mem_cons.1 h with h | h
    · cases h
    · exact List.mem_append.2 (.inr (List.mem_cons_of_mem _ h))
theorem InvN.exec {L : Lay} {ops : Array Oper} {R : List Nat} (hD : Dst1 ops) (hbase : base ≤ w0.w.heap.size) {Z0 Z : Nat → Prop} {j : Nat} {p : Bool} {l1 l2 : List En} {done : List Nat} {listed : Array Bool} {s : St} {pl : List Pl} {a : Act} {w : World} (I : InvN nc P L ops R base nt w0 Z0 Z (l1 ++ (j, p, none) :: l2) done listed s pl a w)
    {o : Oper} (ho : ops[j]? = some o) (hl : lateAt ops j = true) {d : Nat} (hd : o.dst = some d) {v : Value} {obj : Obj} (hrun : (execOp a.eval o).run P w = .ok (.value v) (w.alloc obj)) (huq : ∀ i p' q, (i, p', q) ∈ l1 ++ (j, p, none) :: l2 → q ≠ none → i ≠ j) :
    ∃ Z', InvN nc P L ops R base nt w0 Z0 Z' (l1 ++ (j, p, some w.heap.size) :: l2) done (listed.setIfInBounds j true) s pl (a.put o.dst v) (w.alloc obj) := by
  have hlt := (Array.getElem?_eq_some_iff.1 ho).1
  have hm : (j, p, none) ∈ l1 ++ (j, p, none) :: l2 := List.mem_append.2 (.inr (List.mem_cons_self ..))
  have e : ∀ k, k < w.heap.size → (w.alloc obj).heap[k]? = w.heap[k]? := fun k hk => heap_push_old w obj k hk
  have hnew : (w.alloc obj).heap[w.heap.size]? = some obj := heap_alloc_new w obj
  have hsz : w.heap.size < (w.alloc obj).heap.size := lt_of_heap hnew
  have hsize : base ≤ w.heap.size := Nat.le_trans hbase I.since.1.size
  have hbl : ∀ c, c ∈ blocks (l1 ++ (j, p, none) :: l2) → c < w.heap.size := fun c hc => by
    obtain ⟨i, q, hq⟩ := mem_blocks.1 hc
    obtain ⟨_, _, _, _, _, _, _, _, _, _, h5, _⟩ := (I.pend i q c hq).run
    exact lt_of_heap h5
  have hnb : w.heap.size ∉ blocks (l1 ++ (j, p, none) :: l2) := fun h => by have := hbl _ h; omega
  have hz0 : Z0 w.heap.size := ((I.z _).1 (I.since.2.2.new _ (Nat.le_refl _))).1
  have hbs : ∀ c, c ∈ blocks (l1 ++ (j, p, some w.heap.size) :: l2) ↔ c ∈ blocks (l1 ++ (j, p, none) :: l2) ∨ c = w.heap.size := fun c => by
    rw [mem_blocks, mem_blocks]
    constructor
    · rintro ⟨i, q, h⟩
      rcases mem_setN h with h | h
      · exact .inl ⟨i, q, h⟩
      · cases h; exact .inr rfl
    · rintro (⟨i, q, h⟩ | rfl)
      · exact ⟨i, q, mem_setN' h⟩
      · exact ⟨j, p, List.mem_append.2 (.inr (List.mem_cons_self ..))⟩
  have hZ : ∀ c, (Z0 c ∧ c ∉ blocks (l1 ++ (j, p, some w.heap.size) :: l2)) ↔ Z c ∧ c ≠ w.heap.size := fun c => by
    rw [I.z c, hbs c, not_or, and_assoc]
  have hfr : ∀ c, free Z pl c → c < w.heap.size → free (fun c => Z0 c ∧ c ∉ blocks (l1 ++ (j, p, some w.heap.size) :: l2)) pl c ∧ (w.alloc obj).heap[c]? = w.heap[c]? := fun c hc hlt => ⟨⟨(hZ c).2 ⟨hc.1, by omega⟩, hc.2⟩, e c hlt⟩
  have htr : ∀ {d v}, RelV Z s.h pl w d v → RelV (fun c => Z0 c ∧ c ∉ blocks (l1 ++ (j, p, some w.heap.size) :: l2)) s.h pl (w.alloc obj) d v := fun hr => hr.trZ hfr (fun _ _ _ a b => ⟨a, b⟩) (fun l b q hp => e b (I.rel.o.lt hp).1)
  have T : Tr s.h pl w s.h pl (w.alloc obj) := Tr.ext I.rel.o e
  refine ⟨fun c => Z0 c ∧ c ∉ blocks (l1 ++ (j, p, some w.heap.size) :: l2), ?_, ?_, ?_, (I.marks.set hlt).same fun i => ?_, fun i q b h => ?_, fun i q u h hl => ?_, fun c => Iff.rfl, fun i q b h => ?_, blocks_set _ hnb I.nod, fun i q u h hli oi di hoi hdi => ?_, ⟨by rw [hd]; simp [Act.put, I.rel.nt], by rw [hd]; exact I.rel.defers, fun t => ?_, I.rel.o.trZ hfr e⟩, ⟨I.since.1.trans (below_alloc hsize obj), I.since.2.1.trans T, ⟨fun c hc => (hZ c).2 ⟨I.since.2.2.new c (by omega), by omega⟩, fun l c q e1 h0 => (hZ c).2 ⟨I.since.2.2.own l c q e1 h0, by have := (I.rel.o.lt e1).1; omega⟩⟩⟩, fun i q b h => ?_⟩
  · have := I.sched; simpa [pbN] using this
  · have := I.cover; simpa [idsN] using this
  · have := I.rnd; simpa [idsN] using this
  · simp only [List.mem_cons, List.mem_append, mem_early]
    constructor
    · rintro (rfl | ⟨q, b, h⟩ | h)
      · exact .inl ⟨p, _, .inr (.inl rfl)⟩
      · exact .inl ⟨q, b, by have := mem_setN' (b := w.heap.size) (List.mem_append.2 (h.imp id List.mem_cons.2)); simpa using this⟩
      · exact .inr h
    · rintro (⟨q, b, h⟩ | h)
      · rcases mem_setN (List.mem_append.2 (h.imp id List.mem_cons.2)) with h | h
        · exact .inr (.inl ⟨q, b, by simpa using h⟩)
        · cases h; exact .inl rfl
      · exact .inr (.inr h)
  · rcases mem_setN h with h | h
    · exact I.late i q b h
    · cases h; exact hl
  · rcases mem_setN h with h | h
    · exact I.lp i q u h hl
    · cases h; exact I.lp j p none hm hl
  · rcases mem_setN h with h | h
    · exact I.z0 i q b h
    · cases h; exact hz0
  · rcases mem_setN h with h | h
    · exact I.und i q u h hli oi di hoi hdi
    · cases h; exact I.und j p none hm hli oi di hoi hdi
  · by_cases ht : t = d
    · have := I.und j p none hm hl o d ho hd
      rw [ht, this]; exact .cl _ _ (.undef _)
    · rw [put_other (by rw [hd]; exact fun h => ht (Option.some.inj h).symm)]
      exact htr (I.rel.fr t)
  · rcases mem_setN h with h | h
    · refine (I.pend i q b h).step T v fun oi di hoi hdi => ?_
      exact hD i j oi o di (huq i q (some b) h (by simp)) (I.late i q b h) hoi ho hdi
    · cases h
      refine ⟨⟨o, d, w, a.eval, v, obj, ho, hd, hrun, rfl, hnew, fun hn => ?_⟩, fun l q e1 => ?_, I.since.1.size⟩
      · have : d < a.tmps.size := by rw [I.rel.nt]; exact hn
        simp [Act.put, hd, Array.getD_eq_getD_getElem?, this]
      · have := (I.rel.o.lt e1).1; omega

/-- Operations that are left are taken in whatever order the edges let. -/
def AXF (nc : List Nat) (P : Program) (base nt : Nat) (w0 : Start) (ops : Array Oper) (K : St → Prop) : Nat → List Nat → List Nat → St → Prop
  | 0, _, _, s => K s
  | n + 1, R, done, s => ∀ i ∈ R, ∀ o, ops[i]? = some o → heldB done o.after.toList = false → AX P base nt w0 (AXF nc P base nt w0 ops K n (R.erase i) (i :: done)) [(false, stripN (memB i nc) o, guardOf ops o)] s
/-- An order in which the edges let them be taken. -/
def topoB (ops : Array Oper) : List Nat → List Nat → Bool
  | [], _ => true
  | i :: r, done => (match ops[i]? with
    | some o => !heldB done o.after.toList
    | none => false) && topoB ops r (i :: done)
theorem heldB_mono {done done' : List Nat} (h : ∀ j ∈ done, j ∈ done') : ∀ {l : List Edge}, heldB done l = false → heldB done' l = false
  | [], _ => rfl
  | e :: r, hh => by
    simp only [heldB, Bool.or_eq_false_iff, Bool.and_eq_false_iff, Bool.not_eq_false'] at hh ⊢
    exact ⟨hh.1.imp id fun k => memB_iff.2 (h _ (memB_iff.1 k)), heldB_mono h hh.2⟩
theorem topoB_mono {ops : Array Oper} : ∀ {R done done' : List Nat}, (∀ j ∈ done, j ∈ done') → topoB ops R done = true → topoB ops R done' = true
  | [], _, _, _, _ => rfl
  | i :: r, done, done', h, hh => by
    simp only [topoB, Bool.and_eq_true] at hh ⊢
    refine ⟨?_, topoB_mono (fun j hj => by
      rcases List.mem_cons.1 hj with rfl | hj
      · exact List.mem_cons_self ..
      · exact List.mem_cons_of_mem _ (h j hj)) hh.2⟩
    have h1 := hh.1
    cases ho : ops[i]? with
    | none => rw [ho] at h1; cases h1
    | some o =>
      rw [ho] at h1
      simp only [Bool.not_eq_true'] at h1 ⊢
      exact heldB_mono h h1
theorem topoB_erase {ops : Array Oper} {j : Nat} : ∀ {R done : List Nat}, topoB ops R done = true → topoB ops (R.erase j) (j :: done) = true
  | [], _, _ => rfl
  | i :: r, done, h => by
    simp only [topoB, Bool.and_eq_true] at h
    by_cases hij : i = j
    · subst hij; rw [List.erase_cons_head]; exact h.2
    · rw [List.erase_cons_tail (by simpa using hij)]
      simp only [topoB, Bool.and_eq_true]
      refine ⟨?_, topoB_mono (fun k hk => ?_) (topoB_erase (j := j) h.2)⟩
      · have h1 := h.1
        cases ho : ops[i]? with
        | none => rw [ho] at h1; cases h1
        | some o =>
          rw [ho] at h1
          simp only [Bool.not_eq_true'] at h1 ⊢
          exact heldB_mono (fun k hk => List.mem_cons_of_mem _ hk) h1
      · simp only [List.mem_cons] at hk ⊢
        rcases hk with h1 | h1 | h1
        · exact .inr (.inl h1)
        · exact .inl h1
        · exact .inr (.inr h1)
theorem AX1_sound {ops : Array Oper} (hbase : base ≤ w0.w.heap.size) {F : St → Prop} {Z : Nat → Prop} {i : Nat} {o : Oper} (ho : ops[i]? = some o) {s : St} {pl : List Pl} {a : Act} {w : World} (r : Rel Z base nt s pl a w) (b : Since Z base w0 s.h pl w)
    (h : AX P base nt w0 F [(false, stripN (memB i nc) o, guardOf ops o)] s) : wpOp P ops (fun _ _ _ => False) i (fun a' w' => cmP nc ops i w w' ∧ ∃ s' pl', F s' ∧ Rel Z base nt s' pl' a' w' ∧ Since Z base w0 s'.h pl' w') a w := by
  have skip : ∀ (s1 : St), s1.h = s.h → Rel Z base nt s1 pl a w → wantedG (guardOf ops o) a.tmps = false → okO nt (stripN (memB i nc) o).dst = true → F ⟨putO s1.fr (stripN (memB i nc) o).dst (.raw Go.undef), s1.h⟩ → _ := fun s1 hh r1 hw ht hk => by
    have hy : YieldsIf P ops (fun _ : World => True) o Go.undef a := .inr ⟨by rw [wanted_iff]; exact hw, rfl⟩
    have hr2 : Rel Z base nt ⟨putO s1.fr o.dst (.raw Go.undef), s1.h⟩ pl (a.put o.dst Go.undef) w := r1.skip ht
    exact hy.wpOp (P := P) (Q := fun _ _ _ => False) (K := fun a' w' => cmP nc ops i w w' ∧ ∃ s' pl', F s' ∧ Rel Z base nt s' pl' a' w' ∧ Since Z base w0 s'.h pl' w') ho trivial ⟨by rw [cmP_at ho]; exact .ext (Ext.refl _), _, pl, hk, hr2, by rw [show (⟨putO s1.fr o.dst (.raw Go.undef), s1.h⟩ : St).h = s.h from hh]; exact b⟩
  have go : ∀ (s1 : St), s1.h = s.h → Rel Z base nt s1 pl a w → wantedG (guardOf ops o) a.tmps = true → AXo P base nt w0 false (stripN (memB i nc) o) F s1 → wpOp P ops (fun _ _ _ => False) i (fun a' w' => cmP nc ops i w w' ∧ ∃ s' pl', F s' ∧ Rel Z base nt s' pl' a' w' ∧ Since Z base w0 s'.h pl' w') a w := fun s1 hh r1 hw hk => by
    unfold wpOp
    simp only [ho, wanted_iff, hw, if_true]
    refine .inl ?_
    have := hk.ae hbase Z trivial pl a w r1 (by rw [hh]; exact b)
    rw [wp_stripN] at this
    refine Oper.wp_mono (fun a' w' hq => ?_) this
    obtain ⟨he, d, h', pl', v, hF, r', b', T, rfl⟩ := hq
    exact ⟨by rw [cmP_at ho]; exact he, _, pl', hF, r', b'⟩
  simp only [AX] at h
  split at h
  · rename_i hg; exact go s rfl r (by rw [hg]; rfl) h
  · rename_i x hg; exact skip s rfl r (by rw [hg]; rfl) h.1 h.2
  · rename_i t x hg
    split at h
    · rename_i y hy
      have hr := r.fr t
      rw [hy] at hr
      have hv := inv_raw hr
      have hb := boolAt_of hv
      by_cases hxy : y = x
      · refine go ⟨put s.fr t (.raw (.bool x)), s.h⟩ rfl (r.tell (t := t) (d := .raw (.bool x)) (by rw [hv, hxy]; exact .cl _ _ (.raw _))) ?_ (h.1 hxy)
        rw [hg]; simp [wantedG, hb, hxy]
      · have hxn : y = (!x) := by cases x <;> cases y <;> simp_all
        have := h.2 hxn
        refine skip ⟨put s.fr t (.raw (.bool !x)), s.h⟩ rfl (r.tell (t := t) (d := .raw (.bool (!x))) (by rw [hv, hxn]; exact .cl _ _ (.raw _))) ?_ this.1 this.2
        rw [hg]; simp [wantedG, hb, hxy]
    · rename_i vs hy
      have hr := r.fr t
      rw [hy] at hr
      refine skip s rfl r ?_ h.1 h.2
      rw [hg]
      simp [wantedG, boolAt_tuple (inv_raw hr)]
    · exact h.elim
theorem AXF_sound {ops : Array Oper} {K : St → Prop} (hbase : base ≤ w0.w.heap.size) {Z : Nat → Prop} : ∀ (n : Nat) (R done : List Nat) (listed : Array Bool) (s : St) (pl : List Pl) (a : Act) (w : World), R.length = n → Marks ops listed done → (∀ j, j < ops.size → j ∉ done → j ∈ R) → (∀ j ∈ R, j ∉ done) → R.Nodup → topoB ops R done = true →
    Rel Z base nt s pl a w → Since Z base w0 s.h pl w → AXF nc P base nt w0 ops K n R done s → wpAnyE P ops (fun a w => ∃ s pl, K s ∧ Rel Z base nt s pl a w ∧ Since Z base w0 s.h pl w) (cmP nc ops) n listed a w
  | 0, R, done, listed, s, pl, a, w, hl, M, hc, hn, hd, ht, r, b, h => by
    have : R = [] := List.length_eq_zero_iff.1 hl
    subst this
    refine ⟨List.eq_nil_iff_forall_not_mem.2 fun j hj => ?_, s, pl, h, r, b⟩
    obtain ⟨h1, o, ho, _⟩ := mem_ready.1 hj
    have hlt := (Array.getElem?_eq_some_iff.1 ho).1
    have := hc j hlt ((M.get j hlt).1 h1)
    cases this
  | n + 1, R, done, listed, s, pl, a, w, hl, M, hc, hn, hd, ht, r, b, h => by
    have ready : ∀ j o, ops[j]? = some o → j ∉ done → heldB done o.after.toList = false → j ∈ Region.ready .any ops listed := fun j o ho hj hh => by
      have hlt := (Array.getElem?_eq_some_iff.1 ho).1
      exact mem_ready.2 ⟨(M.get j hlt).2 hj, o, ho, fun e he hb => (M.get' e.on).2 ⟨heldB_not hh e (by simpa using he) hb, M.lt _ (heldB_not hh e (by simpa using he) hb)⟩⟩
    refine ⟨fun e => ?_, fun j hj => ?_⟩
    · cases R with
      | nil => cases hl
      | cons i rr =>
        simp only [topoB, Bool.and_eq_true] at ht
        have h1 := ht.1
        split at h1
        · rename_i o ho
          have := ready i o ho (hn i (List.mem_cons_self ..)) (by simpa using h1)
          rw [e] at this; cases this
        · cases h1
    · obtain ⟨h1, o, ho, hall⟩ := mem_ready.1 hj
      have hlt := (Array.getElem?_eq_some_iff.1 ho).1
      have hjd := (M.get j hlt).1 h1
      have hjR := hc j hlt hjd
      have hh : heldB done o.after.toList = false := by
        cases hb : heldB done o.after.toList
        · rfl
        · obtain ⟨e, he, hbi, hon⟩ := heldB_ok hb
          exact absurd ((M.get' e.on).1 (hall e (by simpa using he) hbi)).1 hon
      refine wpOp_mono (fun a' w' h3 => ?_) (AX1_sound hbase ho r b (h j hjR o ho hh))
      obtain ⟨h4, s', pl', hF, r', b'⟩ := h3
      refine ⟨h4, AXF_sound hbase n (R.erase j) (j :: done) (listed.setIfInBounds j true) s' pl' a' w' (by rw [List.length_erase_of_mem hjR, hl]; rfl) (M.set hlt) (fun k hk hkd => ?_) (fun k hk hkd => ?_) (hd.erase _) (topoB_erase ht) r' b' hF⟩
      · simp only [List.mem_cons, not_or] at hkd
        exact (List.mem_erase_of_ne hkd.1).2 (hc k hk hkd.2)
      · have hkR := List.mem_of_mem_erase hk
        rcases List.mem_cons.1 hkd with rfl | h5
        · exact (hd.not_mem_erase) hk
        · exact hn k hkR h5
theorem AX_soundN {L : Lay} (hLay : LayOk P L) {ops : Array Oper} {R D0 : List Nat} {K : St → Prop} (hsel : Region.noSelect ops = true) (hbase : base ≤ w0.w.heap.size) (hD : Dst1 ops) (hL : ∀ j o, ops[j]? = some o → lateAt ops j = true → (∃ ob mk, LateOk P o ob mk) ∧ ∃ d, o.dst = some d) {Z0 : Nat → Prop} (hRn : R.Nodup) (hRt : topoB ops R D0 = true) :
    ∀ (m : Nat) (l : List En) (done : List Nat) (listed : Array Bool) (s : St) (pl : List Pl) (a : Act) (w : World) (Z : Nat → Prop), l.length + cntN l ≤ m → InvN nc P L ops R base nt w0 Z0 Z l done listed s pl a w → (∀ j, j ∈ D0 ↔ j ∈ idsN l ∨ j ∈ done) → AX P base nt w0 (AXF nc P base nt w0 ops K R.length R D0) (pickO nc ops (pbN l)) s →
      wpAnyE P ops (fun a w => ∃ s pl, K s ∧ Rel Z0 base nt s pl a w ∧ Since Z0 base w0 s.h pl w) (cmP nc ops) (R.length + cntN l) listed a w := by
  intro m
  induction m with
  | zero =>
    intro l done listed s pl a w Z hm I hD0 h
    cases l with
    | cons x r => simp at hm
    | nil =>
      have hZ : Z = Z0 := funext fun b => propext (by rw [I.z b]; simp [blocks])
      subst hZ
      have hD1 : ∀ j, j ∈ D0 ↔ j ∈ done := fun j => by rw [hD0 j]; simp [idsN]
      refine AXF_sound hbase R.length R D0 listed s pl a w rfl (I.marks.same fun j => by rw [hD1 j]; simp [early]) (fun j hj hd => ?_) (fun j hj => by rw [hD1 j]; exact (I.rnd j hj).1) hRn hRt I.rel I.since h
      have := I.cover j hj (fun h => hd ((hD1 j).2 h))
      simpa [idsN] using this
  | succ m ih =>
    intro l done listed s pl a w Z hm I hD0 h
    cases l with
    | nil =>
      have hZ : Z = Z0 := funext fun b => propext (by rw [I.z b]; simp [blocks])
      subst hZ
      have hD1 : ∀ j, j ∈ D0 ↔ j ∈ done := fun j => by rw [hD0 j]; simp [idsN]
      refine AXF_sound hbase R.length R D0 listed s pl a w rfl (I.marks.same fun j => by rw [hD1 j]; simp [early]) (fun j hj hd => ?_) (fun j hj => by rw [hD1 j]; exact (I.rnd j hj).1) hRn hRt I.rel I.since h
      have := I.cover j hj (fun h => hd ((hD1 j).2 h))
      simpa [idsN] using this
    | cons x r =>
      obtain ⟨i, p, q⟩ := x
      obtain ⟨o, ho, hnd, hedge, hpure, halone, hrest⟩ := I.head
      have hlt := (Array.getElem?_eq_some_iff.1 ho).1
      have hgo : pickO nc ops (pbN ((i, p, q) :: r)) = (p, stripN (memB i nc) o, guardOf ops o) :: pickO nc ops (pbN r) := by simp [pickO, pbN, ho]
      rw [hgo] at h
      have hea : ∀ j ∈ early ((i, p, q) :: r), lateAt ops j = true := fun j hj => by obtain ⟨p', b, hb⟩ := mem_early.1 hj; exact I.late j p' b hb
      have hne : ∀ j p q, (j, p, q) ∈ r → j ≠ i := fun j p q hj e => schedN_not hrest j (mem_ids hj) (by rw [e]; simp)
      have hD2 : ∀ j, j ∈ D0 ↔ j ∈ idsN r ∨ j ∈ i :: done := fun j => by
        rw [hD0 j]
        simp only [idsN, List.map_cons, List.mem_cons]
        constructor
        · rintro ((h | h) | h)
          · exact .inr (.inl h)
          · exact .inl h
          · exact .inr (.inr h)
        · rintro (h | h | h)
          · exact .inl (.inr h)
          · exact .inl (.inl h)
          · exact .inr h
      cases q with
      | some b =>
        have hli := I.late i p b (List.mem_cons_self ..)
        obtain ⟨g1, g2, _⟩ := lateAt_spec ho hli
        have hp := I.lp i p _ (List.mem_cons_self ..) hli
        subst hp
        have hg : guardOf ops o = none := by simp [guardOf, g2]
        rw [hg] at h
        simp only [AX, AXo] at h
        rw [show lateT (stripN (memB i nc) o) = true from g1] at h
        obtain ⟨ob, mk, h1, h2, h3⟩ := h
        obtain ⟨Z', I'⟩ := I.adopt hD hbase ho (show LateOk P o ob mk from h1) h2
        have := ih r (i :: done) listed _ _ a w Z' (by simp only [List.length_cons, cntN] at hm; omega) I' hD2 h3
        exact this
      | none =>
        have hni : i ∉ early ((i, p, none) :: r) ++ done := fun hm => by
          rcases List.mem_append.1 hm with h1 | h1
          · obtain ⟨p', b, hb⟩ := mem_early.1 h1
            rcases List.mem_cons.1 hb with h2 | h2
            · cases h2
            · exact hne _ _ _ h2 rfl
          · exact hnd h1
        have hready : i ∈ Region.ready .any ops listed := mem_ready.2 ⟨(I.marks.get i hlt).2 hni, o, ho, fun e he hb => (I.marks.get' e.on).2 ⟨List.mem_append.2 (.inr (hedge e he hb)), I.marks.lt _ (List.mem_append.2 (.inr (hedge e he hb)))⟩⟩
        have hm' : r.length + cntN r ≤ m := by simp only [List.length_cons, cntN] at hm; omega
        -- passed over, or a value that looks at no more than what stands
        have first : p = true → ∀ (s1 : St) (v : Value), s1.h = s.h → YieldsIf P ops (fun w' => (still L o = true ∨ Ext w w') ∨ (loadB o = true ∧ ExtC w w')) o v a →
            Rel Z base nt s1 pl (a.put o.dst v) w → (∀ d, o.dst ≠ some d → get s.fr d = .undef → get s1.fr d = .undef) → AX P base nt w0 (AXF nc P base nt w0 ops K R.length R D0) (pickO nc ops (pbN r)) s1 → wpAnyE P ops (fun a w => ∃ s pl, K s ∧ Rel Z0 base nt s pl a w ∧ Since Z0 base w0 s.h pl w) (cmP nc ops) (R.length + cntN r + 1) listed a w := by
          intro hp s1 v hh hy hr hu hk
          have I' := I.next hD ho v (s' := s1) (by rw [hh]; exact Tr.refl _ _ _) hr (by rw [hh]; exact I.since) hu
          have hrec := ih r (i :: done) (listed.setIfInBounds i true) s1 pl (a.put o.dst v) w Z hm' I' hD2 hk
          refine wpAnyE_first (fun w => by rw [cmP_at ho]; exact .ext (Ext.refl _)) ho (Region.noSelect_spec hsel) _ listed a w (.inl (.inr (Ext.refl _))) (fun j oj hj hji hu' => ?_) hready hy hrec
          have hjlt := (Array.getElem?_eq_some_iff.1 hj).1
          have hjn := (I.marks.get j hjlt).1 hu'
          have hjr := I.cover j hjlt fun hd => hjn (List.mem_append.2 (.inr hd))
          simp only [idsN, List.map_cons, List.mem_cons] at hjr
          have hin : ∃ y ∈ (pbN r).map (fun ip => (ip.1, ip.2, ops[ip.1]?)) ++ tailN ops R, y.1 = j ∧ y.2.2 = ops[j]? := by
            rcases hjr with (h | h) | h
            · exact absurd h hji
            · obtain ⟨y, hy1, hy2⟩ := List.mem_map.1 h
              exact ⟨(y.1, y.2.1, ops[y.1]?), List.mem_append.2 (.inl (List.mem_map.2 ⟨(y.1, y.2.1), List.mem_map.2 ⟨y, hy1, rfl⟩, rfl⟩)), hy2, by rw [hy2]⟩
            · exact ⟨(j, false, ops[j]?), List.mem_append.2 (.inr (List.mem_map.2 ⟨j, h, rfl⟩)), rfl, rfl⟩
          obtain ⟨y, hy1, hy2, hy3⟩ := hin
          have := pureB_okN I.marks hea (r := (pbN r).map (fun ip => (ip.1, ip.2, ops[ip.1]?)) ++ tailN ops R) (fun x hx => by
            rcases List.mem_append.1 hx with hx | hx
            · obtain ⟨z, _, rfl⟩ := List.mem_map.1 hx; rfl
            · obtain ⟨z, _, rfl⟩ := List.mem_map.1 hx; rfl) (hpure hp).2 y hy1 oj (by rw [hy2]; exact hj)
          rw [hy2] at this
          refine this.imp id fun h => ⟨fun w1 w2 hc hs => ?_, h.2⟩
          rw [cmP_at hj] at hc
          rcases h.1 with (h1 | h1) | h1
          · have he := hc.calm (by rw [calmS_strip]; simp [h1.1, h1.2])
            rcases hs with (hs | hs) | hs
            · exact .inl (.inl hs)
            · exact .inl (.inr (hs.trans he))
            · exact .inr ⟨hs.1, hs.2.trans (.ext he)⟩
          · exact .inl (.inl h1)
          · have he := hc.ins (by simpa [insB, stripN] using h1.2)
            rcases hs with (hs | hs) | hs
            · exact .inl (.inl hs)
            · exact .inr ⟨h1.1, (ExtC.ext hs).trans he⟩
            · exact .inr ⟨hs.1, hs.2.trans he⟩
        -- taken when nothing else may come up but what makes new objects
        have alone : p = false → wpOp P ops (fun _ _ _ => False) i (fun a' w' => cmP nc ops i w w' ∧ wpAnyE P ops (fun a w => ∃ s pl, K s ∧ Rel Z0 base nt s pl a w ∧ Since Z0 base w0 s.h pl w) (cmP nc ops) (R.length + cntN r) (listed.setIfInBounds i true) a' w') a w →
            wpAnyE P ops (fun a w => ∃ s pl, K s ∧ Rel Z0 base nt s pl a w ∧ Since Z0 base w0 s.h pl w) (cmP nc ops) (R.length + cntN r + 1) listed a w := by
          intro hp hi
          refine ⟨fun e => (by rw [e] at hready; cases hready), fun j hj => ?_⟩
          by_cases hji : j = i
          · subst hji; exact hi
          · obtain ⟨hjun, oj, hoj, hall⟩ := mem_ready.1 hj
            have hjlt := (Array.getElem?_eq_some_iff.1 hoj).1
            have hjn := (I.marks.get j hjlt).1 hjun
            have hjr := I.cover j hjlt fun hd => hjn (List.mem_append.2 (.inr hd))
            simp only [idsN, List.map_cons, List.mem_cons] at hjr
            have hall2 := fun x hx => aloneN_ok (r := (pbN r).map (fun ip => (ip.1, ip.2, ops[ip.1]?)) ++ tailN ops R) (fun x hx => by
              rcases List.mem_append.1 hx with hx | hx
              · obtain ⟨z, _, rfl⟩ := List.mem_map.1 hx; rfl
              · obtain ⟨z, _, rfl⟩ := List.mem_map.1 hx; rfl) (halone hp) x hx
            have held : heldN ops done i oj.after.toList = true → False := fun h1 => by
              obtain ⟨e, he, hb, hon, hln⟩ := heldN_ok h1
              have h2 := ((I.marks.get' e.on).1 (hall e (by simpa using he) hb)).1
              rcases List.mem_append.1 h2 with h3 | h3
              · rcases hln with h4 | h4
                · rw [hea _ h3] at h4; cases h4
                · exact hni (List.mem_append.2 (.inl (by rw [← h4]; exact h3)))
              · exact hon h3
            have hjR : j ∉ R := fun h => by
              rcases hall2 (j, false, ops[j]?) (List.mem_append.2 (.inr (List.mem_map.2 ⟨j, h, rfl⟩))) oj hoj with h1 | h1
              · have h9 : lateAt ops j = true := h1
                rw [(I.rnd j h).2.2] at h9; cases h9
              · exact held h1
            obtain ⟨y, hy1, hy2⟩ := List.mem_map.1 ((hjr.resolve_right hjR).resolve_left hji)
            obtain ⟨j', pj, qj⟩ := y
            obtain rfl : j' = j := hy2
            have hqj : qj = none := by
              cases qj with
              | none => rfl
              | some b => exact absurd (List.mem_append.2 (.inl (mem_early.2 ⟨pj, b, List.mem_cons_of_mem _ hy1⟩))) hjn
            subst hqj
            have hlate : lateAt ops j' = true := by
              rcases hall2 (j', pj, ops[j']?) (List.mem_append.2 (.inl (List.mem_map.2 ⟨(j', pj), List.mem_map.2 ⟨_, hy1, rfl⟩, rfl⟩))) oj hoj with h1 | h1
              · exact h1
              · exact (held h1).elim
            obtain ⟨g1, g2, _⟩ := lateAt_spec hoj hlate
            obtain ⟨⟨ob, mk, obj, val, k1, _⟩, d, hd⟩ := hL j' oj hoj hlate
            obtain ⟨r1, r2, hr⟩ := List.append_of_mem hy1
            have hl : (i, p, none) :: r = ((i, p, none) :: r1) ++ (j', pj, none) :: r2 := by rw [hr]; rfl
            have I0 := I
            rw [hl] at I0
            obtain ⟨Z', I'⟩ := I0.exec hD hbase hoj hlate hd (k1 a.eval w) (fun i' p' q' hm hq e => by
              subst e
              rw [← hl] at hm
              cases q' with
              | none => exact hq rfl
              | some b => exact hjn (List.mem_append.2 (.inl (mem_early.2 ⟨p', b, hm⟩))))
            have hc : cntN r = cntN (((i, p, none) :: r1) ++ (j', pj, some w.heap.size) :: r2) := by
              have := cntN_set (j := j') (p := pj) (b := w.heap.size) (l2 := r2) ((i, p, none) :: r1)
              rw [← hl] at this
              simp only [cntN] at this
              omega
            have hpb : pbN (((i, p, none) :: r1) ++ (j', pj, some w.heap.size) :: r2) = pbN ((i, p, none) :: r) := by rw [hl]; simp [pbN]
            have hrec := ih _ done (listed.setIfInBounds j' true) s pl (a.put oj.dst (val w.heap.size)) (w.alloc obj) Z' (by
              have h1 : (((i, p, none) :: r1) ++ (j', pj, some w.heap.size) :: r2).length = r.length + 1 := by rw [hr]; simp
              have h2 : r.length + 1 + (cntN r + 1) ≤ m + 1 := hm
              rw [h1, ← hc]; omega) I' (fun k => by rw [hD0 k]; rw [hl]; simp [idsN]) (by rw [hpb, hgo]; exact h)
            rw [← hc] at hrec
            unfold wpOp
            simp only [hoj]
            have hw : Region.wanted oj (yielded ops a.tmps) = true := by simp [Region.wanted, g2]
            rw [if_pos hw]
            refine .inl ?_
            unfold Oper.wp
            rw [k1 a.eval w]
            simp only [Oper.upon_value]
            exact ⟨by rw [cmP_at hoj]; exact .ext fun k hk => heap_push_old w obj k hk, hrec⟩
        have skip : ∀ (s1 : St), s1.h = s.h → Rel Z base nt s1 pl a w → (∀ d, get s.fr d = .undef → get s1.fr d = .undef) → wantedG (guardOf ops o) a.tmps = false → okO nt (stripN (memB i nc) o).dst = true → AX P base nt w0 (AXF nc P base nt w0 ops K R.length R D0) (pickO nc ops (pbN r)) ⟨putO s1.fr (stripN (memB i nc) o).dst (.raw Go.undef), s1.h⟩ →
            wpAnyE P ops (fun a w => ∃ s pl, K s ∧ Rel Z0 base nt s pl a w ∧ Since Z0 base w0 s.h pl w) (cmP nc ops) (R.length + cntN r + 1) listed a w := by
          intro s1 hh r1 hu hw ht hk
          have hy : YieldsIf P ops (fun w' => (still L o = true ∨ Ext w w') ∨ (loadB o = true ∧ ExtC w w')) o Go.undef a := .inr ⟨by rw [wanted_iff]; exact hw, rfl⟩
          have hr2 : Rel Z base nt ⟨putO s1.fr o.dst (.raw Go.undef), s1.h⟩ pl (a.put o.dst Go.undef) w := r1.skip ht
          have hu2 : ∀ d, o.dst ≠ some d → get s.fr d = .undef → get (putO s1.fr o.dst (.raw Go.undef)) d = .undef := fun d hd h => by rw [get_putO_other hd]; exact hu d h
          cases p with
          | true => exact first rfl ⟨putO s1.fr o.dst (.raw Go.undef), s1.h⟩ Go.undef hh hy hr2 hu2 hk
          | false =>
            refine alone rfl (hy.wpOp ho (.inl (.inr (Ext.refl _))) ⟨by rw [cmP_at ho]; exact .ext (Ext.refl _), ?_⟩)
            have I' := I.next hD ho Go.undef (s' := ⟨putO s1.fr o.dst (.raw Go.undef), s1.h⟩) (by rw [show (⟨putO s1.fr o.dst (.raw Go.undef), s1.h⟩ : St).h = s.h from hh]; exact Tr.refl _ _ _) hr2 (by rw [show (⟨putO s1.fr o.dst (.raw Go.undef), s1.h⟩ : St).h = s.h from hh]; exact I.since) hu2
            exact ih r (i :: done) _ _ pl _ w Z hm' I' hD2 hk
        have go : ∀ (s1 : St), s1.h = s.h → Rel Z base nt s1 pl a w → (∀ d, get s.fr d = .undef → get s1.fr d = .undef) → wantedG (guardOf ops o) a.tmps = true → AXo P base nt w0 p (stripN (memB i nc) o) (AX P base nt w0 (AXF nc P base nt w0 ops K R.length R D0) (pickO nc ops (pbN r))) s1 →
            wpAnyE P ops (fun a w => ∃ s pl, K s ∧ Rel Z0 base nt s pl a w ∧ Since Z0 base w0 s.h pl w) (cmP nc ops) (R.length + cntN r + 1) listed a w := by
          intro s1 hh r1 hu hw hk
          cases p with
          | true =>
            obtain ⟨d, hpo, hpc, ht, hk⟩ := hk
            have hall : ∃ v, RelV Z s1.h pl w d v ∧ (∀ w' : World, (∀ b, b < w.heap.size → w'.heap[b]? = w.heap[b]?) → (execOp a.eval o).run P w' = .ok (.value v) w') ∧ (loadB o = true → ∀ w' : World, ExtC w w' → (execOp a.eval o).run P w' = .ok (.value v) w') := by
              cases hlb : loadB o
              · obtain ⟨v, hv, hrun⟩ := hpo Z pl a w r1
                exact ⟨v, hv, hrun, fun h => by cases h⟩
              · obtain ⟨v, hv, hrun⟩ := hpc (by simpa [loadB, stripN] using hlb) Z pl a w r1
                exact ⟨v, hv, fun w' he => hrun w' (.ext he), fun _ => hrun⟩
            obtain ⟨v, hv, hrun, hrunC⟩ := hall
            have hy : YieldsIf P ops (fun w' => (still L o = true ∨ Ext w w') ∨ (loadB o = true ∧ ExtC w w')) o v a := .inl ⟨by rw [wanted_iff]; exact hw, fun w' he => he.elim (fun he => he.elim (fun hs => still_run hLay hs (hrun w fun _ _ => rfl) w') (fun he => hrun w' he)) (fun he => hrunC he.1 w' he.2)⟩
            have r2 : Rel Z base nt ⟨putO s1.fr o.dst d, s1.h⟩ pl (a.put o.dst v) w := by
              cases hd : o.dst with
              | none => exact r1
              | some t => have ht : okO nt o.dst = true := ht; rw [hd] at ht; exact r1.to (Tr.ext r1.o fun _ _ => rfl) r1.o (okO_lt ht) hv
            exact first rfl ⟨putO s1.fr o.dst d, s1.h⟩ v hh hy r2 (fun d' hd h => by rw [get_putO_other hd]; exact hu d' h) hk
          | false =>
            refine alone rfl ?_
            unfold wpOp
            simp only [ho, wanted_iff, hw, if_true]
            refine .inl ?_
            have := hk.ae hbase Z trivial pl a w r1 (by rw [hh]; exact I.since)
            rw [wp_stripN] at this
            refine Oper.wp_mono (fun a' w' hq => ?_) this
            obtain ⟨he, d, h', pl', v, hF, r', b', T, rfl⟩ := hq
            refine ⟨by rw [cmP_at ho]; exact he, ?_⟩
            have I' := I.next hD ho v (s' := ⟨putO s1.fr o.dst d, h'⟩) (by rw [hh] at T; exact T) r' b' (fun d' hd h => by rw [get_putO_other hd]; exact hu d' h)
            exact ih r (i :: done) _ _ pl' _ w' Z hm' I' hD2 hF
        show wpAnyE P ops _ (cmP nc ops) (R.length + cntN r + 1) listed a w
        simp only [AX] at h
        split at h
        · rename_i hg; exact go s rfl I.rel (fun _ h => h) (by rw [hg]; rfl) h
        · rename_i x hg; exact skip s rfl I.rel (fun _ h => h) (by rw [hg]; rfl) h.1 h.2
        · rename_i t x hg
          split at h
          · rename_i y hy
            have hr := I.rel.fr t
            rw [hy] at hr
            have hv := inv_raw hr
            have hb := boolAt_of hv
            have hun : ∀ (e : D) d, get s.fr d = .undef → get (put s.fr t e) d = .undef := fun e d h => by
              rw [get_put, if_neg (fun e => by rw [e, hy] at h; cases h)]; exact h
            by_cases hxy : y = x
            · refine go ⟨put s.fr t (.raw (.bool x)), s.h⟩ rfl (I.rel.tell (t := t) (d := .raw (.bool x)) (by rw [hv, hxy]; exact .cl _ _ (.raw _))) (hun _) ?_ (h.1 hxy)
              rw [hg]; simp [wantedG, hb, hxy]
            · have hxn : y = (!x) := by cases x <;> cases y <;> simp_all
              have := h.2 hxn
              refine skip ⟨put s.fr t (.raw (.bool !x)), s.h⟩ rfl (I.rel.tell (t := t) (d := .raw (.bool (!x))) (by rw [hv, hxn]; exact .cl _ _ (.raw _))) (hun _) ?_ this.1 this.2
              rw [hg]; simp [wantedG, hb, hxy]
          · rename_i vs hy
            have hr := I.rel.fr t
            rw [hy] at hr
            refine skip s rfl I.rel (fun _ h => h) ?_ h.1 h.2
            rw [hg]
            simp [wantedG, boolAt_tuple (inv_raw hr)]
          · exact h.elim

def dneB : Option Nat → Option Nat → Bool
  | some a, some b => !Nat.beq a b
  | _, _ => true
def dstB (ops : Array Oper) : Bool := (List.range ops.size).all fun i => !lateAt ops i || (List.range ops.size).all fun j => Nat.beq i j || dneB ((ops[i]?).bind (·.dst)) ((ops[j]?).bind (·.dst))
def isUndef : D → Bool
  | .undef => true
  | _ => false
def undB (ops : Array Oper) (fr : List (Nat × D)) : Bool := (List.range ops.size).all fun i => !lateAt ops i || (match (ops[i]?).bind (·.dst) with | some d => isUndef (get fr d) | none => true)
def lateTyB (L : Lay) (ops : Array Oper) : Bool := ops.toList.all fun o => match o.op with
  | .alloc t => (ty L t).isSome && o.dst.isSome
  | .makeMap _ none => o.dst.isSome
  | _ => true
def leftB (ops : Array Oper) (l : List (Nat × Bool)) : List Nat → Bool
  | [] => true
  | i :: r => !memB i r && !memB i (l.map (·.1)) && !lateAt ops i && leftB ops l r
theorem leftB_ok {ops : Array Oper} {l : List (Nat × Bool)} : ∀ {R : List Nat}, leftB ops l R = true → R.Nodup ∧ ∀ i ∈ R, i ∉ l.map (·.1) ∧ lateAt ops i = false
  | [], _ => ⟨List.nodup_nil, by simp⟩
  | i :: r, h => by
    simp only [leftB, Bool.and_eq_true, Bool.not_eq_true'] at h
    obtain ⟨⟨⟨h1, h2⟩, h3⟩, h4⟩ := h
    obtain ⟨k1, k2⟩ := leftB_ok h4
    refine ⟨List.nodup_cons.2 ⟨fun hm => (by rw [memB_iff.2 hm] at h1; cases h1), k1⟩, fun j hj => ?_⟩
    rcases List.mem_cons.1 hj with rfl | hj
    · exact ⟨fun hm => (by rw [memB_iff.2 hm] at h2; cases h2), h3⟩
    · exact k2 j hj
def orderF (nc : List Nat) (L : Lay) (ops : Array Oper) (l : List (Nat × Bool)) (R : List Nat) : Bool := Region.noSelect ops && Nat.beq (R.length + l.length) ops.size && coverB (l.map (·.1) ++ R) ops.size && schedN nc L ops R (l.map fun ip => (ip.1, ip.2, ops[ip.1]?)) [] && dstB ops && lateTyB L ops && leftB ops l R && topoB ops R (l.map (·.1))
def orderN (L : Lay) (ops : Array Oper) (l : List (Nat × Bool)) : Bool := orderF [] L ops l []
theorem dstB_ok {ops : Array Oper} (h : dstB ops = true) : Dst1 ops := by
  intro i j oi oj d hij hl hi hj hd hd'
  have h1 := List.all_eq_true.1 h i (List.mem_range.2 (Array.getElem?_eq_some_iff.1 hi).1)
  rw [hl, Bool.not_true, Bool.false_or] at h1
  have h2 := List.all_eq_true.1 h1 j (List.mem_range.2 (Array.getElem?_eq_some_iff.1 hj).1)
  simp only [hi, hj, Option.bind_some, hd, hd', dneB, Nat.beq_refl, Bool.not_true, Bool.or_false, Nat.beq_eq] at h2
  exact hij h2
theorem undB_ok {ops : Array Oper} {fr : List (Nat × D)} (h : undB ops fr = true) : ∀ i o d, lateAt ops i = true → ops[i]? = some o → o.dst = some d → get fr d = .undef := by
  intro i o d hl hi hd
  have h1 := List.all_eq_true.1 h i (List.mem_range.2 (Array.getElem?_eq_some_iff.1 hi).1)
  rw [hl] at h1
  simp only [Bool.not_true, Bool.false_or, hi, Option.bind_some, hd] at h1
  unfold isUndef at h1
  split at h1
  · assumption
  · cases h1
theorem lateTyB_ok {P : Program} {L : Lay} (hL : LayOk P L) {ops : Array Oper} (h : lateTyB L ops = true) : ∀ j o, ops[j]? = some o → lateAt ops j = true → (∃ ob mk, LateOk P o ob mk) ∧ ∃ d, o.dst = some d := by
  intro j o hj hl
  have h1 := (lateAt_spec hj hl).1
  have hm : o ∈ ops.toList := by have := Array.mem_of_getElem? hj; simpa using this
  have h2 := List.all_eq_true.1 h o hm
  unfold lateT at h1
  cases ho : o.op <;> rw [ho] at h1 h2 <;> first | cases h1 | skip
  · rename_i t
    simp only [Bool.and_eq_true] at h2
    obtain ⟨y, hy⟩ := Option.isSome_iff_exists.1 h2.1
    exact ⟨⟨_, _, late_alloc hL ho hy⟩, Option.isSome_iff_exists.1 h2.2⟩
  · rename_i t rz
    cases rz with
    | some x => cases h1
    | none => exact ⟨⟨_, _, late_make ho .i64⟩, Option.isSome_iff_exists.1 h2⟩
theorem schedN_lp {L : Lay} {ops : Array Oper} {R : List Nat} : ∀ {l : List (Nat × Bool)} {done : List Nat}, schedN nc L ops R (l.map fun ip => (ip.1, ip.2, ops[ip.1]?)) done = true → ∀ i p, (i, p) ∈ l → lateAt ops i = true → p = false
  | [], _, _, _, _, h, _ => by cases h
  | (j, q) :: r, done, h, i, p, hm, hl => by
    simp only [List.map_cons] at h
    cases ho : ops[j]? with
    | none => rw [ho] at h; cases h
    | some o =>
      rw [ho] at h
      simp only [schedN, Bool.and_eq_true, Bool.not_eq_true'] at h
      rcases List.mem_cons.1 hm with h1 | h1
      · cases h1
        cases q with
        | false => rfl
        | true => have := h.1.2; simp only [Bool.and_eq_true, Bool.not_eq_true', hl] at this; cases this.1
      · exact schedN_lp h.2 i p h1 hl
def startN (l : List (Nat × Bool)) : List En := l.map fun x => (x.1, x.2, none)
theorem startN_pb : ∀ l : List (Nat × Bool), pbN (startN l) = l
  | [] => rfl
  | x :: r => congrArg (x :: ·) (startN_pb r)
theorem startN_early : ∀ l, early (startN l) = []
  | [] => rfl
  | (_, _) :: r => startN_early r
theorem startN_blocks : ∀ l, blocks (startN l) = []
  | [] => rfl
  | (_, _) :: r => startN_blocks r
theorem startN_cnt : ∀ l, cntN (startN l) = l.length
  | [] => rfl
  | (_, _) :: r => by show cntN (startN r) + 1 = _; rw [startN_cnt r]; rfl
theorem startN_mem {l : List (Nat × Bool)} {i : Nat} {p : Bool} {q : Option Nat} (h : (i, p, q) ∈ startN l) : (i, p) ∈ l ∧ q = none := by
  obtain ⟨x, hx, e⟩ := List.mem_map.1 h
  cases e; exact ⟨hx, rfl⟩
theorem A_anyF {L : Lay} (hL : LayOk P L) (hbase : base ≤ w0.w.heap.size) {id : Nat} {ops : Array Oper} {Q : Exit → St → Prop} {s : St} (hm : P.follows .mixedOrders = true) (l : List (Nat × Bool)) (R : List Nat) (hB : orderF nc L ops l R = true) (hU : undB ops s.fr = true) (h : AX P base nt w0 (AXF nc P base nt w0 ops (fun s => Q .normal s) R.length R (l.map (·.1))) (pickO nc ops l) s) : A P base nt w0 (.region id ops true) Q s := by
  intro Z z pl a w r b
  simp only [orderF, Bool.and_eq_true] at hB
  obtain ⟨⟨⟨⟨⟨⟨⟨b1, b2⟩, b3⟩, b4⟩, b5⟩, b6⟩, b7⟩, b8⟩ := hB
  obtain ⟨c1, c2⟩ := leftB_ok b7
  have hlen := Nat.eq_of_beq_eq_true b2
  have M : Marks ops (Array.replicate ops.size false) [] := ⟨by simp, fun j hj => by simp [hj], fun j => by
    rcases Nat.lt_or_ge j ops.size with h' | h'
    · simp [h']
    · simp [h'], fun j hj => by cases hj⟩
  have b' : Since Z base w0 s.h pl { w with drawn := w.drawn + 1 } := ⟨⟨b.1.os, b.1.tape, b.1.output, b.1.size, b.1.block⟩, ⟨b.2.1.old, b.2.1.obj, b.2.1.shape⟩, ⟨b.2.2.new, b.2.2.own⟩⟩
  have I : InvN nc P L ops R base nt w0 Z Z (startN l) [] (Array.replicate ops.size false) s pl a { w with drawn := w.drawn + 1 } := by
    refine ⟨by rw [startN_pb]; exact b4, fun j hj _ => ?_, fun j hj => ⟨by simp, by have := (c2 j hj).1; simpa [idsN, startN] using this, (c2 j hj).2⟩, by rw [startN_early]; exact M, fun i p b h => ?_, fun i p q h hl => schedN_lp b4 i p (startN_mem h).1 hl, fun b => by rw [startN_blocks]; simp, fun i p b h => ?_, by rw [startN_blocks]; exact List.nodup_nil, fun i p q h hl o d ho hd => undB_ok hU i o d hl ho hd, r.ext fun _ _ => rfl, b', fun i p b h => ?_⟩
    · have := coverB_ok b3 j hj
      simpa [idsN, startN] using this
    · cases (startN_mem h).2
    · cases (startN_mem h).2
    · cases (startN_mem h).2
  have := AX_soundN hL b1 hbase (dstB_ok b5) (lateTyB_ok hL b6) c1 b8 _ (startN l) [] _ s pl a _ Z (Nat.le_refl _) I (fun j => by simp [idsN, startN]) (by rw [startN_pb]; exact h)
  rw [startN_cnt, hlen] at this
  exact wp_region_any hm (wpAny_of_E (fun a w hn => hn) _ _ _ _ this)
theorem A_any {L : Lay} (hL : LayOk P L) (hbase : base ≤ w0.w.heap.size) {id : Nat} {ops : Array Oper} {Q : Exit → St → Prop} {s : St} (hm : P.follows .mixedOrders = true) (l : List (Nat × Bool)) (hB : orderN L ops l = true) (hU : undB ops s.fr = true) (h : AX P base nt w0 (fun s => Q .normal s) (pickO [] ops l) s) : A P base nt w0 (.region id ops true) Q s :=
  A_anyF hL hbase hm l [] hB hU h
theorem kont_any {L : Lay} (hL : LayOk P L) (hbase : base ≤ w0.w.heap.size) {id : Nat} {ops : Array Oper} {Q : Exit → St → Prop} {k : List Item} {s : St} (hm : P.follows .mixedOrders = true) (l : List (Nat × Bool)) (hB : orderN L ops l = true) (hU : undB ops s.fr = true) (h : AX P base nt w0 (fun s => kont P base nt w0 Q k .normal s) (pickO [] ops l) s) : kont P base nt w0 Q (.code (.region id ops true) :: k) .normal s := by
  simp only [kont]
  exact A_any hL hbase hm l hB hU h
theorem kont_anyF {L : Lay} (hL : LayOk P L) (hbase : base ≤ w0.w.heap.size) {id : Nat} {ops : Array Oper} {Q : Exit → St → Prop} {k : List Item} {s : St} (hm : P.follows .mixedOrders = true) (l : List (Nat × Bool)) (R : List Nat) (hB : orderF nc L ops l R = true) (hU : undB ops s.fr = true) (h : AX P base nt w0 (AXF nc P base nt w0 ops (fun s => kont P base nt w0 Q k .normal s) R.length R (l.map (·.1))) (pickO nc ops l) s) : kont P base nt w0 Q (.code (.region id ops true) :: k) .normal s := by
  simp only [kont]
  exact A_anyF hL hbase hm l R hB hU h
end

/-! The walk, run by the evaluator. -/
section
variable (P : Program) (base : Nat) (w0 : Start) (X : Cx) (nt : Nat)
def haxO (pu : Bool) (o : Oper) (F : St → Prop) (stop : Prop) (s : St) : Prop := match pstep X s o.op with
  | some (p, d) => p ∧ okO nt o.dst = true ∧ F ⟨putO s.fr o.dst d, s.h⟩
  | none => match pu with
    | true => False
    | false => match estep X s o.op with
      | some (p, h, d) => p ∧ okO nt o.dst = true ∧ F ⟨putO s.fr o.dst d, h⟩
      | none => stop
def haxK (K : St → Prop) : List (Bool × Oper × G) → St → Prop
  | [], s => K s
  | (pu, o, g) :: r, s => match g with
    | none => haxO X nt pu o (haxK K r) (AX P base nt w0 K ((pu, o, none) :: r) s) s
    | some (none, _) => okO nt o.dst = true ∧ haxK K r ⟨putO s.fr o.dst (.raw Go.undef), s.h⟩
    | some (some t, b) => match get s.fr t with
      | .raw (.bool x) => (beqB b x = true → haxO X nt pu o (haxK K r) (AX P base nt w0 K ((pu, o, none) :: r) ⟨put s.fr t (.raw (.bool b)), s.h⟩) ⟨put s.fr t (.raw (.bool b)), s.h⟩) ∧
          (beqB b x = false → okO nt o.dst = true ∧ haxK K r ⟨putO (put s.fr t (.raw (.bool (!b)))) o.dst (.raw Go.undef), s.h⟩)
      | .raw (.tuple _) => okO nt o.dst = true ∧ haxK K r ⟨putO s.fr o.dst (.raw Go.undef), s.h⟩
      | _ => False
end
section
variable {nc : List Nat} {P : Program} {base nt : Nat} {w0 : Start}
theorem haxO_ok {X : Cx} (hX : CxOk P X) (hbase : base ≤ w0.w.heap.size) {pu : Bool} {o : Oper} {F F' : St → Prop} {stop : Prop} {s : St} (hF : ∀ s, F s → F' s) (hstop : stop → AXo P base nt w0 pu o F' s) (h : haxO X nt pu o F stop s) : AXo P base nt w0 pu o F' s := by
  unfold haxO at h
  split at h
  · rename_i p d hp
    have ok := pstep_ok (P := P) (base := base) (nt := nt) hX hp h.1
    have hk := hF _ h.2.2
    cases pu with
    | true =>
      refine ⟨d, ok, fun hlb => ?_, h.2.1, hk⟩
      unfold loadB at hlb
      split at hlb
      · rename_i t x ho
        simp only [pstep, ho] at hp
        exact load_okC hX.L ho hp h.1
      · cases hlb
    | false =>
      have hl : lateT o = false := by
        cases hl : lateT o with
        | false => rfl
        | true =>
          unfold lateT at hl
          cases ho : o.op <;> rw [ho] at hl <;> first | cases hl | skip
          all_goals
            rw [ho] at hp
            simp [pstep] at hp
      simp only [AXo, hl]
      intro Z z pl a w r b
      obtain ⟨v, hv, hrun⟩ := ok Z pl a w r
      unfold Oper.wp
      rw [hrun w fun _ _ => rfl]
      simp only [Oper.upon_value]
      refine ⟨.ext (Ext.refl _), _, _, pl, v, hk, ?_, b, Tr.refl _ _ _, rfl⟩
      cases hd : o.dst with
      | none => exact r
      | some t => have ht := h.2.1; rw [hd] at ht; exact r.to (Tr.ext r.o fun _ _ => rfl) r.o (okO_lt ht) hv
  · split at h
    · exact h.elim
    · split at h
      · rename_i p h' d hp
        have ok := estep_ok (P := P) (base := base) (nt := nt) hX hp h.1
        have hk := hF _ h.2.2
        have ht := h.2.1
        cases hl : lateT o with
        | true =>
          unfold lateT at hl
          cases ho : o.op <;> rw [ho] at hl <;> first | cases hl | skip
          · rename_i t
            simp only [ho, estep] at hp
            split at hp
            · rename_i y hy
              simp only [Option.some.injEq, Prod.mk.injEq] at hp
              obtain ⟨_, rfl, rfl⟩ := hp
              have hl : lateT o = true := by simp [lateT, ho]
              simp only [AXo, hl]
              exact ⟨_, _, late_alloc hX.L ho hy, ht, hk⟩
            · cases hp
          · rename_i t rz
            cases rz with
            | some x => cases hl
            | none =>
              simp only [ho, estep] at hp
              have hq : ∃ q, h' = s.h ++ [mapOb q 0 []] ∧ d = .mref s.h.length 0 := by
                unfold pmake at hp
                split at hp
                · split at hp
                  all_goals
                    simp only [Option.some.injEq, Prod.mk.injEq] at hp
                    obtain ⟨_, rfl, rfl⟩ := hp
                    exact ⟨_, rfl, rfl⟩
                · cases hp
              obtain ⟨q, rfl, rfl⟩ := hq
              have hl : lateT o = true := by simp [lateT, ho]
              simp only [AXo, hl]
              exact ⟨_, _, late_make ho q, ht, hk⟩
        | false =>
        simp only [AXo, hl]
        intro Z z pl a w r b
        have hins : insB o = false := by
          cases hi : insB o with
          | false => rfl
          | true =>
            unfold insB at hi
            split at hi
            · rename_i ho; simp [estep, ho] at hp
            · cases hi
        obtain ⟨v, w', pl', hrun, hT, hO, hv, hb, hext⟩ := ok Z pl a w r (Nat.le_trans hbase b.1.size)
        have fin : ∀ u, u = v → Rel Z base nt ⟨putO s.fr o.dst d, h'⟩ pl' (a.put o.dst u) w' := by
          rintro u rfl
          cases hd : o.dst with
          | none => exact r.to' hT hO u
          | some t => rw [hd] at ht; exact r.to hT hO (okO_lt ht) hv
        unfold Oper.wp
        rcases hrun with hrun | ⟨hrun, hu⟩
        · rw [hrun]
          simp only [Oper.upon_value]
          exact ⟨.mk (fun hc => hext (by simp only [calmS, Bool.and_eq_true] at hc; exact hc.1)) hins, _, _, pl', _, hk, fin v rfl, b.step hT hb, hT, rfl⟩
        · rw [hrun]
          simp only [Oper.upon_skip]
          exact ⟨.mk (fun hc => hext (by simp only [calmS, Bool.and_eq_true] at hc; exact hc.1)) hins, _, _, pl', _, hk, fin _ hu.symm, b.step hT hb, hT, rfl⟩
      · exact hstop h
theorem haxK_ok {X : Cx} (hX : CxOk P X) (hbase : base ≤ w0.w.heap.size) {K : St → Prop} : ∀ (l : List (Bool × Oper × G)) (s : St), haxK P base w0 X nt K l s → AX P base nt w0 K l s
  | [], s, h => h
  | (pu, o, g) :: r, s, h => by
    have st : ∀ s, haxO X nt pu o (haxK P base w0 X nt K r) (AX P base nt w0 K ((pu, o, none) :: r) s) s → AXo P base nt w0 pu o (AX P base nt w0 K r) s := fun s hh =>
      haxO_ok hX hbase (fun s => haxK_ok hX hbase r s) (fun h => h) hh
    simp only [haxK] at h
    simp only [AX]
    split at h
    · exact st s h
    · exact ⟨h.1, haxK_ok hX hbase r _ h.2⟩
    · rename_i t b
      split at h
      · rename_i x hx
        simp only [beqB_iff, beq_iff_eq, beq_eq_false_iff_ne, ne_eq] at h
        refine ⟨fun e => st _ (h.1 e), fun e => ?_⟩
        have := h.2 (by rw [e]; cases b <;> simp)
        exact ⟨this.1, haxK_ok hX hbase r _ this.2⟩
      · exact ⟨h.1, haxK_ok hX hbase r _ h.2⟩
      · exact h.elim

/-- The same argument, told otherwise. -/
def argEq (d' : D) : D → Prop
  | .imm z n r => match d' with
    | .imm z' n' r' => z' = z ∧ n' = n ∧ ∀ i, i < n → r' i = r i
    | _ => False
  | .raw v => d' = .raw v
  | .nil => d' = .nil
  | .undef => d' = .undef
  | .ip c => d' = .ip c
  | .ref l g o n => d' = .ref l g o n
  | .ptr l g i j => d' = .ptr l g i j
  | .mref l g => d' = .mref l g
  | .clo f n c => d' = .clo f n c
  | .agg c => d' = .agg c
  | .tup c => d' = .tup c
def argsEq : List D → List D → Prop
  | [], [] => True
  | d' :: r', d :: r => argEq d' d ∧ argsEq r' r
  | _, _ => False
theorem argEq_ok {N : Nat → Prop} {w : World} {d' d : D} {v : Value} (h : argEq d' d) (c : Cl N w d' v) : Cl N w d v := by
  cases d <;> simp only [argEq] at h
  case imm z n r =>
    split at h
    · obtain ⟨rfl, rfl, h⟩ := h
      cases c with
      | imm _ _ _ a cap b o vs ha hl hs hc hr =>
        exact .imm _ _ _ a cap b o vs ha hl (fun i hi => by rw [← h i hi]; exact hs i hi) hc (fun i j hi hj => by rw [← h i hi]; exact hr i j hi hj)
    · exact h.elim
  all_goals subst h; exact c
theorem argsEq_ok : ∀ {cs' cs : List D}, argsEq cs' cs → cs'.length = cs.length ∧ ∀ i, i < cs.length → argEq (nth cs' i) (nth cs i)
  | [], [], _ => ⟨rfl, fun i hi => by simp at hi⟩
  | [], _ :: _, h => h.elim
  | _ :: _, [], h => h.elim
  | d' :: r', d :: r, h => by
    obtain ⟨h1, h2⟩ := argsEq_ok h.2
    refine ⟨by simp [h1], fun i hi => ?_⟩
    cases i with
    | zero => exact h.1
    | succ i => have := h2 i (by simpa using hi); simpa [nth] using this
theorem argEq_rel {Z : Nat → Prop} {h : List Ob} {pl : List Pl} {w : World} {d' d : D} {v : Value} (e : argEq d' d) (r : RelV Z h pl w d' v) : RelV Z h pl w d v := by
  cases d <;> simp only [argEq] at e
  case imm z n r0 =>
    split at e
    · cases r with
      | cl _ _ hc => exact .cl _ _ (argEq_ok (d := .imm z n r0) (by simpa only [argEq] using e) hc)
    · exact e.elim
  all_goals subst e; exact r
theorem MFn.args {P : Program} {f : FuncId} {F : List Ob} {cs' cs : List D} {R : D → List Ob → Prop} (h : MFn P f F cs R) (e : argsEq cs' cs) : MFn P f F cs' R := fun Z base w pl vs h1 h2 h3 hl hc => by
  obtain ⟨e1, e2⟩ := argsEq_ok e
  exact h Z base w pl vs h1 h2 h3 (by omega) fun i hi => argEq_rel (e2 i hi) (hc i (by omega))
theorem AFn.args {P : Program} {f : FuncId} {cs' cs : List D} {R : D → List Ob → Prop} (h : AFn P f cs R) (e : argsEq cs' cs) : AFn P f cs' R := MFn.args h e

/-- A call within such a region. -/
theorem AX_call (hbase : base ≤ w0.w.heap.size) {K : St → Prop} {dst : Option Nat} {ty : TypeId} {pos : String} {after : Array Edge} {gd : Option (Nat × Bool)} {r : List (Bool × Oper × G)} {s : St} {x : Operand} {args : Array Operand} {tys : Array TypeId} {f : FuncId} {nf : Nat} {caps : List D} (hf : FnOk P f)
    (hx : calleeD (evalO s.fr x) = some (f, nf, caps)) {cs : List D} (hcs : match closeW (closeD s.h 4) (argsD nf caps (args.toList.map (evalO s.fr))) with | some (p, cs') => p ∧ argsEq cs' cs | none => False) {R : D → List Ob → Prop} (hF : AFn P f cs R)
    (hflat : ∀ d h, R d h → d.flat = true ∧ ∀ o ∈ h, o.flat) (ht : okO nt dst = true) (hk : ∀ d h, R d h → AX P base nt w0 K r ⟨putO s.fr dst (d.shift s.h.length), s.h ++ h.map (Ob.shift s.h.length)⟩) :
    AX P base nt w0 K ((false, ⟨dst, .call ⟨.value x, args, tys⟩, ty, pos, after, gd⟩, none) :: r) s := by
  simp only [AX, AXo, lateT]
  intro Z z pl a w rr b
  split at hcs
  · rename_i p cs' hc
    obtain ⟨hp, he⟩ := hcs
    have hF := hF.args he
    refine Oper.wp_mono (fun a' w' ⟨he, d, h, pl', hR, r', b', T, v, e⟩ => ⟨fun _ => he, _, _, pl', v, hk d h hR, r', b', T, e⟩) (call_wp hbase hf rfl hx hc hp hF hflat ht pl a w rr b _)
  · exact hcs.elim
theorem kont_call (hbase : base ≤ w0.w.heap.size) {Q : Exit → St → Prop} {k : List Item} {dst : Option Nat} {ty : TypeId} {pos : String} {after : Array Edge} {gd : Option (Nat × Bool)} {r : List (Oper × G)} {s : St} {x : Operand} {args : Array Operand} {tys : Array TypeId} {f : FuncId} {nf : Nat} {caps : List D} (hf : FnOk P f)
    (hx : calleeD (evalO s.fr x) = some (f, nf, caps)) {cs : List D} (hcs : match closeW (closeD s.h 4) (argsD nf caps (args.toList.map (evalO s.fr))) with | some (p, cs') => p ∧ argsEq cs' cs | none => False) {R : D → List Ob → Prop} (hF : AFn P f cs R)
    (hflat : ∀ d h, R d h → d.flat = true ∧ ∀ o ∈ h, o.flat) (ht : okO nt dst = true) (hk : ∀ d h, R d h → kont P base nt w0 Q (.ops r :: k) .normal ⟨putO s.fr dst (d.shift s.h.length), s.h ++ h.map (Ob.shift s.h.length)⟩) :
    kont P base nt w0 Q (.ops ((⟨dst, .call ⟨.value x, args, tys⟩, ty, pos, after, gd⟩, none) :: r) :: k) .normal s := by
  simp only [kont] at hk ⊢
  split at hcs
  · rename_i p cs' hc
    obtain ⟨hp, he⟩ := hcs
    have hF := hF.args he
    exact AG_call hbase hf rfl hx hc hp hF hflat ht hk
  · exact hcs.elim
end

section
variable {nc : List Nat} {P : Program} {base nt : Nat} {w0 : Start}
theorem AXo.mono {pu : Bool} {o : Oper} {F F' : St → Prop} (hF : ∀ s, F s → F' s) {s : St} (h : AXo P base nt w0 pu o F s) : AXo P base nt w0 pu o F' s := by
  cases pu with
  | true => obtain ⟨d, h1, h2, h3, h4⟩ := h; exact ⟨d, h1, h2, h3, hF _ h4⟩
  | false =>
    simp only [AXo] at h ⊢
    split at h
    · obtain ⟨ob, mk, h1, h2, h3⟩ := h; exact ⟨ob, mk, h1, h2, hF _ h3⟩
    intro Z z pl a w r b
    exact Oper.wp_mono (fun a' w' ⟨he, d, h', pl', v, h1, h2⟩ => ⟨he, d, h', pl', v, hF _ h1, h2⟩) (h Z z pl a w r b)
theorem AX.mono {K K' : St → Prop} (hK : ∀ s, K s → K' s) : ∀ (l : List (Bool × Oper × G)) (s : St), AX P base nt w0 K l s → AX P base nt w0 K' l s
  | [], s, h => hK s h
  | (pu, o, g) :: r, s, h => by
    simp only [AX] at h ⊢
    split at h
    · exact AXo.mono (AX.mono hK r) h
    · exact ⟨h.1, AX.mono hK r _ h.2⟩
    · split at h
      · exact ⟨fun e => AXo.mono (AX.mono hK r) (h.1 e), fun e => ⟨(h.2 e).1, AX.mono hK r _ (h.2 e).2⟩⟩
      · exact ⟨h.1, AX.mono hK r _ h.2⟩
      · exact h.elim
end
end Go.Fg
