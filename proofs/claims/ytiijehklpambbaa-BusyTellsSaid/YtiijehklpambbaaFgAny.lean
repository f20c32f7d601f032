/- Regions that draw their order: one walk serves every order. What only reads is taken first; what does more is taken when nothing else may come up. No conditions: laws. -/
import Derived.Test.YtiijehklpambbaaFgRule
import Derived.OrdersHeld
namespace Go.Fg
open Go.RowKit (Below)
variable {Z : Nat → Prop}

/-- Number j waits, by edges among what is not yet listed, for number i. -/
inductive Dep (ops : Array Oper) (listed : Array Bool) (i : Nat) : Nat → Prop
  | edge (j : Nat) (oj : Oper) (e : Edge) (hj : ops[j]? = some oj) (he : e ∈ oj.after) (hb : Region.binds .any e = true) (h : e.on = i) : Dep ops listed i j
  | step (j : Nat) (oj : Oper) (e : Edge) (hj : ops[j]? = some oj) (he : e ∈ oj.after) (hb : Region.binds .any e = true) (hu : listed.getD e.on true = false) (h : Dep ops listed i e.on) : Dep ops listed i j

theorem both {listed : Array Bool} {i : Nat} (h : listed.getD i true = false) : listed.getD i false = false := by
  rcases Nat.lt_or_ge i listed.size with h' | h'
  · simp [h'] at h ⊢; exact h
  · simp [Array.getElem?_eq_none h'] at h
theorem Dep.not_ready {ops : Array Oper} {listed : Array Bool} {i j : Nat} (h : Dep ops listed i j) (hi : listed.getD i true = false) : j ∉ Region.ready .any ops listed := by
  intro hr
  obtain ⟨_, oj', hoj, hall⟩ := mem_ready.1 hr
  cases h with
  | edge _ oj e hj he hb h =>
    rw [hj] at hoj; cases hoj
    have := hall e he hb
    rw [h, both hi] at this; cases this
  | step _ oj e hj he hb hu h =>
    rw [hj] at hoj; cases hoj
    have := hall e he hb
    rw [both hu] at this; cases this
theorem Dep.set {ops : Array Oper} {listed : Array Bool} {i j k : Nat} (h : Dep ops listed i j) (hi : listed.getD i true = false) (hk : k ∈ Region.ready .any ops listed) : Dep ops (listed.setIfInBounds k true) i j := by
  induction h with
  | edge j oj e hj he hb h => exact .edge j oj e hj he hb h
  | step j oj e hj he hb hu h ih =>
    refine .step j oj e hj he hb ?_ ih
    have : k ≠ e.on := fun hek => by subst hek; exact h.not_ready hi hk
    rw [getD_set_ne true this]; exact hu

def wpAnyE (P : Program) (ops : Array Oper) (N : Act → World → Prop) (cm : Nat → Bool) : Nat → Array Bool → Act → World → Prop
  | 0, listed, a, w => Region.ready .any ops listed = [] ∧ N a w
  | n + 1, listed, a, w => (Region.ready .any ops listed = [] → N a w) ∧
    ∀ i ∈ Region.ready .any ops listed, wpOp P ops (fun _ _ _ => False) i (fun a' w' => (cm i = true → Ext w w') ∧ wpAnyE P ops N cm n (listed.setIfInBounds i true) a' w') a w

theorem wp_noexit {P : Program} {o : Oper} {a : Act} {w : World} {K : Act → World → Prop} {Q : Exit → Act → World → Prop} (h : o.wp P a w K (fun _ _ _ => False)) : o.wp P a w K Q := by
  unfold Oper.wp at *
  generalize (execOp a.eval o).run P w = r at *
  cases r with
  | ok n w' =>
    cases n <;> simp only [Oper.upon] at h ⊢ <;> first | exact h | skip
    · exact Calls.mono h fun e w'' he => by cases e <;> first | exact he | exact he.elim | exact (let ⟨_, _, h⟩ := he; h.elim)
  | halt x w' => cases x <;> simp only [Oper.upon] at h ⊢ <;> exact h.elim
theorem wpAny_of_E {P : Program} {ops : Array Oper} {N : Act → World → Prop} {cm : Nat → Bool} {Q : Exit → Act → World → Prop} (hQ : ∀ a w, N a w → Q .normal a w) : ∀ (n : Nat) (listed : Array Bool) (a : Act) (w : World), wpAnyE P ops N cm n listed a w → wpAny P .any ops Q n listed a w
  | 0, _, _, _, h => ⟨h.1, hQ _ _ h.2⟩
  | n + 1, listed, a, w, h => ⟨fun e => hQ _ _ (h.1 e), fun i hi => by
    have := h.2 i hi
    unfold wpOp at this ⊢
    split
    · rename_i ho; simp only [ho] at this; exact wpAny_of_E hQ n _ _ _ this.2
    · rename_i o ho
      simp only [ho] at this
      split
      · rename_i hw
        simp only [hw, if_true] at this
        rcases this with h1 | ⟨_, _, _, h2⟩
        · exact .inl (wp_noexit (Oper.wp_mono (fun a' w' h' => wpAny_of_E hQ n _ _ _ h'.2) h1))
        · exact h2.elim
      · rename_i hw
        simp only [hw] at this
        exact wpAny_of_E hQ n _ _ _ this.2⟩

theorem wpAnyE_first {P : Program} {ops : Array Oper} {N : Act → World → Prop} {cm : Nat → Bool} {i : Nat} {oi : Oper} {v : Value} (hi : ops[i]? = some oi) (hsel : ∀ (j : Nat) (o : Oper) cs b, ops[j]? = some o → o.op ≠ .select cs b) :
    ∀ (fuel : Nat) (listed : Array Bool) (a : Act) (w w1 : World), Ext w w1 →
      (∀ j oj, ops[j]? = some oj → j ≠ i → listed.getD j true = false → Dep ops listed i j ∨ (cm j = true ∧ oi.apart ops oj = true)) →
      i ∈ Region.ready .any ops listed → YieldsIf P ops (Ext w) oi v a →
      wpAnyE P ops N cm fuel (listed.setIfInBounds i true) (a.put oi.dst v) w1 → wpAnyE P ops N cm (fuel + 1) listed a w1 := by
  intro fuel
  induction fuel with
  | zero =>
    intro listed a w w1 hext _ hr hy H
    refine ⟨fun h => (by rw [h] at hr; cases hr), fun j hj => ?_⟩
    by_cases hji : j = i
    · subst hji; exact hy.wpOp hi hext ⟨fun _ => Ext.refl _, H⟩
    · have := ready_mono hj hji
      rw [H.1] at this
      cases this
  | succ fuel ih =>
    intro listed a w w1 hext hfree hr hy H
    have hun := (mem_ready.1 hr).1
    refine ⟨fun h => (by rw [h] at hr; cases hr), fun j hj => ?_⟩
    by_cases hji : j = i
    · subst hji; exact hy.wpOp hi hext ⟨fun _ => Ext.refl _, H⟩
    · have h1 := H.2 j (ready_mono hj hji)
      obtain ⟨hjun, oj, hoj, hall⟩ := mem_ready.1 hj
      obtain ⟨hcm, hap⟩ := (hfree j oj hoj hji hjun).resolve_left fun hd => hd.not_ready hun hj
      have h2 := wpOp_putIf hoj hap (fun cs b => hsel i oi cs b hi) (fun cs b => hsel j oj cs b hoj) (fun _ _ _ h => h) hy h1
      refine wpOp_mono (fun a' w' h3 => ?_) h2
      have he := h3.2.1 hcm
      refine ⟨fun _ => he, ih (listed.setIfInBounds j true) a' w w' (hext.trans he) (fun k ok hk hki hun' => ?_) (ready_mono hr (Ne.symm hji)) h3.1 ?_⟩
      · have hku : listed.getD k true = false := by
          by_cases hjk : j = k
          · subst hjk; exact hjun
          · rw [getD_set_ne true hjk] at hun'; exact hun'
        exact (hfree k ok hk hki hku).imp (fun hd => hd.set hun hj) id
      · rw [Array.setIfInBounds_comm _ _ hji]
        exact h3.2.2

/-! The check of an order. -/
def calmAt (ops : Array Oper) (i : Nat) : Bool := match ops[i]? with
  | some o => calm o
  | none => true

/-- An order in which each operation's turn is right. -/
def Sched (ops : Array Oper) : List (Nat × Bool) → Array Bool → Prop
  | [], listed => Region.ready .any ops listed = []
  | (i, p) :: r, listed => i ∈ Region.ready .any ops listed ∧
    (match p with
    | true => ∀ oi, ops[i]? = some oi → ∀ j oj, ops[j]? = some oj → j ≠ i → listed.getD j true = false → Dep ops listed i j ∨ (calmAt ops j = true ∧ oi.apart ops oj = true)
    | false => ∀ j, j ∈ Region.ready .any ops listed → j = i) ∧ Sched ops r (listed.setIfInBounds i true)

def memB (i : Nat) : List Nat → Bool
  | [] => false
  | j :: r => Nat.beq i j || memB i r
theorem memB_iff {i : Nat} : ∀ {l : List Nat}, memB i l = true ↔ i ∈ l
  | [] => by simp [memB]
  | j :: r => by simp [memB, memB_iff (l := r)]
def waitsB (i : Nat) : List Edge → Bool
  | [] => false
  | e :: r => (Region.binds .any e && Nat.beq e.on i) || waitsB i r
def heldB (done : List Nat) : List Edge → Bool
  | [] => false
  | e :: r => (Region.binds .any e && !memB e.on done) || heldB done r
def depB (ops : Array Oper) (done : List Nat) (i : Nat) : Nat → List Edge → Bool
  | 0, _ => false
  | _ + 1, [] => false
  | n + 1, e :: r => (Region.binds .any e && (Nat.beq e.on i || (!memB e.on done && match ops[e.on]? with
      | some o => depB ops done i n o.after.toList
      | none => false))) || depB ops done i n r
def pureB (ops : Array Oper) (done : List Nat) (i : Nat) (oi : Oper) : List (Nat × Bool × Option Oper) → Bool
  | [] => true
  | (_, _, some oj) :: r => (waitsB i oj.after.toList || (calm oj && oi.apart ops oj) || depB ops done i (4 * ops.size) oj.after.toList) && pureB ops done i oi r
  | (_, _, none) :: _ => false
def aloneB (done : List Nat) : List (Nat × Bool × Option Oper) → Bool
  | [] => true
  | (_, _, some oj) :: r => heldB done oj.after.toList && aloneB done r
  | (_, _, none) :: _ => false
def schedB (ops : Array Oper) : List (Nat × Bool × Option Oper) → List Nat → Bool
  | [], _ => true
  | (i, p, some o) :: r, done => !memB i done && !heldB done o.after.toList && (match p with
    | true => pureB ops done i o r
    | false => aloneB done r) && schedB ops r (i :: done)
  | (_, _, none) :: _, _ => false
def coverB (l : List Nat) : Nat → Bool
  | 0 => true
  | n + 1 => memB n l && coverB l n
def orderB (ops : Array Oper) (l : List (Nat × Bool)) : Bool := Region.noSelect ops && Nat.beq l.length ops.size && coverB (l.map (·.1)) ops.size && schedB ops (l.map fun ip => (ip.1, ip.2, ops[ip.1]?)) []

theorem coverB_ok {l : List Nat} : ∀ {n : Nat}, coverB l n = true → ∀ j, j < n → j ∈ l
  | 0, _, j, h => by omega
  | n + 1, h, j, hj => by
    simp only [coverB, Bool.and_eq_true, memB_iff] at h
    by_cases e : j = n
    · subst e; exact h.1
    · exact coverB_ok h.2 j (by omega)
theorem waitsB_ok {i : Nat} : ∀ {l : List Edge}, waitsB i l = true → ∃ e ∈ l, Region.binds .any e = true ∧ e.on = i
  | [], h => by cases h
  | e :: r, h => by
    simp only [waitsB, Bool.or_eq_true, Bool.and_eq_true, Nat.beq_eq] at h
    rcases h with h | h
    · exact ⟨e, by simp, h.1, h.2⟩
    · obtain ⟨e', h1, h2⟩ := waitsB_ok h; exact ⟨e', by simp [h1], h2⟩
theorem heldB_ok {done : List Nat} : ∀ {l : List Edge}, heldB done l = true → ∃ e ∈ l, Region.binds .any e = true ∧ e.on ∉ done
  | [], h => by cases h
  | e :: r, h => by
    simp only [heldB, Bool.or_eq_true, Bool.and_eq_true, Bool.not_eq_true'] at h
    rcases h with h | h
    · exact ⟨e, by simp, h.1, fun hm => by rw [memB_iff.2 hm] at h; cases h.2⟩
    · obtain ⟨e', h1, h2⟩ := heldB_ok h; exact ⟨e', by simp [h1], h2⟩
theorem heldB_not {done : List Nat} : ∀ {l : List Edge}, heldB done l = false → ∀ e ∈ l, Region.binds .any e = true → e.on ∈ done
  | [], _, e, h, _ => by cases h
  | e :: r, h, e', h', hb => by
    simp only [heldB, Bool.or_eq_false_iff, Bool.and_eq_false_iff] at h
    rcases List.mem_cons.1 h' with h1 | h1
    · subst h1
      rcases h.1 with h2 | h2
      · rw [hb] at h2; cases h2
      · exact memB_iff.1 (by simpa using h2)
    · exact heldB_not h.2 e' h1 hb

structure Marks (ops : Array Oper) (listed : Array Bool) (done : List Nat) : Prop where
  size : listed.size = ops.size
  get : ∀ j, j < ops.size → (listed.getD j true = false ↔ j ∉ done)
  get' : ∀ j, listed.getD j false = true ↔ j ∈ done ∧ j < ops.size
  lt : ∀ j, j ∈ done → j < ops.size
theorem depB_ok {ops : Array Oper} {listed : Array Bool} {done : List Nat} (M : Marks ops listed done) {i : Nat} : ∀ {n : Nat} {j : Nat} {oj : Oper} {l : List Edge}, ops[j]? = some oj → (∀ e ∈ l, e ∈ oj.after) → depB ops done i n l = true → Dep ops listed i j
  | 0, _, _, _, _, _, h => by cases h
  | n + 1, _, _, [], _, _, h => by cases h
  | n + 1, j, oj, e :: r, hj, hl, h => by
    simp only [depB, Bool.or_eq_true, Bool.and_eq_true, Nat.beq_eq, Bool.not_eq_true'] at h
    rcases h with ⟨hb, h1 | ⟨h1, h2⟩⟩ | h
    · exact .edge j oj e hj (hl e (by simp)) hb h1
    · split at h2
      · rename_i o ho
        have hlt := (Array.getElem?_eq_some_iff.1 ho).1
        refine .step j oj e hj (hl e (by simp)) hb ((M.get e.on hlt).2 fun hm => by rw [memB_iff.2 hm] at h1; cases h1) (depB_ok M ho (fun e he => by simpa using he) h2)
      · cases h2
    · exact depB_ok M hj (fun e he => hl e (by simp [he])) h
theorem pureB_ok {ops : Array Oper} {done : List Nat} {i : Nat} {oi : Oper} {listed : Array Bool} (M : Marks ops listed done) : ∀ {r : List (Nat × Bool × Option Oper)}, (∀ x ∈ r, x.2.2 = ops[x.1]?) → pureB ops done i oi r = true → ∀ x ∈ r, ∀ oj, ops[x.1]? = some oj → Dep ops listed i x.1 ∨ (calm oj = true ∧ oi.apart ops oj = true)
  | [], _, _, x, hx, _, _ => by cases hx
  | (j, p, none) :: r, _, h, _, _, _, _ => by cases h
  | (j, p, some o) :: r, hr, h, x, hx, oj, hoj => by
    simp only [pureB, Bool.and_eq_true, Bool.or_eq_true] at h
    rcases List.mem_cons.1 hx with h1 | h1
    · subst h1
      have e : some o = ops[j]? := hr (j, p, some o) (by simp)
      have hoj : ops[j]? = some oj := hoj
      rw [hoj] at e
      cases e
      rcases h.1 with (h2 | h2) | h2
      · obtain ⟨e, he, hb, hon⟩ := waitsB_ok h2
        exact .inl (.edge j _ e hoj (by simpa using he) hb hon)
      · exact .inr h2
      · exact .inl (depB_ok M hoj (fun e he => by simpa using he) h2)
    · exact pureB_ok M (fun y hy => hr y (by simp [hy])) h.2 x h1 oj hoj
theorem aloneB_ok {ops : Array Oper} {done : List Nat} {listed : Array Bool} (M : Marks ops listed done) : ∀ {r : List (Nat × Bool × Option Oper)}, (∀ x ∈ r, x.2.2 = ops[x.1]?) → aloneB done r = true → ∀ x ∈ r, x.1 ∉ Region.ready .any ops listed
  | [], _, _, x, hx => by cases hx
  | (j, p, none) :: r, _, h, _, _ => by cases h
  | (j, p, some o) :: r, hr, h, x, hx => by
    simp only [aloneB, Bool.and_eq_true] at h
    rcases List.mem_cons.1 hx with h1 | h1
    · subst h1
      intro hrd
      obtain ⟨_, oj, hoj, hall⟩ := mem_ready.1 hrd
      have e : some o = ops[j]? := hr (j, p, some o) (by simp)
      have hoj : ops[j]? = some oj := hoj
      rw [hoj] at e
      cases e
      obtain ⟨e, he, hb, hon⟩ := heldB_ok h.1
      exact hon ((M.get' e.on).1 (hall e (by simpa using he) hb)).1
    · exact aloneB_ok M (fun y hy => hr y (by simp [hy])) h.2 x h1
theorem Marks.set {ops : Array Oper} {listed : Array Bool} {done : List Nat} (M : Marks ops listed done) {i : Nat} (hi : i < ops.size) : Marks ops (listed.setIfInBounds i true) (i :: done) where
  size := by simp [M.size]
  get := fun j hj => by
    by_cases e : i = j
    · subst e; simp [M.size, hi]
    · rw [getD_set_ne true e, M.get j hj]; simp [Ne.symm e]
  get' := fun j => by
    by_cases e : i = j
    · subst e; simp [M.size, hi]
    · rw [getD_set_ne false e, M.get' j]; simp [Ne.symm e]
  lt := fun j hj => by
    rcases List.mem_cons.1 hj with e | e
    · subst e; exact hi
    · exact M.lt j e
theorem schedB_ok {ops : Array Oper} : ∀ {l : List (Nat × Bool)} {done : List Nat} {listed : Array Bool}, Marks ops listed done → (∀ j, j < ops.size → j ∉ done → j ∈ l.map (·.1)) → schedB ops (l.map fun ip => (ip.1, ip.2, ops[ip.1]?)) done = true → Sched ops l listed
  | [], done, listed, M, hc, _ => by
    simp only [Sched]
    rw [List.eq_nil_iff_forall_not_mem]
    intro j hj
    obtain ⟨h1, o, ho, _⟩ := mem_ready.1 hj
    have hlt := (Array.getElem?_eq_some_iff.1 ho).1
    have := hc j hlt ((M.get j hlt).1 h1)
    simp at this
  | (i, p) :: r, done, listed, M, hc, h => by
    simp only [List.map_cons] at h
    cases ho : ops[i]? with
    | none => rw [ho] at h; cases h
    | some o =>
      have hlt := (Array.getElem?_eq_some_iff.1 ho).1
      rw [ho] at h
      simp only [schedB, Bool.and_eq_true, Bool.not_eq_true'] at h
      obtain ⟨⟨⟨h1, h2⟩, h3⟩, h4⟩ := h
      have hnd : i ∉ done := fun hm => by rw [memB_iff.2 hm] at h1; cases h1
      have hrest : ∀ x ∈ r.map (fun ip => (ip.1, ip.2, ops[ip.1]?)), x.2.2 = ops[x.1]? := fun x hx => by
        obtain ⟨y, _, rfl⟩ := List.mem_map.1 hx; rfl
      have hmem : ∀ j, j < ops.size → j ≠ i → j ∉ done → ∃ x ∈ r.map (fun ip => (ip.1, ip.2, ops[ip.1]?)), x.1 = j := fun j hj hne hd => by
        have := hc j hj hd
        simp only [List.map_cons, List.mem_cons] at this
        rcases this with e | e
        · exact absurd e hne
        · obtain ⟨y, hy, rfl⟩ := List.mem_map.1 e
          exact ⟨_, List.mem_map.2 ⟨y, hy, rfl⟩, rfl⟩
      refine ⟨mem_ready.2 ⟨(M.get i hlt).2 hnd, o, ho, fun e he hb => (M.get' e.on).2 ?_⟩, ?_, schedB_ok (M.set hlt) (fun j hj hd => ?_) h4⟩
      · have := heldB_not h2 e (by simpa using he) hb
        exact ⟨this, M.lt _ this⟩
      · cases p with
        | true =>
          intro oi hoi j oj hj hne hu
          rw [ho] at hoi; cases hoi
          have hjlt := (Array.getElem?_eq_some_iff.1 hj).1
          obtain ⟨x, hx, rfl⟩ := hmem j hjlt hne ((M.get j hjlt).1 hu)
          have := pureB_ok M hrest h3 x hx oj hj
          exact this.imp id fun h => ⟨by simpa [calmAt, hj] using h.1, h.2⟩
        | false =>
          intro j hj
          obtain ⟨h5, oj, hoj, _⟩ := mem_ready.1 hj
          have hjlt := (Array.getElem?_eq_some_iff.1 hoj).1
          by_cases hne : j = i
          · exact hne
          · obtain ⟨x, hx, rfl⟩ := hmem j hjlt hne ((M.get j hjlt).1 h5)
            exact absurd hj (aloneB_ok M hrest h3 x hx)
      · simp only [List.mem_cons, not_or] at hd
        obtain ⟨x, hx, rfl⟩ := hmem j hj hd.1 hd.2
        obtain ⟨y, hy, rfl⟩ := List.mem_map.1 hx
        exact List.mem_map.2 ⟨y, hy, rfl⟩

/-! The walk over abstract states. -/
section
variable (P : Program) (base nt : Nat) (w0 : Start)
def AE (o : Oper) (F : St → Prop) (s : St) : Prop := ∀ (Z : Nat → Prop), ZOk w0 Z → ∀ pl a w, Rel Z base nt s pl a w → Since base w0 s.h pl w →
  o.wp P a w (fun a' w' => (calm o = true → Ext w w') ∧ ∃ s' pl', F s' ∧ Rel Z base nt s' pl' a' w' ∧ Since base w0 s'.h pl' w') (fun _ _ _ => False)
def AXo (pu : Bool) (o : Oper) (F : St → Prop) (s : St) : Prop := match pu with
  | true => ∃ d, PureOk P base nt o s d ∧ okO nt o.dst = true ∧ F ⟨putO s.fr o.dst d, s.h⟩
  | false => AE P base nt w0 o F s
def AX (K : St → Prop) : List (Bool × Oper × G) → St → Prop
  | [], s => K s
  | (pu, o, g) :: r, s => match g with
    | none => AXo P base nt w0 pu o (AX K r) s
    | some (none, _) => okO nt o.dst = true ∧ AX K r ⟨putO s.fr o.dst (.raw Go.undef), s.h⟩
    | some (some t, b) => match get s.fr t with
      | .raw (.bool x) => (x = b → AXo P base nt w0 pu o (AX K r) ⟨put s.fr t (.raw (.bool b)), s.h⟩) ∧
          (x = (!b) → okO nt o.dst = true ∧ AX K r ⟨putO (put s.fr t (.raw (.bool (!b)))) o.dst (.raw Go.undef), s.h⟩)
      | .raw (.tuple _) => okO nt o.dst = true ∧ AX K r ⟨putO s.fr o.dst (.raw Go.undef), s.h⟩
      | _ => False
end
def pickO (ops : Array Oper) (l : List (Nat × Bool)) : List (Bool × Oper × G) := l.map fun ip => match ops[ip.1]? with
  | some o => (ip.2, strip o, guardOf ops o)
  | none => (ip.2, ⟨none, .move (.tmp 0), 0, "", #[], none⟩, none)

section
variable {P : Program} {base nt : Nat} {w0 : Start}
theorem AX_sound {ops : Array Oper} {K : St → Prop} (hsel : Region.noSelect ops = true) {Z : Nat → Prop} (z : ZOk w0 Z) : ∀ (l : List (Nat × Bool)) (listed : Array Bool) (s : St), Sched ops l listed → AX P base nt w0 K (pickO ops l) s →
    ∀ pl a w, Rel Z base nt s pl a w → Since base w0 s.h pl w → wpAnyE P ops (fun a w => ∃ s pl, K s ∧ Rel Z base nt s pl a w ∧ Since base w0 s.h pl w) (calmAt ops) l.length listed a w
  | [], listed, s, hB, h, pl, a, w, r, b => ⟨hB, s, pl, h, r, b⟩
  | (i, pu) :: l, listed, s, hB, h, pl, a, w, r, b => by
    obtain ⟨hi, hB1, hB2⟩ := hB
    obtain ⟨hun, o, ho, _⟩ := mem_ready.1 hi
    have hgo : (pickO ops ((i, pu) :: l)) = (pu, strip o, guardOf ops o) :: pickO ops l := by simp [pickO, ho]
    rw [hgo] at h
    -- passed over
    have skip : ∀ (s1 : St), s1.h = s.h → Rel Z base nt s1 pl a w → wantedG (guardOf ops o) a.tmps = false → okO nt (strip o).dst = true → AX P base nt w0 K (pickO ops l) ⟨putO s1.fr (strip o).dst (.raw Go.undef), s1.h⟩ →
        wpAnyE P ops (fun a w => ∃ s pl, K s ∧ Rel Z base nt s pl a w ∧ Since base w0 s.h pl w) (calmAt ops) (l.length + 1) listed a w := by
      intro s1 hh1 r1 hw ht hk
      rw [← hh1] at b
      have hy : YieldsIf P ops (Ext w) o Go.undef a := .inr ⟨by rw [wanted_iff]; exact hw, rfl⟩
      have hrest := AX_sound hsel z l _ _ hB2 hk pl (a.put o.dst Go.undef) w (r1.skip ht) b
      cases pu with
      | true =>
        exact wpAnyE_first ho (Region.noSelect_spec hsel) _ listed a w w (Ext.refl _) (fun j oj hj hne hu => hB1 o ho j oj hj hne hu) hi hy hrest
      | false =>
        refine ⟨fun e => (by rw [e] at hi; cases hi), fun j hj => ?_⟩
        have : j = i := hB1 j hj
        subst this
        exact hy.wpOp ho (Ext.refl _) ⟨fun _ => Ext.refl _, hrest⟩
    -- carried out
    have go : ∀ (s1 : St), s1.h = s.h → Rel Z base nt s1 pl a w → wantedG (guardOf ops o) a.tmps = true → AXo P base nt w0 pu (strip o) (AX P base nt w0 K (pickO ops l)) s1 →
        wpAnyE P ops (fun a w => ∃ s pl, K s ∧ Rel Z base nt s pl a w ∧ Since base w0 s.h pl w) (calmAt ops) (l.length + 1) listed a w := by
      intro s1 hh1 r1 hw hk
      rw [← hh1] at b
      cases pu with
      | true =>
        obtain ⟨d, hp, ht, hk⟩ := hk
        obtain ⟨v, hv, hrun⟩ := hp Z pl a w r1
        have hy : YieldsIf P ops (Ext w) o v a := .inl ⟨by rw [wanted_iff]; exact hw, fun w' he => hrun w' he⟩
        have r2 : Rel Z base nt ⟨putO s1.fr o.dst d, s1.h⟩ pl (a.put o.dst v) w := by
          cases hd : o.dst with
          | none => exact r1
          | some t => have ht : okO nt o.dst = true := ht; rw [hd] at ht; exact r1.to (Tr.ext r1.o fun _ _ => rfl) r1.o (okO_lt ht) hv
        have hrest := AX_sound hsel z l _ _ hB2 hk pl (a.put o.dst v) w r2 b
        exact wpAnyE_first ho (Region.noSelect_spec hsel) _ listed a w w (Ext.refl _) (fun j oj hj hne hu => hB1 o ho j oj hj hne hu) hi hy hrest
      | false =>
        refine ⟨fun e => (by rw [e] at hi; cases hi), fun j hj => ?_⟩
        have : j = i := hB1 j hj
        subst this
        unfold wpOp
        simp only [ho, wanted_iff, hw, if_true]
        refine .inl ?_
        have := hk Z z pl a w r1 b
        rw [wp_strip] at this
        refine Oper.wp_mono (fun a' w' hh => ?_) this
        obtain ⟨he, s', pl', hF, r', b'⟩ := hh
        exact ⟨fun hc => he (show calm o = true by simpa [calmAt, ho] using hc), AX_sound hsel z l _ _ hB2 hF pl' a' w' r' b'⟩
    simp only [AX] at h
    split at h
    · rename_i hg; exact go s rfl r (by rw [hg]; rfl) h
    · rename_i x hg; exact skip s rfl r (by rw [hg]; rfl) h.1 h.2
    · rename_i t x hg
      split at h
      · rename_i y hy
        have hr := r.fr t
        rw [hy] at hr
        have hv := inv_raw hr
        have hb := boolAt_of hv
        by_cases hxy : y = x
        · refine go ⟨put s.fr t (.raw (.bool x)), s.h⟩ rfl (r.tell (t := t) (d := .raw (.bool x)) (by rw [hv, hxy]; exact .cl _ _ (.raw _))) ?_ (h.1 hxy)
          rw [hg]; simp [wantedG, hb, hxy]
        · have hxn : y = (!x) := by cases x <;> cases y <;> simp_all
          have := h.2 hxn
          refine skip ⟨put s.fr t (.raw (.bool !x)), s.h⟩ rfl (r.tell (t := t) (d := .raw (.bool (!x))) (by rw [hv, hxn]; exact .cl _ _ (.raw _))) ?_ this.1 this.2
          rw [hg]; simp [wantedG, hb, hxy]
      · rename_i vs hy
        have hr := r.fr t
        rw [hy] at hr
        refine skip s rfl r ?_ h.1 h.2
        rw [hg]
        simp [wantedG, boolAt_tuple (inv_raw hr)]
      · exact h.elim
theorem A_any {id : Nat} {ops : Array Oper} {Q : Exit → St → Prop} {s : St} (hm : P.follows .mixedOrders = true) (l : List (Nat × Bool)) (hB : orderB ops l = true) (h : AX P base nt w0 (fun s => Q .normal s) (pickO ops l) s) : A P base nt w0 (.region id ops true) Q s := by
  intro Z z pl a w r b
  simp only [orderB, Bool.and_eq_true] at hB
  have hlen := Nat.eq_of_beq_eq_true hB.1.1.2
  have M : Marks ops (Array.replicate ops.size false) [] := ⟨by simp, fun j hj => by simp [hj], fun j => by
    rcases Nat.lt_or_ge j ops.size with h' | h'
    · simp [h']
    · simp [h'], fun j hj => by cases hj⟩
  have hS := schedB_ok M (fun j hj _ => coverB_ok hB.1.2 j hj) hB.2
  have b' : Since base w0 s.h pl { w with drawn := w.drawn + 1 } := ⟨⟨b.1.os, b.1.tape, b.1.output, b.1.size, b.1.block⟩, ⟨b.2.old, b.2.obj, b.2.shape⟩⟩
  have := AX_sound hB.1.1.1 z l _ s hS h pl a { w with drawn := w.drawn + 1 } (r.ext fun _ _ => rfl) b'
  rw [hlen] at this
  exact wp_region_any hm (wpAny_of_E (fun a w hn => hn) _ _ _ _ this)
theorem kont_any {id : Nat} {ops : Array Oper} {Q : Exit → St → Prop} {k : List Item} {s : St} (hm : P.follows .mixedOrders = true) (l : List (Nat × Bool)) (hB : orderB ops l = true) (h : AX P base nt w0 (fun s => kont P base nt w0 Q k .normal s) (pickO ops l) s) : kont P base nt w0 Q (.code (.region id ops true) :: k) .normal s := by
  simp only [kont]
  exact A_any hm l hB h
end

/-! The walk, run by the evaluator. -/
section
variable (P : Program) (base : Nat) (w0 : Start) (X : Cx) (nt : Nat)
def haxO (pu : Bool) (o : Oper) (F : St → Prop) (stop : Prop) (s : St) : Prop := match pstep X s o.op with
  | some (p, d) => p ∧ okO nt o.dst = true ∧ F ⟨putO s.fr o.dst d, s.h⟩
  | none => match pu with
    | true => False
    | false => match estep X s o.op with
      | some (p, h, d) => p ∧ okO nt o.dst = true ∧ F ⟨putO s.fr o.dst d, h⟩
      | none => stop
def haxK (K : St → Prop) : List (Bool × Oper × G) → St → Prop
  | [], s => K s
  | (pu, o, g) :: r, s => match g with
    | none => haxO X nt pu o (haxK K r) (AX P base nt w0 K ((pu, o, none) :: r) s) s
    | some (none, _) => okO nt o.dst = true ∧ haxK K r ⟨putO s.fr o.dst (.raw Go.undef), s.h⟩
    | some (some t, b) => match get s.fr t with
      | .raw (.bool x) => (beqB b x = true → haxO X nt pu o (haxK K r) (AX P base nt w0 K ((pu, o, none) :: r) ⟨put s.fr t (.raw (.bool b)), s.h⟩) ⟨put s.fr t (.raw (.bool b)), s.h⟩) ∧
          (beqB b x = false → okO nt o.dst = true ∧ haxK K r ⟨putO (put s.fr t (.raw (.bool (!b)))) o.dst (.raw Go.undef), s.h⟩)
      | .raw (.tuple _) => okO nt o.dst = true ∧ haxK K r ⟨putO s.fr o.dst (.raw Go.undef), s.h⟩
      | _ => False
end
section
variable {P : Program} {base nt : Nat} {w0 : Start}
theorem haxO_ok {X : Cx} (hX : CxOk P X) (hbase : base ≤ w0.w.heap.size) {pu : Bool} {o : Oper} {F F' : St → Prop} {stop : Prop} {s : St} (hF : ∀ s, F s → F' s) (hstop : stop → AXo P base nt w0 pu o F' s) (h : haxO X nt pu o F stop s) : AXo P base nt w0 pu o F' s := by
  unfold haxO at h
  split at h
  · rename_i p d hp
    have ok := pstep_ok (P := P) (base := base) (nt := nt) hX hp h.1
    have hk := hF _ h.2.2
    cases pu with
    | true => exact ⟨d, ok, h.2.1, hk⟩
    | false =>
      intro Z z pl a w r b
      obtain ⟨v, hv, hrun⟩ := ok Z pl a w r
      unfold Oper.wp
      rw [hrun w fun _ _ => rfl]
      simp only [Oper.upon_value]
      refine ⟨fun _ => Ext.refl _, _, pl, hk, ?_, b⟩
      cases hd : o.dst with
      | none => exact r
      | some t => have ht := h.2.1; rw [hd] at ht; exact r.to (Tr.ext r.o fun _ _ => rfl) r.o (okO_lt ht) hv
  · split at h
    · exact h.elim
    · split at h
      · rename_i p h' d hp
        have ok := estep_ok (P := P) (base := base) (nt := nt) hX hp h.1
        have hk := hF _ h.2.2
        have ht := h.2.1
        intro Z z pl a w r b
        obtain ⟨v, w', pl', hrun, hT, hO, hv, hb, hext⟩ := ok Z pl a w r (Nat.le_trans hbase b.1.size)
        have fin : ∀ u, u = v → Rel Z base nt ⟨putO s.fr o.dst d, h'⟩ pl' (a.put o.dst u) w' := by
          rintro u rfl
          cases hd : o.dst with
          | none => exact r.to' hT hO u
          | some t => rw [hd] at ht; exact r.to hT hO (okO_lt ht) hv
        unfold Oper.wp
        rcases hrun with hrun | ⟨hrun, hu⟩
        · rw [hrun]
          simp only [Oper.upon_value]
          exact ⟨hext, _, pl', hk, fin v rfl, b.step hT hb⟩
        · rw [hrun]
          simp only [Oper.upon_skip]
          exact ⟨hext, _, pl', hk, fin _ hu.symm, b.step hT hb⟩
      · exact hstop h
theorem haxK_ok {X : Cx} (hX : CxOk P X) (hbase : base ≤ w0.w.heap.size) {K : St → Prop} : ∀ (l : List (Bool × Oper × G)) (s : St), haxK P base w0 X nt K l s → AX P base nt w0 K l s
  | [], s, h => h
  | (pu, o, g) :: r, s, h => by
    have st : ∀ s, haxO X nt pu o (haxK P base w0 X nt K r) (AX P base nt w0 K ((pu, o, none) :: r) s) s → AXo P base nt w0 pu o (AX P base nt w0 K r) s := fun s hh =>
      haxO_ok hX hbase (fun s => haxK_ok hX hbase r s) (fun h => h) hh
    simp only [haxK] at h
    simp only [AX]
    split at h
    · exact st s h
    · exact ⟨h.1, haxK_ok hX hbase r _ h.2⟩
    · rename_i t b
      split at h
      · rename_i x hx
        simp only [beqB_iff, beq_iff_eq, beq_eq_false_iff_ne, ne_eq] at h
        refine ⟨fun e => st _ (h.1 e), fun e => ?_⟩
        have := h.2 (by rw [e]; cases b <;> simp)
        exact ⟨this.1, haxK_ok hX hbase r _ this.2⟩
      · exact ⟨h.1, haxK_ok hX hbase r _ h.2⟩
      · exact h.elim

/-- The same argument, told otherwise. -/
def argEq (d' : D) : D → Prop
  | .imm z n r => match d' with
    | .imm z' n' r' => z' = z ∧ n' = n ∧ ∀ i, i < n → r' i = r i
    | _ => False
  | .raw v => d' = .raw v
  | .nil => d' = .nil
  | .undef => d' = .undef
  | .ip c => d' = .ip c
  | .ref l g o n => d' = .ref l g o n
  | .ptr l g i j => d' = .ptr l g i j
  | .mref l g => d' = .mref l g
  | .clo f n c => d' = .clo f n c
  | .agg c => d' = .agg c
  | .tup c => d' = .tup c
def argsEq : List D → List D → Prop
  | [], [] => True
  | d' :: r', d :: r => argEq d' d ∧ argsEq r' r
  | _, _ => False
theorem argEq_ok {N : Nat → Prop} {w : World} {d' d : D} {v : Value} (h : argEq d' d) (c : Cl N w d' v) : Cl N w d v := by
  cases d <;> simp only [argEq] at h
  case imm z n r =>
    split at h
    · obtain ⟨rfl, rfl, h⟩ := h
      cases c with
      | imm _ _ _ a cap b o vs ha hl hs hc hr =>
        exact .imm _ _ _ a cap b o vs ha hl (fun i hi => by rw [← h i hi]; exact hs i hi) hc (fun i j hi hj => by rw [← h i hi]; exact hr i j hi hj)
    · exact h.elim
  all_goals subst h; exact c
theorem argsEq_ok : ∀ {cs' cs : List D}, argsEq cs' cs → cs'.length = cs.length ∧ ∀ i, i < cs.length → argEq (nth cs' i) (nth cs i)
  | [], [], _ => ⟨rfl, fun i hi => by simp at hi⟩
  | [], _ :: _, h => h.elim
  | _ :: _, [], h => h.elim
  | d' :: r', d :: r, h => by
    obtain ⟨h1, h2⟩ := argsEq_ok h.2
    refine ⟨by simp [h1], fun i hi => ?_⟩
    cases i with
    | zero => exact h.1
    | succ i => have := h2 i (by simpa using hi); simpa [nth] using this
theorem argEq_rel {Z : Nat → Prop} {h : List Ob} {pl : List Pl} {w : World} {d' d : D} {v : Value} (e : argEq d' d) (r : RelV Z h pl w d' v) : RelV Z h pl w d v := by
  cases d <;> simp only [argEq] at e
  case imm z n r0 =>
    split at e
    · cases r with
      | cl _ _ hc => exact .cl _ _ (argEq_ok (d := .imm z n r0) (by simpa only [argEq] using e) hc)
    · exact e.elim
  all_goals subst e; exact r
theorem MFn.args {P : Program} {f : FuncId} {F : List Ob} {cs' cs : List D} {R : D → List Ob → Prop} (h : MFn P f F cs R) (e : argsEq cs' cs) : MFn P f F cs' R := fun Z base w pl vs h1 h2 h3 hl hc => by
  obtain ⟨e1, e2⟩ := argsEq_ok e
  exact h Z base w pl vs h1 h2 h3 (by omega) fun i hi => argEq_rel (e2 i hi) (hc i (by omega))
theorem AFn.args {P : Program} {f : FuncId} {cs' cs : List D} {R : D → List Ob → Prop} (h : AFn P f cs R) (e : argsEq cs' cs) : AFn P f cs' R := MFn.args h e

/-- A call within such a region. -/
theorem AX_call (hbase : base ≤ w0.w.heap.size) {K : St → Prop} {dst : Option Nat} {ty : TypeId} {pos : String} {after : Array Edge} {gd : Option (Nat × Bool)} {r : List (Bool × Oper × G)} {s : St} {x : Operand} {args : Array Operand} {tys : Array TypeId} {f : FuncId} {nf : Nat} {caps : List D} (hf : FnOk P f)
    (hx : calleeD (evalO s.fr x) = some (f, nf, caps)) {cs : List D} (hcs : match closeW (closeD s.h 4) (argsD nf caps (args.toList.map (evalO s.fr))) with | some (p, cs') => p ∧ argsEq cs' cs | none => False) {R : D → List Ob → Prop} (hF : AFn P f cs R)
    (hflat : ∀ d h, R d h → d.flat = true ∧ ∀ o ∈ h, o.flat) (ht : okO nt dst = true) (hk : ∀ d h, R d h → AX P base nt w0 K r ⟨putO s.fr dst (d.shift s.h.length), s.h ++ h.map (Ob.shift s.h.length)⟩) :
    AX P base nt w0 K ((false, ⟨dst, .call ⟨.value x, args, tys⟩, ty, pos, after, gd⟩, none) :: r) s := by
  simp only [AX, AXo]
  intro Z z pl a w rr b
  split at hcs
  · rename_i p cs' hc
    obtain ⟨hp, he⟩ := hcs
    have hF := hF.args he
    refine Oper.wp_mono (fun a' w' ⟨he, d, h, pl', hR, r', b'⟩ => ⟨fun _ => he, _, pl', hk d h hR, r', b'⟩) (call_wp hbase hf rfl hx hc hp hF hflat ht pl a w rr b _)
  · exact hcs.elim
theorem kont_call (hbase : base ≤ w0.w.heap.size) {Q : Exit → St → Prop} {k : List Item} {dst : Option Nat} {ty : TypeId} {pos : String} {after : Array Edge} {gd : Option (Nat × Bool)} {r : List (Oper × G)} {s : St} {x : Operand} {args : Array Operand} {tys : Array TypeId} {f : FuncId} {nf : Nat} {caps : List D} (hf : FnOk P f)
    (hx : calleeD (evalO s.fr x) = some (f, nf, caps)) {cs : List D} (hcs : match closeW (closeD s.h 4) (argsD nf caps (args.toList.map (evalO s.fr))) with | some (p, cs') => p ∧ argsEq cs' cs | none => False) {R : D → List Ob → Prop} (hF : AFn P f cs R)
    (hflat : ∀ d h, R d h → d.flat = true ∧ ∀ o ∈ h, o.flat) (ht : okO nt dst = true) (hk : ∀ d h, R d h → kont P base nt w0 Q (.ops r :: k) .normal ⟨putO s.fr dst (d.shift s.h.length), s.h ++ h.map (Ob.shift s.h.length)⟩) :
    kont P base nt w0 Q (.ops ((⟨dst, .call ⟨.value x, args, tys⟩, ty, pos, after, gd⟩, none) :: r) :: k) .normal s := by
  simp only [kont] at hk ⊢
  split at hcs
  · rename_i p cs' hc
    obtain ⟨hp, he⟩ := hcs
    have hF := hF.args he
    exact AG_call hbase hf rfl hx hc hp hF hflat ht hk
  · exact hcs.elim
end

section
variable {P : Program} {base nt : Nat} {w0 : Start}
theorem AXo.mono {pu : Bool} {o : Oper} {F F' : St → Prop} (hF : ∀ s, F s → F' s) {s : St} (h : AXo P base nt w0 pu o F s) : AXo P base nt w0 pu o F' s := by
  cases pu with
  | true => obtain ⟨d, h1, h2, h3⟩ := h; exact ⟨d, h1, h2, hF _ h3⟩
  | false =>
    intro Z z pl a w r b
    exact Oper.wp_mono (fun a' w' ⟨he, s', pl', h1, h2, h3⟩ => ⟨he, s', pl', hF _ h1, h2, h3⟩) (h Z z pl a w r b)
theorem AX.mono {K K' : St → Prop} (hK : ∀ s, K s → K' s) : ∀ (l : List (Bool × Oper × G)) (s : St), AX P base nt w0 K l s → AX P base nt w0 K' l s
  | [], s, h => hK s h
  | (pu, o, g) :: r, s, h => by
    simp only [AX] at h ⊢
    split at h
    · exact AXo.mono (AX.mono hK r) h
    · exact ⟨h.1, AX.mono hK r _ h.2⟩
    · split at h
      · exact ⟨fun e => AXo.mono (AX.mono hK r) (h.1 e), fun e => ⟨(h.2 e).1, AX.mono hK r _ (h.2 e).2⟩⟩
      · exact ⟨h.1, AX.mono hK r _ h.2⟩
      · exact h.elim
end
end Go.Fg
