/- The evaluator of code without loops and calls, over abstract states: what it comes to is a tree of cases and conditions; if these hold, so does the code's weakest precondition. No conditions. -/
import Derived.Test.YtiiaocpkjmiacaaFgMap
import Derived.Scope
namespace Go.Fg
set_option linter.unusedSimpArgs false
set_option linter.unusedVariables false
open Go.RowKit (Below)
variable {Z : Nat → Prop}

structure Cx where
  L : Lay
  E : EqT

def pstep (X : Cx) (s : St) : Op → Ev
  | .move x => some (True, evalO s.fr x)
  | .assign x => some (True, evalO s.fr x)
  | .pick c x y => match evalO s.fr c with
    | .raw (.bool b) => some (True, bif b then evalO s.fr x else evalO s.fr y)
    | _ => none
  | .binOp op t x y _ => match pbin X.L op t (evalO s.fr x) (evalO s.fr y) with
    | some r => some r
    | none => pbinA X.E op t (evalO s.fr x) (evalO s.fr y)
  | .unOp u _ x => match u, evalO s.fr x with
    | .not, .raw (.bool b) => some (True, .raw (.bool (!b)))
    | .neg, .raw (.int k n) => some (True, .raw (.int k (k.wrap (0 - n))))
    | .xor, .raw (.int k n) => some (True, .raw (.int k (bits .xor k (if k.signed then -1 else k.max) n)))
    | _, _ => none
  | .convert a b x => pconv X.L a b (evalO s.fr x)
  | .build t parts => match pbuild X.L s.fr t parts.toList with
    | some d => some (True, d)
    | none => none
  | .load t x => pload X.L s.h t (evalO s.fr x)
  | .nilCheck x => bif (evalO s.fr x).there then some (True, evalO s.fr x) else none
  | .fieldAddr t x f => pfieldAddr X.L t f (evalO s.fr x)
  | .field t x f => pfieldV X.L t f (evalO s.fr x)
  | .indexAddr t x i => pindexAddr X.L s.h t (evalO s.fr x) (evalO s.fr i)
  | .index t x i => pindex X.L t (evalO s.fr x) (evalO s.fr i)
  | .extract x i => match evalO s.fr x with
    | .tup cs => some (i < cs.length, nth cs i)
    | _ => none
  | .slice t x lo hi mx => match mx with
    | none => pslice X.L s.fr s.h t (evalO s.fr x) lo hi
    | some _ => none
  | .makeFunc fn first caps => match fn, first with
    | .func f, ⟨fs⟩ => some (True, .clo f fs.length ((fs ++ caps.toList).map (evalO s.fr)))
    | _, _ => none
  | .call ⟨.builtin b, ⟨args⟩, ⟨tys⟩⟩ => match b, args, tys with
    | .len, [x], [t] => match plen X.L t (evalO s.fr x) with
      | some r => some r
      | none => pmlen X.L s.h t (evalO s.fr x)
    | .max, [x, y], _ => match evalO s.fr x, evalO s.fr y with
      | .raw (.int k m), .raw (.int _ n) => some (True, .raw (.int k (max m n)))
      | _, _ => none
    | .min, [x, y], _ => match evalO s.fr x, evalO s.fr y with
      | .raw (.int k m), .raw (.int _ n) => some (True, .raw (.int k (min m n)))
      | _, _ => none
    | _, _, _ => none
  | .lookup t x i ok => plook X.L s.h t (evalO s.fr x) (evalO s.fr i) ok
  | _ => none

structure CxOk (P : Program) (X : Cx) : Prop where
  L : LayOk P X.L
  E : EqOk P X.E

theorem pstep_ok {P : Program} {X : Cx} (hX : CxOk P X) {base nt : Nat} {s : St} {o : Oper} {p : Prop} {d : D} (h : pstep X s o.op = some (p, d)) (hp : p) : PureOk P base nt o s d := by
  unfold pstep at h
  split at h
  case h_1 x ho => simp only [Option.some.injEq, Prod.mk.injEq] at h; obtain ⟨rfl, rfl⟩ := h; exact move_ok (.inl ho)
  case h_2 x ho => simp only [Option.some.injEq, Prod.mk.injEq] at h; obtain ⟨rfl, rfl⟩ := h; exact move_ok (.inr ho)
  case h_3 c x y ho =>
    split at h
    · rename_i b hc
      simp only [Option.some.injEq, Prod.mk.injEq] at h; obtain ⟨rfl, rfl⟩ := h; exact pick_ok ho hc
    · cases h
  case h_4 op t x y yt ho =>
    split at h
    · rename_i r hr
      simp only [Option.some.injEq] at h
      subst h
      exact pbin_ok hX.L ho hr hp
    · exact pbinA_ok hX.E ho h
  case h_5 u t x ho =>
    split at h
    · rename_i b hx; simp only [Option.some.injEq, Prod.mk.injEq] at h; obtain ⟨rfl, rfl⟩ := h; exact unop_ok ho rfl hx
    · rename_i k n hx; simp only [Option.some.injEq, Prod.mk.injEq] at h; obtain ⟨rfl, rfl⟩ := h; exact neg_ok ho rfl hx
    · rename_i k n hx; simp only [Option.some.injEq, Prod.mk.injEq] at h; obtain ⟨rfl, rfl⟩ := h; exact inv_ok ho rfl hx
    · cases h
  case h_6 a b x ho => exact conv_ok hX.L ho h
  case h_7 t parts ho =>
    split at h
    · rename_i dd hd; simp only [Option.some.injEq, Prod.mk.injEq] at h; obtain ⟨rfl, rfl⟩ := h; exact build_ok hX.L ho hd
    · cases h
  case h_8 t x ho => exact load_ok hX.L ho h hp
  case h_9 x ho =>
    obtain ⟨ht, h2⟩ := cond_none h
    simp only [Option.some.injEq, Prod.mk.injEq] at h2; obtain ⟨rfl, rfl⟩ := h2
    exact nilCheck_ok ho rfl ht
  case h_10 t x f ho => exact fieldAddr_ok hX.L ho h hp
  case h_11 t x f ho => exact fieldV_ok hX.L ho h hp
  case h_12 t x i ho => exact indexAddr_ok hX.L ho h hp
  case h_13 t x i ho => exact index_ok hX.L ho h hp
  case h_14 x i ho =>
    split at h
    · rename_i cs hx; simp only [Option.some.injEq, Prod.mk.injEq] at h; obtain ⟨rfl, rfl⟩ := h; exact extract_ok ho hx hp
    · cases h
  case h_15 t x lo hi mx ho =>
    split at h
    · exact slice_ok hX.L ho h hp
    · cases h
  case h_16 fn first caps ho =>
    split at h
    · simp only [Option.some.injEq, Prod.mk.injEq] at h; obtain ⟨rfl, rfl⟩ := h; exact makeFunc_ok ho
    · cases h
  case h_17 b args tys ho =>
    split at h
    · split at h
      · rename_i r hr
        simp only [Option.some.injEq] at h
        subst h
        exact len_ok hX.L ho hr
      · exact mlen_ok hX.L ho rfl h hp
    · split at h
      · rename_i k m k' n hx hy; simp only [Option.some.injEq, Prod.mk.injEq] at h; obtain ⟨rfl, rfl⟩ := h; exact max2_ok ho hx hy
      · cases h
    · split at h
      · rename_i k m k' n hx hy; simp only [Option.some.injEq, Prod.mk.injEq] at h; obtain ⟨rfl, rfl⟩ := h; exact min2_ok ho hx hy
      · cases h
    · cases h
  case h_18 t x i ok ho => exact look_ok hX.L ho h hp
  case h_19 => cases h

def estep (X : Cx) (s : St) : Op → Option (Prop × List Ob × D)
  | .alloc t => match ty X.L t with
    | some y => some (True, s.h ++ [⟨.one, 0, (y.zero.map ofCell).length, 1, fun _ => y.zero.map ofCell⟩], .ptr s.h.length 0 0 0)
    | none => none
  | .box _ x => match cellsD (evalO s.fr x) with
    | some cs => some (True, s.h ++ [⟨.one, 0, cs.length, 1, fun _ => cs⟩], .ptr s.h.length 0 0 0)
    | none => none
  | .store t a x => match pstore X.L s.h t (evalO s.fr a) (evalO s.fr x) with
    | some (p, h') => some (p, h', .undef)
    | none => none
  | .buildSlice t len parts => pbuildSlice X.L s.fr s.h t len parts.toList
  | .call ⟨.builtin b, ⟨args⟩, ⟨tys⟩⟩ => match b, args, tys with
    | .append, [x, y], [t, t'] => bif Nat.beq t t' then papp X.L s.h t (evalO s.fr x) (evalO s.fr y) else none
    | .delete, [x, i], [t, _] => match pdel X.L s.h t (evalO s.fr x) (evalO s.fr i) with
      | some (p, h') => some (p, h', .tup [])
      | none => none
    | _, _, _ => none
  | .makeMap t rz => match rz with
    | none => pmake X.L s.h t
    | some (.const (.int _ n)) => bif decide (0 ≤ n) then pmake X.L s.h t else none
    | some _ => none
  | .mapUpdate t x i v => match pupd X.L s.h t (evalO s.fr x) (evalO s.fr i) (evalO s.fr v) with
    | some (p, h') => some (p, h', .undef)
    | none => none
  | .range t x => prange X.L s.h t (evalO s.fr x)
  | _ => none
theorem papp_cases {L : Lay} {h : List Ob} {t : TypeId} {s x : D} {r : Prop × List Ob × D} (e : papp L h t s x = some r) : s = .nil ∨ ∃ l g off len, s = .ref l g off len := by
  unfold papp at e
  split at e
  · split at e
    · exact .inl rfl
    · exact .inr ⟨_, _, _, _, rfl⟩
    · cases e
  · cases e
theorem estep_ok {P : Program} {X : Cx} (hX : CxOk P X) {base nt : Nat} {s : St} {o : Oper} {p : Prop} {h' : List Ob} {d : D} (h : estep X s o.op = some (p, h', d)) (hp : p) : EffOk P base nt o s h' d := by
  unfold estep at h
  split at h
  case h_1 t ho =>
    split at h
    · rename_i y hy; simp only [Option.some.injEq, Prod.mk.injEq] at h; obtain ⟨rfl, rfl, rfl⟩ := h; exact alloc_ok hX.L ho hy
    · cases h
  case h_2 t x ho =>
    split at h
    · rename_i cs hc; simp only [Option.some.injEq, Prod.mk.injEq] at h; obtain ⟨rfl, rfl, rfl⟩ := h; exact box_ok ho hc
    · cases h
  case h_3 t a x ho =>
    split at h
    · rename_i p' h'' hs; simp only [Option.some.injEq, Prod.mk.injEq] at h; obtain ⟨rfl, rfl, rfl⟩ := h; exact store_ok hX.L ho hs hp
    · cases h
  case h_4 t len parts ho => exact buildSlice_ok hX.L ho h hp
  case h_5 b args tys ho =>
    split at h
    · obtain ⟨ht, h2⟩ := cond_none h
      have ht := Nat.eq_of_beq_eq_true ht
      subst ht
      rcases papp_cases h2 with e | ⟨l, g, off, len, e⟩
      · rw [e] at h2; exact append_nil_ok hX.L ho e h2 hp
      · rw [e] at h2; exact append_ref_ok hX.L ho e h2 hp
    · split at h
      · rename_i p' h'' hs; simp only [Option.some.injEq, Prod.mk.injEq] at h; obtain ⟨rfl, rfl, rfl⟩ := h; exact del_ok hX.L ho hs hp
      · cases h
    · cases h
  case h_6 t rz ho =>
    split at h
    · exact make_ok hX.L (.inl rfl) ho h
    · rename_i k n
      obtain ⟨hn, h2⟩ := cond_none h
      exact make_ok hX.L (.inr ⟨k, n, rfl, of_decide_eq_true hn⟩) ho h2
    · cases h
  case h_7 t x i v ho =>
    split at h
    · rename_i p' h'' hs; simp only [Option.some.injEq, Prod.mk.injEq] at h; obtain ⟨rfl, rfl, rfl⟩ := h; exact upd_ok hX.L ho hs hp
    · cases h
  case h_8 t x ho => exact range_ok hX.L ho h hp
  case h_9 => cases h

/-! Guards, regions, code. -/
abbrev G := Option (Option Nat × Bool)
def guardOf (ops : Array Oper) (o : Oper) : G := match o.guard with
  | none => none
  | some (j, b) => some ((ops[j]?).bind (·.dst), b)
/-- An operation without what its run does not look at. -/
def strip (o : Oper) : Oper := ⟨o.dst, o.op, o.type, "", #[], none⟩
theorem wp_strip {P : Program} {o : Oper} {a : Act} {w : World} {K : Act → World → Prop} {Q : Exit → Act → World → Prop} : (strip o).wp P a w K Q = o.wp P a w K Q := rfl
def gops (ops : Array Oper) : List (Oper × G) := ops.toList.map fun o => (strip o, guardOf ops o)
def boolAt (tmps : Array Value) (t : Nat) : Option Bool := match tmps[t]? with
  | some (.bool b) => some b
  | _ => none
def wantedG (g : G) (tmps : Array Value) : Bool := match g with
  | none => true
  | some (none, _) => false
  | some (some t, b) => boolAt tmps t == some b
theorem wanted_iff (ops : Array Oper) (o : Oper) (tmps : Array Value) : Region.wanted o (yielded ops tmps) = wantedG (guardOf ops o) tmps := by
  unfold Region.wanted guardOf wantedG
  cases hg : o.guard with
  | none => rfl
  | some jb =>
    obtain ⟨j, b⟩ := jb
    dsimp only
    cases hd : (ops[j]?).bind (·.dst) with
    | none => simp [yielded, hd]
    | some t =>
      simp only [yielded, hd, Option.bind_some, boolAt]
      cases ht : tmps[t]? with
      | none => rfl
      | some v => cases v <;> rfl

def wpG (P : Program) (Q : Exit → Act → World → Prop) : List (Oper × G) → Act → World → Prop
  | [], a, w => Q .normal a w
  | (o, g) :: r, a, w => if wantedG g a.tmps = true then o.wp P a w (wpG P Q r) Q else wpG P Q r (a.put o.dst Go.undef) w
theorem wpG_ok {P : Program} {ops : Array Oper} {Q : Exit → Act → World → Prop} : ∀ (n i : Nat) (a : Act) (w : World), i + n = ops.size → wpG P Q ((gops ops).drop i) a w → wpOps P ops Q (List.range' i n) a w
  | 0, i, a, w, hi, h => by
    have : (gops ops).drop i = [] := List.drop_eq_nil_of_le (by simp [gops]; omega)
    rw [this] at h
    exact h
  | n + 1, i, a, w, hi, h => by
    have hlt : i < ops.size := by omega
    have hd : (gops ops).drop i = (strip ops[i], guardOf ops ops[i]) :: (gops ops).drop (i + 1) := by
      rw [List.drop_eq_getElem_cons (by simp [gops]; omega)]
      simp [gops]
    rw [hd] at h
    rw [List.range'_succ]
    simp only [wpOps, Array.getElem?_eq_getElem hlt, wanted_iff]
    simp only [wpG] at h
    split at h
    · rename_i hw
      rw [if_pos hw]
      refine .inl ?_
      have mono : ∀ (K K' : Act → World → Prop), (∀ a w, K a w → K' a w) → ops[i].wp P a w K Q → ops[i].wp P a w K' Q := by
        intro K K' hk hh
        unfold Oper.wp at *
        generalize (execOp a.eval ops[i]).run P w = r at *
        cases r with
        | ok x w' =>
          cases x <;> simp only [Oper.upon] at hh ⊢ <;> first | exact hk _ _ hh | exact hh | skip
          · exact hh.mono fun e w'' he => by cases e <;> first | exact hk _ _ he | exact he
          · exact hh.mono fun v w'' he => hk _ _ he
        | halt x w' => cases x <;> exact hh
      rw [wp_strip] at h
      exact mono _ _ (fun a w => wpG_ok n (i + 1) a w (by omega)) h
    · rename_i hw
      rw [if_neg hw]
      exact wpG_ok n (i + 1) _ w (by omega) h
theorem wpG_region {P : Program} {id : Nat} {ops : Array Oper} {Q : Exit → Act → World → Prop} {a : Act} {w : World} (h : wpG P Q (gops ops) a w) : (Code.region id ops false).wp P Q a w :=
  wp_region (by rw [List.range_eq_range']; exact wpG_ok ops.size 0 a w (by omega) (by simpa using h))

/-- Where a walk began: the world, the objects that the call was lent, and where they lie. -/
structure Start where
  w : World
  F : List Ob
  pl : List Pl
/-- Which blocks closed values may lean on: those to come, and those of the call's own objects. -/
structure ZIn (Z : Nat → Prop) (w0 : Start) (pl : List Pl) (w : World) : Prop where
  new : ∀ b, w.heap.size ≤ b → Z b
  own : ∀ (l b q : Nat), pl[l]? = some (some (b, q)) → w0.w.heap.size ≤ b → Z b
theorem ZIn.step {Z : Nat → Prop} {w0 : Start} {h h' : List Ob} {pl pl' : List Pl} {w w' : World} (S : ZIn Z w0 pl w) (T : Tr h pl w h' pl' w') (hs : w.heap.size ≤ w'.heap.size) : ZIn Z w0 pl' w' where
  new := fun b hb => S.new b (by omega)
  own := fun l b q e h0 => by
    rcases Nat.lt_or_ge b w.heap.size with hlt | hge
    · by_cases ha : away pl b
      · exact absurd e ((T.old b ha hlt).1 l q)
      · obtain ⟨l1, h1⟩ := Classical.not_forall.1 ha
        obtain ⟨q1, h2⟩ := Classical.not_forall.1 h1
        exact S.own l1 b q1 (Classical.not_not.1 h2) h0
    · exact S.new b hge
theorem ZIn.start {Z : Nat → Prop} {base : Nat} {w0 : Start} {h : List Ob} {pl : List Pl} (R : RelO Z base h pl w0.w) (hz : ∀ b, w0.w.heap.size ≤ b → Z b) : ZIn Z w0 pl w0.w where
  new := hz
  own := fun l b q e h0 => absurd (R.lt e).1 (by omega)
def Since (Z : Nat → Prop) (base : Nat) (w0 : Start) (h : List Ob) (pl : List Pl) (w : World) : Prop := Below base w0.w w ∧ Tr w0.F w0.pl w0.w h pl w ∧ ZIn Z w0 pl w
theorem Since.step {Z : Nat → Prop} {base : Nat} {w0 : Start} {h h' : List Ob} {pl pl' : List Pl} {w w' : World} (S : Since Z base w0 h pl w) (T : Tr h pl w h' pl' w') (b : Below base w w') : Since Z base w0 h' pl' w' := ⟨S.1.trans b, S.2.1.trans T, S.2.2.step T b.size⟩
section
variable (P : Program) (base nt : Nat) (w0 : Start)
def ZOk (_ : Start) (_ : Nat → Prop) : Prop := True
def lift (Z : Nat → Prop) (Q : Exit → St → Prop) (e : Exit) (a : Act) (w : World) : Prop := ∃ s pl, Q e s ∧ Rel Z base nt s pl a w ∧ Since Z base w0 s.h pl w
/-- The abstract weakest precondition of code. -/
def A (c : Code) (Q : Exit → St → Prop) (s : St) : Prop := ∀ (Z : Nat → Prop), ZOk w0 Z → ∀ pl a w, Rel Z base nt s pl a w → Since Z base w0 s.h pl w → c.wp P (lift base nt w0 Z Q) a w
def AG (l : List (Oper × G)) (Q : Exit → St → Prop) (s : St) : Prop := ∀ (Z : Nat → Prop), ZOk w0 Z → ∀ pl a w, Rel Z base nt s pl a w → Since Z base w0 s.h pl w → wpG P (lift base nt w0 Z Q) l a w
end

inductive Item where
  | code (c : Code)
  | ops (l : List (Oper × G))
  | inBlock (id : Nat)
  | inScope

def kont (P : Program) (base nt : Nat) (w0 : Start) (Q : Exit → St → Prop) : List Item → Exit → St → Prop
  | [], e, s => Q e s
  | .code c :: k, .normal, s => A P base nt w0 c (kont P base nt w0 Q k) s
  | .code _ :: k, e, s => kont P base nt w0 Q k e s
  | .ops l :: k, .normal, s => AG P base nt w0 l (kont P base nt w0 Q k) s
  | .ops _ :: k, e, s => kont P base nt w0 Q k e s
  | .inBlock id :: k, .exit j, s => if j = id then kont P base nt w0 Q k .normal s else kont P base nt w0 Q k (.exit j) s
  | .inBlock _ :: k, e, s => kont P base nt w0 Q k e s
  | .inScope :: _, .goto _, _ => False
  | .inScope :: k, e, s => kont P base nt w0 Q k e s

inductive Tree where
  | done (e : Exit) (s : St)
  | stop (k : List Item) (s : St)
  | vc (p : Prop) (t : Tree)
  | ite (b : Bool) (t e : Tree)
  | fail

def Tree.holds (P : Program) (base nt : Nat) (w0 : Start) (Q : Exit → St → Prop) : Tree → Prop
  | .done e s => Q e s
  | .stop k s => kont P base nt w0 Q k .normal s
  | .vc p t => p ∧ t.holds P base nt w0 Q
  | .ite b t e => (b = true → t.holds P base nt w0 Q) ∧ (b = false → e.holds P base nt w0 Q)
  | .fail => False

def exitK (id : Nat) : List Item → Option (List Item)
  | [] => none
  | .inBlock j :: k => bif Nat.beq id j then some k else exitK id k
  | _ :: k => exitK id k
def putO (fr : List (Nat × D)) (t : Option Nat) (d : D) : List (Nat × D) := match t with
  | none => fr
  | some t => put fr t d
def okO (nt : Nat) : Option Nat → Bool
  | none => true
  | some t => Nat.blt t nt

def beqB : Bool → Bool → Bool
  | true, x => x
  | false, x => !x
theorem beqB_iff (b x : Bool) : beqB b x = (x == b) := by cases b <;> cases x <;> rfl

def exec (X : Cx) (nt : Nat) : Nat → List Item → St → Tree
  | 0, k, s => .stop k s
  | _ + 1, [], s => .done .normal s
  | n + 1, .inBlock _ :: k, s => exec X nt n k s
  | n + 1, .inScope :: k, s => exec X nt n k s
  | n + 1, .code c :: k, s => match c with
    | .skip => exec X nt n k s
    | .label _ => exec X nt n k s
    | .seq a b => exec X nt n (.code a :: .code b :: k) s
    | .cond c a b => match evalO s.fr c with
      | .raw (.bool x) => .ite x (exec X nt n (.code a :: k) s) (exec X nt n (.code b :: k) s)
      | _ => .fail
    | .block id c => exec X nt n (.code c :: .inBlock id :: k) s
    | .scope c => exec X nt n (.code c :: .inScope :: k) s
    | .exit id => match exitK id k with
      | some k' => exec X nt n k' s
      | none => .done (.exit id) s
    | .ret => .done .ret s
    | .region id ops dr => bif dr then .stop (.code (.region id ops dr) :: k) s else exec X nt n (.ops (gops ops) :: k) s
    | c => .stop (.code c :: k) s
  | n + 1, .ops [] :: k, s => exec X nt n k s
  | n + 1, .ops ((o, g) :: r) :: k, s => match g with
    | none => match pstep X s o.op with
      | some (p, d) => bif okO nt o.dst then .vc p (exec X nt n (.ops r :: k) ⟨putO s.fr o.dst d, s.h⟩) else .fail
      | none => match estep X s o.op with
        | some (p, h', d) => bif okO nt o.dst then .vc p (exec X nt n (.ops r :: k) ⟨putO s.fr o.dst d, h'⟩) else .fail
        | none => .stop (.ops ((o, none) :: r) :: k) s
    | some (none, _) => bif okO nt o.dst then exec X nt n (.ops r :: k) ⟨putO s.fr o.dst (.raw Go.undef), s.h⟩ else .fail
    | some (some t, b) => match get s.fr t with
      | .raw (.bool x) => .ite (beqB b x) (exec X nt n (.ops ((o, none) :: r) :: k) ⟨put s.fr t (.raw (.bool b)), s.h⟩)
          (bif okO nt o.dst then exec X nt n (.ops r :: k) ⟨putO (put s.fr t (.raw (.bool (!b)))) o.dst (.raw Go.undef), s.h⟩ else .fail)
      | .raw (.tuple _) => bif okO nt o.dst then exec X nt n (.ops r :: k) ⟨putO s.fr o.dst (.raw Go.undef), s.h⟩ else .fail
      | _ => .fail

/-! That the tree's conditions suffice. -/
section
variable {P : Program} {base nt : Nat} {w0 : Start} {Q : Exit → St → Prop}

theorem A.mono {c : Code} {Q Q' : Exit → St → Prop} {s : St} (h : A P base nt w0 c Q s) (hq : ∀ e s, Q e s → Q' e s) : A P base nt w0 c Q' s :=
  fun Z z pl a w r b => wp_mono (h Z z pl a w r b) fun _ _ _ ⟨s', pl', h1, h2, h3⟩ => ⟨s', pl', hq _ _ h1, h2, h3⟩

theorem A_seq {x y : Code} {s : St} (h : A P base nt w0 x (fun e s' => match e with | .normal => A P base nt w0 y Q s' | e => Q e s') s) : A P base nt w0 (.seq x y) Q s := by
  intro Z z pl a w r b
  refine wp_seq (wp_mono (h Z z pl a w r b) fun e a' w' hh => ?_)
  obtain ⟨s', pl', h1, h2, h3⟩ := hh
  cases e with
  | normal => exact h1 Z z pl' a' w' h2 h3
  | exit id => exact ⟨s', pl', h1, h2, h3⟩
  | goto l => exact ⟨s', pl', h1, h2, h3⟩
  | ret => exact ⟨s', pl', h1, h2, h3⟩
  | panic ch => exact ⟨s', pl', h1, h2, h3⟩
  | outgrown => exact ⟨s', pl', h1, h2, h3⟩
theorem A_block {id : Nat} {c : Code} {s : St} (h : A P base nt w0 c (fun e s' => match e with | .exit j => if j = id then Q .normal s' else Q (.exit j) s' | e => Q e s') s) : A P base nt w0 (.block id c) Q s := by
  intro Z z pl a w r b
  refine wp_block (wp_mono (h Z z pl a w r b) fun e a' w' hh => ?_)
  obtain ⟨s', pl', h1, h2, h3⟩ := hh
  cases e with
  | exit j =>
    simp only [Exit.inBlock]
    dsimp only at h1
    split
    · rename_i hj; rw [if_pos hj] at h1; exact ⟨s', pl', h1, h2, h3⟩
    · rename_i hj; rw [if_neg hj] at h1; exact ⟨s', pl', h1, h2, h3⟩
  | normal => exact ⟨s', pl', h1, h2, h3⟩
  | goto l => exact ⟨s', pl', h1, h2, h3⟩
  | ret => exact ⟨s', pl', h1, h2, h3⟩
  | panic ch => exact ⟨s', pl', h1, h2, h3⟩
  | outgrown => exact ⟨s', pl', h1, h2, h3⟩

theorem A_scope {c : Code} {s : St} (h : A P base nt w0 c (fun e s' => match e with | .goto _ => False | e => Q e s') s) : A P base nt w0 (.scope c) Q s := by
  intro Z z pl a w r b
  refine wp_scope_straight (wp_mono (h Z z pl a w r b) fun e a' w' hh => ?_)
  obtain ⟨s', pl', h1, h2, h3⟩ := hh
  cases e with
  | goto l => exact h1.elim
  | normal => exact ⟨s', pl', h1, h2, h3⟩
  | exit j => exact ⟨s', pl', h1, h2, h3⟩
  | ret => exact ⟨s', pl', h1, h2, h3⟩
  | panic ch => exact ⟨s', pl', h1, h2, h3⟩
  | outgrown => exact ⟨s', pl', h1, h2, h3⟩
theorem kont_scope {c : Code} {k : List Item} {s : St} (h : kont P base nt w0 Q (.code c :: .inScope :: k) .normal s) : kont P base nt w0 Q (.code (.scope c) :: k) .normal s := by
  simp only [kont] at h ⊢
  refine A_scope (h.mono fun e s' he => ?_)
  cases e <;> exact he
theorem kont_seq {a b : Code} {k : List Item} {s : St} (h : kont P base nt w0 Q (.code a :: .code b :: k) .normal s) : kont P base nt w0 Q (.code (.seq a b) :: k) .normal s := by
  simp only [kont] at h ⊢
  refine A_seq (h.mono fun e s' he => ?_)
  cases e <;> exact he
theorem kont_block {id : Nat} {c : Code} {k : List Item} {s : St} (h : kont P base nt w0 Q (.code c :: .inBlock id :: k) .normal s) : kont P base nt w0 Q (.code (.block id c) :: k) .normal s := by
  simp only [kont] at h ⊢
  refine A_block (h.mono fun e s' he => ?_)
  cases e <;> exact he
theorem kont_cond {c : Operand} {x y : Code} {k : List Item} {s : St} {t : Bool} (hc : evalO s.fr c = .raw (.bool t)) (h1 : t = true → kont P base nt w0 Q (.code x :: k) .normal s) (h2 : t = false → kont P base nt w0 Q (.code y :: k) .normal s) :
    kont P base nt w0 Q (.code (.cond c x y) :: k) .normal s := by
  simp only [kont] at h1 h2 ⊢
  intro Z z pl a w r b
  have he := r.eval c
  rw [hc] at he
  have := inv_raw he
  cases t
  · exact wp_cond_false this (h2 rfl Z z pl a w r b)
  · exact wp_cond_true this (h1 rfl Z z pl a w r b)
theorem kont_exit {id : Nat} : ∀ {k k' : List Item} {s : St}, exitK id k = some k' → kont P base nt w0 Q k' .normal s → kont P base nt w0 Q k (.exit id) s
  | [], k', s, h, _ => by simp [exitK] at h
  | .code c :: k, k', s, h, hk => by simp only [exitK] at h; simp only [kont]; exact kont_exit h hk
  | .ops c :: k, k', s, h, hk => by simp only [exitK] at h; simp only [kont]; exact kont_exit h hk
  | .inScope :: k, k', s, h, hk => by simp only [exitK] at h; simp only [kont]; exact kont_exit h hk
  | .inBlock j :: k, k', s, h, hk => by
    simp only [exitK] at h
    simp only [kont]
    by_cases hj : id = j
    · subst hj
      simp at h
      subst h
      rw [if_pos rfl]; exact hk
    · have : Nat.beq id j = false := by rw [← Bool.not_eq_true, Nat.beq_eq]; exact hj
      rw [this] at h
      rw [if_neg hj]
      exact kont_exit h hk
theorem kont_exit_none {id : Nat} : ∀ {k : List Item} {s : St}, exitK id k = none → Q (.exit id) s → kont P base nt w0 Q k (.exit id) s
  | [], s, _, hq => hq
  | .code c :: k, s, h, hq => by simp only [exitK] at h; simp only [kont]; exact kont_exit_none h hq
  | .ops c :: k, s, h, hq => by simp only [exitK] at h; simp only [kont]; exact kont_exit_none h hq
  | .inScope :: k, s, h, hq => by simp only [exitK] at h; simp only [kont]; exact kont_exit_none h hq
  | .inBlock j :: k, s, h, hq => by
    simp only [exitK] at h
    simp only [kont]
    by_cases hj : id = j
    · subst hj; simp at h
    · have : Nat.beq id j = false := by rw [← Bool.not_eq_true, Nat.beq_eq]; exact hj
      rw [this] at h
      rw [if_neg hj]
      exact kont_exit_none h hq
theorem kont_ret : ∀ {k : List Item} {s : St}, Q .ret s → kont P base nt w0 Q k .ret s
  | [], _, hq => hq
  | .code _ :: _, _, hq => by simp only [kont]; exact kont_ret hq
  | .ops _ :: _, _, hq => by simp only [kont]; exact kont_ret hq
  | .inBlock _ :: _, _, hq => by simp only [kont]; exact kont_ret hq
  | .inScope :: _, _, hq => by simp only [kont]; exact kont_ret hq

theorem okO_lt {t : Nat} (h : okO nt (some t) = true) : t < nt := by simpa [okO, Nat.blt_eq] using h

/-- A slot is passed over. -/
theorem Rel.skip {s : St} {pl : List Pl} {a : Act} {w : World} (r : Rel Z base nt s pl a w) {t : Option Nat} (ht : okO nt t = true) : Rel Z base nt ⟨putO s.fr t (.raw Go.undef), s.h⟩ pl (a.put t Go.undef) w := by
  cases t with
  | none => exact r
  | some t => exact r.to (Tr.ext r.o fun _ _ => rfl) r.o (okO_lt ht) (.cl _ _ (.raw _))

theorem AG_pure {o : Oper} {rest : List (Oper × G)} {s : St} {d : D} (h : PureOk P base nt o s d) (ht : okO nt o.dst = true) (hk : AG P base nt w0 rest Q ⟨putO s.fr o.dst d, s.h⟩) : AG P base nt w0 ((o, none) :: rest) Q s := by
  intro Z z pl a w r b
  obtain ⟨v, hv, hrun⟩ := h Z pl a w r
  simp only [wpG, wantedG, if_true]
  unfold Oper.wp
  rw [hrun w fun _ _ => rfl]
  simp only [Oper.upon_value]
  refine hk Z z pl _ w ?_ b
  cases hd : o.dst with
  | none => exact r
  | some t => rw [hd] at ht; exact r.to (Tr.ext r.o fun _ _ => rfl) r.o (okO_lt ht) hv
theorem AG_eff (hbase : base ≤ w0.w.heap.size) {o : Oper} {rest : List (Oper × G)} {s : St} {h' : List Ob} {d : D} (h : EffOk P base nt o s h' d) (ht : okO nt o.dst = true) (hk : AG P base nt w0 rest Q ⟨putO s.fr o.dst d, h'⟩) : AG P base nt w0 ((o, none) :: rest) Q s := by
  intro Z z pl a w r b
  obtain ⟨v, w', pl', hrun, hT, hO, hv, hb, _⟩ := h Z pl a w r (Nat.le_trans hbase b.1.size)
  have fin : ∀ u, u = v → Rel Z base nt ⟨putO s.fr o.dst d, h'⟩ pl' (a.put o.dst u) w' := by
    rintro u rfl
    cases hd : o.dst with
    | none => exact r.to' hT hO u
    | some t => rw [hd] at ht; exact r.to hT hO (okO_lt ht) hv
  simp only [wpG, wantedG, if_true]
  unfold Oper.wp
  rcases hrun with hrun | ⟨hrun, hu⟩
  · rw [hrun]
    simp only [Oper.upon_value]
    exact hk Z z pl' _ w' (fin v rfl) (b.step hT hb)
  · rw [hrun]
    simp only [Oper.upon_skip]
    exact hk Z z pl' _ w' (fin _ hu.symm) (b.step hT hb)

theorem boolAt_of {tmps : Array Value} {t : Nat} {b : Bool} (h : tmps.getD t Go.undef = .bool b) : boolAt tmps t = some b := by
  unfold boolAt
  rw [Array.getD_eq_getD_getElem?] at h
  cases hh : tmps[t]? with
  | none => rw [hh] at h; simp [Go.undef] at h
  | some v => rw [hh] at h; simp at h; rw [h]
theorem boolAt_tuple {tmps : Array Value} {t : Nat} {vs : Array Value} (h : tmps.getD t Go.undef = .tuple vs) : boolAt tmps t = none := by
  unfold boolAt
  rw [Array.getD_eq_getD_getElem?] at h
  cases hh : tmps[t]? with
  | none => rfl
  | some v => rw [hh] at h; simp at h; rw [h]

/-- A slot's value is told anew. -/
theorem Rel.tell {s : St} {pl : List Pl} {a : Act} {w : World} (r : Rel Z base nt s pl a w) {t : Nat} {d : D} (hd : RelV Z s.h pl w d (a.tmps.getD t Go.undef)) : Rel Z base nt ⟨put s.fr t d, s.h⟩ pl a w :=
  ⟨r.nt, r.defers, fun u => by
    rw [get_put]
    by_cases h : u = t
    · subst h; rw [if_pos rfl]; exact hd
    · rw [if_neg h]; exact r.fr u, r.o⟩

theorem AG_guard {o : Oper} {rest : List (Oper × G)} {s : St} {t : Nat} {b x : Bool} (hx : get s.fr t = .raw (.bool x)) (ht : okO nt o.dst = true ∨ x = b)
    (h1 : x = b → AG P base nt w0 ((o, none) :: rest) Q ⟨put s.fr t (.raw (.bool b)), s.h⟩) (h2 : x = (!b) → AG P base nt w0 rest Q ⟨putO (put s.fr t (.raw (.bool (!b)))) o.dst (.raw Go.undef), s.h⟩) : AG P base nt w0 ((o, some (some t, b)) :: rest) Q s := by
  intro Z z pl a w r bb
  have hr := r.fr t
  rw [hx] at hr
  have hv := inv_raw hr
  have hb := boolAt_of hv
  simp only [wpG, wantedG, hb]
  by_cases hxb : x = b
  · have := h1 hxb Z z pl a w (r.tell (by rw [hv, hxb]; exact .cl _ _ (.raw _))) bb
    simp only [wpG, wantedG, if_true] at this
    rw [if_pos (by simp [hxb])]
    exact this
  · have hxn : x = (!b) := by cases x <;> cases b <;> simp_all
    rw [if_neg (by simp [hxb])]
    have r2 : Rel Z base nt ⟨put s.fr t (.raw (.bool (!b))), s.h⟩ pl a w := r.tell (by rw [hv, hxn]; exact .cl _ _ (.raw _))
    exact h2 hxn Z z pl _ w (r2.skip (ht.resolve_right hxb)) bb
theorem AG_pass {o : Oper} {rest : List (Oper × G)} {s : St} {g : Option Nat × Bool} (hg : g.1 = none ∨ ∃ t vs, g.1 = some t ∧ get s.fr t = .raw (.tuple vs)) (ht : okO nt o.dst = true) (h : AG P base nt w0 rest Q ⟨putO s.fr o.dst (.raw Go.undef), s.h⟩) : AG P base nt w0 ((o, some g) :: rest) Q s := by
  intro Z z pl a w r bb
  obtain ⟨g1, b⟩ := g
  have : wantedG (some (g1, b)) a.tmps = false := by
    rcases hg with rfl | ⟨t, vs, rfl, hx⟩
    · rfl
    · have hr := r.fr t
      rw [hx] at hr
      simp [wantedG, boolAt_tuple (inv_raw hr)]
  simp only [wpG, this, Bool.false_eq_true, if_false]
  exact h Z z pl _ w (r.skip ht) bb

theorem exec_ok {X : Cx} (hX : CxOk P X) (hbase : base ≤ w0.w.heap.size) : ∀ (n : Nat) (k : List Item) (s : St), (exec X nt n k s).holds P base nt w0 Q → kont P base nt w0 Q k .normal s
  | 0, k, s, h => by cases k <;> exact h
  | n + 1, [], s, h => h
  | n + 1, .inBlock id :: k, s, h => by
    simp only [exec] at h
    simp only [kont]
    exact exec_ok hX hbase n k s h
  | n + 1, .inScope :: k, s, h => by
    simp only [exec] at h
    simp only [kont]
    exact exec_ok hX hbase n k s h
  | n + 1, .code c :: k, s, h => by
    cases c with
    | skip => simp only [exec] at h; have := exec_ok hX hbase n k s h; simp only [kont]; exact fun Z z pl a w r b => wp_skip ⟨s, pl, this, r, b⟩
    | label l => simp only [exec] at h; have := exec_ok hX hbase n k s h; simp only [kont]; exact fun Z z pl a w r b => wp_label ⟨s, pl, this, r, b⟩
    | seq x y => simp only [exec] at h; exact kont_seq (exec_ok hX hbase n _ s h)
    | block id c => simp only [exec] at h; exact kont_block (exec_ok hX hbase n _ s h)
    | cond c x y =>
      simp only [exec] at h
      split at h
      · rename_i b hb
        exact kont_cond hb (fun e => exec_ok hX hbase n _ s (h.1 e)) (fun e => exec_ok hX hbase n _ s (h.2 e))
      · exact h.elim
    | exit id =>
      simp only [exec] at h
      simp only [kont]
      split at h
      · rename_i k' hk
        have := kont_exit hk (exec_ok hX hbase n k' s h)
        exact fun Z z pl a w r b => wp_exit ⟨s, pl, this, r, b⟩
      · rename_i hk
        have := kont_exit_none (P := P) (base := base) (nt := nt) (w0 := w0) hk h
        exact fun Z z pl a w r b => wp_exit ⟨s, pl, this, r, b⟩
    | ret =>
      simp only [exec] at h
      simp only [kont]
      exact fun Z z pl a w r b => wp_ret ⟨s, pl, kont_ret h, r, b⟩
    | region id ops dr =>
      simp only [exec] at h
      cases dr
      · have := exec_ok hX hbase n _ s h
        simp only [kont] at this ⊢
        exact fun Z z pl a w r b => wpG_region (this Z z pl a w r b)
      · exact h
    | loop c => exact h
    | rangeFunc f ps a b => exact h
    | scope b => simp only [exec] at h; exact kont_scope (exec_ok hX hbase n _ s h)
    | goto l => exact h
    | refuse w => exact h
  | n + 1, .ops [] :: k, s, h => by
    simp only [exec] at h
    simp only [kont]
    have := exec_ok hX hbase n k s h
    exact fun Z z pl a w r b => ⟨s, pl, this, r, b⟩
  | n + 1, .ops ((o, g) :: r) :: k, s, h => by
    have pr : ∀ s', okO nt o.dst = true ∨ True → (exec X nt n (.ops r :: k) s').holds P base nt w0 Q → AG P base nt w0 r (kont P base nt w0 Q k) s' := fun s' _ hh => by
      have := exec_ok hX hbase n (.ops r :: k) s' hh
      simpa only [kont] using this
    cases g with
    | none =>
      simp only [exec] at h
      simp only [kont]
      split at h
      · rename_i p d hp
        cases ht : okO nt o.dst
        · rw [ht] at h; exact h.elim
        · rw [ht] at h
          exact AG_pure (pstep_ok hX hp h.1) ht (pr _ (.inl ht) h.2)
      · split at h
        · rename_i p h' d hp
          cases ht : okO nt o.dst
          · rw [ht] at h; exact h.elim
          · rw [ht] at h
            exact AG_eff hbase (estep_ok hX hp h.1) ht (pr _ (.inl ht) h.2)
        · simpa only [Tree.holds, kont] using h
    | some g =>
      obtain ⟨g1, b⟩ := g
      cases g1 with
      | none =>
        simp only [exec] at h
        simp only [kont]
        cases ht : okO nt o.dst
        · rw [ht] at h; exact h.elim
        · rw [ht] at h
          exact AG_pass (.inl rfl) ht (pr _ (.inl ht) h)
      | some t =>
        simp only [exec] at h
        simp only [kont]
        split at h
        · rename_i x hx
          simp only [Tree.holds, beqB_iff, beq_iff_eq, beq_eq_false_iff_ne, ne_eq] at h
          have h3 := fun e => exec_ok hX hbase n _ _ (h.1 e)
          simp only [kont] at h3
          refine AG_guard hx ?_ h3 fun e => ?_
          · by_cases hxb : x = b
            · exact .inr hxb
            · have := h.2 hxb
              cases ht : okO nt o.dst
              · rw [ht] at this; exact this.elim
              · exact .inl rfl
          · have := h.2 (by rw [e]; cases b <;> simp)
            cases ht : okO nt o.dst
            · rw [ht] at this; exact this.elim
            · rw [ht] at this; exact pr _ (.inl ht) this
        · rename_i vs hx
          cases ht : okO nt o.dst
          · rw [ht] at h; exact h.elim
          · rw [ht] at h
            exact AG_pass (.inr ⟨t, _, rfl, hx⟩) ht (pr _ (.inl ht) h)
        · exact h.elim
end
end Go.Fg
