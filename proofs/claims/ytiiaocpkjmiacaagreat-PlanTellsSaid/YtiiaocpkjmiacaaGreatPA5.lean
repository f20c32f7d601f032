/- Walks of the functions that the statement reaches. No conditions: contracts and laws. -/
import Derived.Test.YtiiaocpkjmiacaaGreatPB1
import Derived.Test.YtiiaocpkjmiacaaGreatSA
import Derived.Test.YtiiaocpkjmiacaaGreatPB4
namespace Go.Fg.X
open Go.Proofs Go.Fg
set_option maxRecDepth 100000
set_option maxHeartbeats 4000000
set_option linter.unusedSimpArgs false
set_option linter.unusedVariables false
@[go_sem] def dev (e : Ev) : D := .agg e.cells
def cameB (f t : Nat) (e : Ev) : Bool := e.inn && (decide ((f : Int) ≤ e.at_) && decide (e.at_ ≤ (t : Int)))
theorem came1_ok (h : List Ob) (b1 b2 f t : Nat) (e : Ev) (h1 : (h.map Ob.ro)[b1]? = some ⟨.rone, 0, 1, 1, fun _ => [u64 f]⟩) (h2 : (h.map Ob.ro)[b2]? = some ⟨.rone, 0, 1, 1, fun _ => [u64 t]⟩) :
    RFn0 Tryz.prog 54 h [dev e, .ptr b1 0 0 0, .ptr b2 0 0 0] (fun d => d = dbool (cameB f t e)) := by
  refine RFn0_hx cx_ok 200 Tryz.func54 rfl Tryz.ntmps54 Tryz.results54 rfl fun base w pl F hF hFl hb => ?_
  rw [← hF] at h1 h2
  have h1_l := hlt h1
  have h2_l := hlt h2
  simp only [go_sem, Nat.reduceAdd, Nat.reduceSub, Nat.reduceMul, Nat.reduceBEq, Nat.reduceLT, Nat.reduceLeDiff, Nat.reduceEqDiff, Int.reduceToNat, Int.reduceLE, Int.reduceLT, Int.reduceAdd, Int.reduceSub, Int.reduceNeg, Int.reduceBEq, Int.reduceBNe, Nat.reduceBNe, Nat.reduceDiv, Nat.reduceMod, hgetA, hgetL, hgetLk, hsetA, hsetL, hsetLk, List.length_append, List.length_set, List.append_assoc, List.set_set, h1, h1_l, h2, h2_l]
  repeat' (first | ((first | refine hite_dec (fun h => ?_) (fun h => ?_) | refine hite_beq (fun h => ?_) (fun h => ?_) | refine hite_bne (fun h => ?_) (fun h => ?_) | refine hite_intro (fun h => ?_) (fun h => ?_) | refine hite_decA (fun h => ?_) (fun h => ?_) | refine hite_beqA (fun h => ?_) (fun h => ?_) | refine hite_bneA (fun h => ?_) (fun h => ?_) | refine hite_intro' (fun h => ?_) (fun h => ?_)) <;> (try simp only [go_sem, Nat.reduceAdd, Nat.reduceSub, Nat.reduceMul, Nat.reduceBEq, Nat.reduceLT, Nat.reduceLeDiff, Nat.reduceEqDiff, Int.reduceToNat, Int.reduceLE, Int.reduceLT, Int.reduceAdd, Int.reduceSub, Int.reduceNeg, Int.reduceBEq, Int.reduceBNe, Nat.reduceBNe, Nat.reduceDiv, Nat.reduceMod, Go.undef, hgetA, hgetL, hgetLk, hsetA, hsetL, hsetLk, List.length_append, List.length_set, List.append_assoc, List.set_set, h1, h2, h1_l, h2_l])) | (refine And.intro (by first | assumption | omega) ?_; try simp only [go_sem, Nat.reduceAdd, Nat.reduceSub, Nat.reduceMul, Nat.reduceBEq, Nat.reduceLT, Nat.reduceLeDiff, Nat.reduceEqDiff, Int.reduceToNat, Int.reduceLE, Int.reduceLT, Int.reduceAdd, Int.reduceSub, Int.reduceNeg, Int.reduceBEq, Int.reduceBNe, Nat.reduceBNe, Nat.reduceDiv, Nat.reduceMod, Go.undef, hgetA, hgetL, hgetLk, hsetA, hsetL, hsetLk, List.length_append, List.length_set, List.append_assoc, List.set_set, h1, h2, h1_l, h2_l]) | fail)
  all_goals (refine ⟨_, rfl, ?_⟩; congr 2; first | (simp [cameB, *]; done) | (simp only [cameB, *]; simp; done))
/-- What a function value tells of an event, whatever is lent to it. -/
def TellsE (F : List Ob) (f nf : Nat) (caps : List D) (g : Ev → Bool) : Prop := ∀ (h : List Ob) (e : Ev), ExtF F h → RFn0 Tryz.prog f h (argsD nf caps [dev e]) (fun d => d = dbool (g e))
def byF (cl : List Int) (g : Ev → Bool) (s : Nat) (e : Ev) : Nat := if (g e && cl.contains e.cls) = true then (s + e.len.toNat) % 18446744073709551616 else s
def byS (l : List Ev) (cl : List Int) (g : Ev → Bool) : Nat := l.foldl (byF cl g) 0
theorem byF_lt {cl : List Int} {g : Ev → Bool} : ∀ {l : List Ev} {s : Nat}, s < 18446744073709551616 → l.foldl (byF cl g) s < 18446744073709551616
  | [], s, h => h
  | e :: l, s, h => byF_lt (l := l) (by unfold byF; split <;> omega)
theorem foldl_succ {α β : Type} [Inhabited α] (f : β → α → β) (b : β) (l : List α) (i : Nat) (h : i < l.length) : (l.take (i + 1)).foldl f b = f ((l.take i).foldl f b) (l.getD i default) := by
  rw [List.take_add_one, List.getElem?_eq_getElem h, Option.toList_some, List.foldl_append, List.getD_eq_getElem?_getD, List.getElem?_eq_getElem h]
  rfl
theorem getD_memA {α : Type} [Inhabited α] {l : List α} {i : Nat} (h : i < l.length) : l.getD i default ∈ l := by
  rw [List.getD_eq_getElem?_getD, List.getElem?_eq_getElem h]; exact List.getElem_mem h
structure ByI (l : List Ev) (cl : List Int) (so : D) (g : Ev → Bool) (F : List Ob) (i : Nat) (s : St) : Prop where
  ex : ∃ H, ExtF F H ∧ s = ⟨[(0, evs l), (1, ints cl), (2, so), (7, u64 ((l.take i).foldl (byF cl g) 0)), (10, evs l), (11, dint l.length), (12, dint i)], H⟩
theorem bytes_ok (h : List Ob) (l : List Ev) (cl : List Int) (hl : l.length < 2147483648) (hc : cl.length < 2147483648) (ho : ∀ e ∈ l, e.Ok) (so : D) (f nf : Nat) (caps : List D) (hf : FnOk Tryz.prog f) (hso : calleeD so = some (f, nf, caps)) (g : Ev → Bool)
    (hg : TellsE (h.map Ob.ro) f nf caps g) : RFn0 Tryz.prog 53 h [evs l, ints cl, so] (fun d => d = u64 (byS l cl g)) := by
  refine RFn0_hx cx_ok 200 Tryz.func53 rfl Tryz.ntmps53 Tryz.results53 rfl fun base w pl F hF hFl hb => ?_
  simp only [go_sem, Nat.reduceAdd, Nat.reduceSub, Nat.reduceMul, Nat.reduceBEq, Nat.reduceLT, Nat.reduceLeDiff, Nat.reduceEqDiff, Int.reduceToNat, Int.reduceLE, Int.reduceLT, Int.reduceAdd, Int.reduceSub, Int.reduceNeg, Int.reduceBEq, Int.reduceBNe, Nat.reduceBNe, Nat.reduceDiv, Nat.reduceMod, hgetA, hgetL, hgetLk, hsetA, hsetL, hsetLk, List.length_append, List.length_set, List.append_assoc, List.set_set]
  refine kont_for (ByI l cl so g F) l.length (s0 := ⟨[(0, evs l), (1, ints cl), (2, so), (7, u64 0), (10, evs l), (11, dint l.length), (12, dint 0)], F⟩) (Weak.frame (by simp only [go_sem, Nat.reduceAdd, Nat.reduceSub, Nat.reduceMul, Nat.reduceBEq, Nat.reduceLT, Nat.reduceLeDiff, Nat.reduceEqDiff, Int.reduceToNat, Int.reduceLE, Int.reduceLT, Int.reduceAdd, Int.reduceSub, Int.reduceNeg, Int.reduceBEq, Int.reduceBNe, Nat.reduceBNe, Nat.reduceDiv, Nat.reduceMod])) ⟨F, ExtF.refl F, rfl⟩ ?_
  rintro i s hi ⟨H, hx, rfl⟩
  have hwr := wrap_succ (show i < 4611686018427387904 by omega)
  obtain ⟨S, hS⟩ : ∃ S, S = (l.take i).foldl (byF cl g) 0 := ⟨_, rfl⟩
  have hSl : S < 18446744073709551616 := by rw [hS]; exact byF_lt (by decide)
  rw [← hS]
  refine kont_of_hx cx_ok hb 200 ?_
  simp only [go_sem, Nat.reduceAdd, Nat.reduceSub, Nat.reduceMul, Nat.reduceBEq, Nat.reduceLT, Nat.reduceLeDiff, Nat.reduceEqDiff, Int.reduceToNat, Int.reduceLE, Int.reduceLT, Int.reduceAdd, Int.reduceSub, Int.reduceNeg, Int.reduceBEq, Int.reduceBNe, Nat.reduceBNe, Nat.reduceDiv, Nat.reduceMod, hgetA, hgetL, hgetLk, hsetA, hsetL, hsetLk, List.length_append, List.length_set, List.append_assoc, List.set_set]
  first | refine hite_lt hi (fun hk1 => ?_) (fun hk1 => ?_) | refine hite_ltI hi (fun hk1 => ?_) (fun hk1 => ?_)
  · obtain ⟨e, he⟩ : ∃ e, e = l.getD i default := ⟨_, rfl⟩
    have heo : e.Ok := ho e (by rw [he]; exact getD_memA hk1)
    have hlen := wf_i64 heo.2.2.2.2.2.1
    have hst := foldl_succ (byF cl g) 0 l i hk1
    rw [← hS, ← he] at hst
    simp only [go_sem, Nat.reduceAdd, Nat.reduceSub, Nat.reduceMul, Nat.reduceBEq, Nat.reduceLT, Nat.reduceLeDiff, Nat.reduceEqDiff, Int.reduceToNat, Int.reduceLE, Int.reduceLT, Int.reduceAdd, Int.reduceSub, Int.reduceNeg, Int.reduceBEq, Int.reduceBNe, Nat.reduceBNe, Nat.reduceDiv, Nat.reduceMod, hgetA, hgetL, hgetLk, hsetA, hsetL, hsetLk, List.length_append, List.length_set, List.append_assoc, List.set_set, hk1, ← he]
    refine kont_callR0 hb hf hso ?_ (hg _ e (by rw [← hF]; exact hx.app _)) rfl fun d2 hR => ?_
    · simp only [go_sem, Nat.reduceAdd, Nat.reduceSub, Nat.reduceMul, Nat.reduceBEq, Nat.reduceLT, Nat.reduceLeDiff, Nat.reduceEqDiff, Int.reduceToNat, Int.reduceLE, Int.reduceLT, Int.reduceAdd, Int.reduceSub, Int.reduceNeg, Int.reduceBEq, Int.reduceBNe, Nat.reduceBNe, Nat.reduceDiv, Nat.reduceMod]
      exact argsEq_refl _
    subst hR
    refine kont_of_hx cx_ok hb 200 ?_
    simp only [go_sem, Nat.reduceAdd, Nat.reduceSub, Nat.reduceMul, Nat.reduceBEq, Nat.reduceLT, Nat.reduceLeDiff, Nat.reduceEqDiff, Int.reduceToNat, Int.reduceLE, Int.reduceLT, Int.reduceAdd, Int.reduceSub, Int.reduceNeg, Int.reduceBEq, Int.reduceBNe, Nat.reduceBNe, Nat.reduceDiv, Nat.reduceMod, hgetA, hgetL, hgetLk, hsetA, hsetL, hsetLk, List.length_append, List.length_set, List.append_assoc, List.set_set]
    cases hge : g e
    · have hst2 : byF cl g S e = S := by rw [byF, hge, if_neg (by simp)]
      simp only [go_sem, Nat.reduceAdd, Nat.reduceSub, Nat.reduceMul, Nat.reduceBEq, Nat.reduceLT, Nat.reduceLeDiff, Nat.reduceEqDiff, Int.reduceToNat, Int.reduceLE, Int.reduceLT, Int.reduceAdd, Int.reduceSub, Int.reduceNeg, Int.reduceBEq, Int.reduceBNe, Nat.reduceBNe, Nat.reduceDiv, Nat.reduceMod, hgetA, hgetL, hgetLk, hsetA, hsetL, hsetLk, List.length_append, List.length_set, List.append_assoc, List.set_set, Go.undef]
      refine ⟨hk1, _, Weak.frame (fr' := [(0, evs l), (1, ints cl), (2, so), (7, u64 (byF cl g S e)), (10, evs l), (11, dint l.length), (12, dint (i + 1 : Nat))]) (by simp only [go_sem, Nat.reduceAdd, Nat.reduceSub, Nat.reduceMul, Nat.reduceBEq, Nat.reduceLT, Nat.reduceLeDiff, Nat.reduceEqDiff, Int.reduceToNat, Int.reduceLE, Int.reduceLT, Int.reduceAdd, Int.reduceSub, Int.reduceNeg, Int.reduceBEq, Int.reduceBNe, Nat.reduceBNe, Nat.reduceDiv, Nat.reduceMod, hwr, hst2]), ⟨_, ?_, by rw [hst]⟩⟩
      exact hx.app _
    · simp only [go_sem, Nat.reduceAdd, Nat.reduceSub, Nat.reduceMul, Nat.reduceBEq, Nat.reduceLT, Nat.reduceLeDiff, Nat.reduceEqDiff, Int.reduceToNat, Int.reduceLE, Int.reduceLT, Int.reduceAdd, Int.reduceSub, Int.reduceNeg, Int.reduceBEq, Int.reduceBNe, Nat.reduceBNe, Nat.reduceDiv, Nat.reduceMod, hgetA, hgetL, hgetLk, hsetA, hsetL, hsetLk, List.length_append, List.length_set, List.append_assoc, List.set_set, Go.undef]
      refine kont_call hb fn91 rfl ?_ (SP.contains_ok cl e.cls hc) (Ret.flat rfl) rfl fun d h hR => ?_
      · simp only [go_sem, Nat.reduceAdd, Nat.reduceSub, Nat.reduceMul, Nat.reduceBEq, Nat.reduceLT, Nat.reduceLeDiff, Nat.reduceEqDiff, Int.reduceToNat, Int.reduceLE, Int.reduceLT, Int.reduceAdd, Int.reduceSub, Int.reduceNeg, Int.reduceBEq, Int.reduceBNe, Nat.reduceBNe, Nat.reduceDiv, Nat.reduceMod, hgetA, hgetL, hgetLk, hsetA, hsetL, hsetLk, List.length_append, List.length_set, List.append_assoc, List.set_set]
      obtain ⟨rfl, rfl⟩ := hR
      refine kont_of_hx cx_ok hb 200 ?_
      simp only [go_sem, Nat.reduceAdd, Nat.reduceSub, Nat.reduceMul, Nat.reduceBEq, Nat.reduceLT, Nat.reduceLeDiff, Nat.reduceEqDiff, Int.reduceToNat, Int.reduceLE, Int.reduceLT, Int.reduceAdd, Int.reduceSub, Int.reduceNeg, Int.reduceBEq, Int.reduceBNe, Nat.reduceBNe, Nat.reduceDiv, Nat.reduceMod, hgetA, hgetL, hgetLk, hsetA, hsetL, hsetLk, List.length_append, List.length_set, List.append_assoc, List.set_set]
      cases hce : cl.contains e.cls
      · have hst2 : byF cl g S e = S := by rw [byF, hge, hce, if_neg (by simp)]
        simp only [go_sem, Nat.reduceAdd, Nat.reduceSub, Nat.reduceMul, Nat.reduceBEq, Nat.reduceLT, Nat.reduceLeDiff, Nat.reduceEqDiff, Int.reduceToNat, Int.reduceLE, Int.reduceLT, Int.reduceAdd, Int.reduceSub, Int.reduceNeg, Int.reduceBEq, Int.reduceBNe, Nat.reduceBNe, Nat.reduceDiv, Nat.reduceMod, hgetA, hgetL, hgetLk, hsetA, hsetL, hsetLk, List.length_append, List.length_set, List.append_assoc, List.set_set, Go.undef]
        refine ⟨hk1, _, Weak.frame (fr' := [(0, evs l), (1, ints cl), (2, so), (7, u64 (byF cl g S e)), (10, evs l), (11, dint l.length), (12, dint (i + 1 : Nat))]) (by simp only [go_sem, Nat.reduceAdd, Nat.reduceSub, Nat.reduceMul, Nat.reduceBEq, Nat.reduceLT, Nat.reduceLeDiff, Nat.reduceEqDiff, Int.reduceToNat, Int.reduceLE, Int.reduceLT, Int.reduceAdd, Int.reduceSub, Int.reduceNeg, Int.reduceBEq, Int.reduceBNe, Nat.reduceBNe, Nat.reduceDiv, Nat.reduceMod, hwr, hst2]), ⟨_, ?_, by rw [hst]⟩⟩
        exact hx.app _
      · have hst2 : byF cl g S e = (S + e.len.toNat) % 18446744073709551616 := by rw [byF, hge, hce, if_pos (by simp)]
        have hmx : IntKind.u64.wrap (max e.len 0) = ((e.len.toNat : Nat) : Int) := by rw [IntKind.wrap_u64]; omega
        have hwa := wu_add S e.len.toNat
        simp only [go_sem, Nat.reduceAdd, Nat.reduceSub, Nat.reduceMul, Nat.reduceBEq, Nat.reduceLT, Nat.reduceLeDiff, Nat.reduceEqDiff, Int.reduceToNat, Int.reduceLE, Int.reduceLT, Int.reduceAdd, Int.reduceSub, Int.reduceNeg, Int.reduceBEq, Int.reduceBNe, Nat.reduceBNe, Nat.reduceDiv, Nat.reduceMod, hgetA, hgetL, hgetLk, hsetA, hsetL, hsetLk, List.length_append, List.length_set, List.append_assoc, List.set_set, Go.undef, hmx, hwa]
        refine ⟨hk1, _, Weak.frame (fr' := [(0, evs l), (1, ints cl), (2, so), (7, u64 (byF cl g S e)), (10, evs l), (11, dint l.length), (12, dint (i + 1 : Nat))]) (by simp only [go_sem, Nat.reduceAdd, Nat.reduceSub, Nat.reduceMul, Nat.reduceBEq, Nat.reduceLT, Nat.reduceLeDiff, Nat.reduceEqDiff, Int.reduceToNat, Int.reduceLE, Int.reduceLT, Int.reduceAdd, Int.reduceSub, Int.reduceNeg, Int.reduceBEq, Int.reduceBNe, Nat.reduceBNe, Nat.reduceDiv, Nat.reduceMod, hwr, hst2]), ⟨_, ?_, by rw [hst]⟩⟩
        exact hx.app _
  · subst hk1
    rw [List.take_length] at hS
    have e : byS l cl g = S := hS.symm
    rw [e]
    refine kont_of_hx cx_ok hb 200 ?_
    simp only [go_sem, Nat.reduceAdd, Nat.reduceSub, Nat.reduceMul, Nat.reduceBEq, Nat.reduceLT, Nat.reduceLeDiff, Nat.reduceEqDiff, Int.reduceToNat, Int.reduceLE, Int.reduceLT, Int.reduceAdd, Int.reduceSub, Int.reduceNeg, Int.reduceBEq, Int.reduceBNe, Nat.reduceBNe, Nat.reduceDiv, Nat.reduceMod, hgetA, hgetL, hgetLk, hsetA, hsetL, hsetLk, List.length_append, List.length_set, List.append_assoc, List.set_set]
    exact hx
def camV (l : List Ev) (cl : List Int) (f t : Nat) : Nat := byS l cl (cameB f t)
theorem camV_lt (l : List Ev) (cl : List Int) (f t : Nat) : camV l cl f t < 18446744073709551616 := byF_lt (by decide)
theorem tcame_ok (l : List Ev) (cl : List Int) (f t : Nat) (hl : l.length < 2147483648) (hc : cl.length < 2147483648) (ho : ∀ e ∈ l, e.Ok) : AFn Tryz.prog 24 [evs l, ints cl, u64 f, u64 t] (Ret (u64 (camV l cl f t))) := by
  refine AFn_hxk 0 cx_ok 200 Tryz.func24 rfl Tryz.ntmps24 Tryz.results24 rfl fun base w hb => ?_
  simp only [go_sem, Nat.reduceAdd, Nat.reduceSub, Nat.reduceMul, Nat.reduceBEq, Nat.reduceLT, Nat.reduceLeDiff, Nat.reduceEqDiff, Int.reduceToNat, Int.reduceLE, Int.reduceLT, Int.reduceAdd, Int.reduceSub, Int.reduceNeg, Int.reduceBEq, Int.reduceBNe, Nat.reduceBNe, Nat.reduceDiv, Nat.reduceMod]
  have hT : TellsE (([⟨.one, 0, 1, 1, fun _ => [u64 f]⟩, ⟨.one, 0, 1, 1, fun _ => [u64 t]⟩] : List Ob).map Ob.ro) 54 0 [.ptr 0 0 0 0, .ptr 1 0 0 0] (cameB f t) := fun h' e hx => by
    obtain ⟨g, rfl⟩ := hx
    exact came1_ok _ 0 1 f t e rfl rfl
  refine kont_callR0 hb fn53 rfl ?_ (bytes_ok _ l cl hl hc ho (.clo 54 0 [.ptr 0 0 0 0, .ptr 1 0 0 0]) 54 0 [.ptr 0 0 0 0, .ptr 1 0 0 0] fn54 rfl (cameB f t) hT) rfl fun d2 hR => ?_
  · simp only [go_sem, Nat.reduceAdd, Nat.reduceSub, Nat.reduceMul, Nat.reduceBEq, Nat.reduceLT, Nat.reduceLeDiff, Nat.reduceEqDiff, Int.reduceToNat, Int.reduceLE, Int.reduceLT, Int.reduceAdd, Int.reduceSub, Int.reduceNeg, Int.reduceBEq, Int.reduceBNe, Nat.reduceBNe, Nat.reduceDiv, Nat.reduceMod]
  subst hR
  refine kont_of_hx cx_ok hb 200 ?_
  simp only [go_sem, Nat.reduceAdd, Nat.reduceSub, Nat.reduceMul, Nat.reduceBEq, Nat.reduceLT, Nat.reduceLeDiff, Nat.reduceEqDiff, Int.reduceToNat, Int.reduceLE, Int.reduceLT, Int.reduceAdd, Int.reduceSub, Int.reduceNeg, Int.reduceBEq, Int.reduceBNe, Nat.reduceBNe, Nat.reduceDiv, Nat.reduceMod]
  rfl
/-- The reference's. -/
def rcF (leaf : Int) (from_ to : Nat) (l : List Ev) : Nat → Nat
  | 0 => 0
  | i + 1 => if (decide (from_ ≤ i) && (decide (i ≤ to) && ((l.getD i default).inn && (((l.getD i default).cls == leaf) && decide (0 < (l.getD i default).len))))) = true then (rcF leaf from_ to l i + (l.getD i default).len.toNat) % 18446744073709551616 else rcF leaf from_ to l i
theorem rcF_lt (leaf : Int) (from_ to : Nat) (l : List Ev) : ∀ i, rcF leaf from_ to l i < 18446744073709551616
  | 0 => by simp [rcF]
  | i + 1 => by
    have := rcF_lt leaf from_ to l i
    rw [rcF]; split <;> omega
theorem rcame38_ok (l : List Ev) (leaf : Int) (fr to : Nat) (hl : l.length < 2147483648) (ho : ∀ e ∈ l, e.Ok) : AFn Tryz.prog 30 [evs l, dint leaf, dint fr, dint to] (Ret (u64 (rcF leaf fr to l l.length))) := by
  refine AFn_hxk 0 cx_ok 200 Tryz.func30 rfl Tryz.ntmps30 Tryz.results30 rfl fun base w hb => ?_
  simp only [go_sem, Nat.reduceAdd, Nat.reduceSub, Nat.reduceMul, Nat.reduceBEq, Nat.reduceLT, Nat.reduceLeDiff, Nat.reduceEqDiff, Int.reduceToNat, Int.reduceLE, Int.reduceLT, Int.reduceAdd, Int.reduceSub, Int.reduceNeg, Int.reduceBEq, Int.reduceBNe, Nat.reduceBNe, Nat.reduceDiv, Nat.reduceMod]
  refine kont_for (fun i s => s = ⟨[(0, evs l), (1, dint leaf), (2, dint fr), (3, dint to), (9, u64 (rcF leaf fr to l i)), (12, evs l), (13, dint l.length), (14, dint i)], []⟩) l.length (Weak.frame (by simp only [go_sem, Nat.reduceAdd, Nat.reduceSub, Nat.reduceMul, Nat.reduceBEq, Nat.reduceLT, Nat.reduceLeDiff, Nat.reduceEqDiff, Int.reduceToNat, Int.reduceLE, Int.reduceLT, Int.reduceAdd, Int.reduceSub, Int.reduceNeg, Int.reduceBEq, Int.reduceBNe, Nat.reduceBNe, Nat.reduceDiv, Nat.reduceMod, rcF])) rfl ?_
  rintro i s hi rfl
  have hwr := wrap_succ (show i < 4611686018427387904 by omega)
  obtain ⟨S, hS⟩ : ∃ S, S = rcF leaf fr to l i := ⟨_, rfl⟩
  have hSl : S < 18446744073709551616 := by rw [hS]; exact rcF_lt _ _ _ _ _
  rw [← hS]
  refine kont_of_hx cx_ok hb 200 ?_
  simp only [go_sem, Nat.reduceAdd, Nat.reduceSub, Nat.reduceMul, Nat.reduceBEq, Nat.reduceLT, Nat.reduceLeDiff, Nat.reduceEqDiff, Int.reduceToNat, Int.reduceLE, Int.reduceLT, Int.reduceAdd, Int.reduceSub, Int.reduceNeg, Int.reduceBEq, Int.reduceBNe, Nat.reduceBNe, Nat.reduceDiv, Nat.reduceMod]
  first | refine hite_lt hi (fun hk1 => ?_) (fun hk1 => ?_) | refine hite_ltI hi (fun hk1 => ?_) (fun hk1 => ?_)
  · obtain ⟨e, he⟩ : ∃ e, e = l.getD i default := ⟨_, rfl⟩
    have heo : e.Ok := ho e (by rw [he]; exact getD_memA hk1)
    have hlen := wf_i64 heo.2.2.2.2.2.1
    have hst : rcF leaf fr to l (i + 1) = if (decide (fr ≤ i) && (decide (i ≤ to) && (e.inn && ((e.cls == leaf) && decide (0 < e.len))))) = true then (S + e.len.toNat) % 18446744073709551616 else S := by rw [rcF, ← he, ← hS]
    have hmx : 0 < e.len → IntKind.u64.wrap e.len = ((e.len.toNat : Nat) : Int) := fun h => by rw [IntKind.wrap_u64]; omega
    have hwa := wu_add S e.len.toNat
    simp only [go_sem, Nat.reduceAdd, Nat.reduceSub, Nat.reduceMul, Nat.reduceBEq, Nat.reduceLT, Nat.reduceLeDiff, Nat.reduceEqDiff, Int.reduceToNat, Int.reduceLE, Int.reduceLT, Int.reduceAdd, Int.reduceSub, Int.reduceNeg, Int.reduceBEq, Int.reduceBNe, Nat.reduceBNe, Nat.reduceDiv, Nat.reduceMod, hk1, ← he]
    repeat' (first | ((first | refine hite_dec (fun h => ?_) (fun h => ?_) | refine hite_beq (fun h => ?_) (fun h => ?_) | refine hite_bne (fun h => ?_) (fun h => ?_) | refine hite_intro (fun h => ?_) (fun h => ?_) | refine hite_decA (fun h => ?_) (fun h => ?_) | refine hite_beqA (fun h => ?_) (fun h => ?_) | refine hite_bneA (fun h => ?_) (fun h => ?_) | refine hite_intro' (fun h => ?_) (fun h => ?_)) <;> (try simp only [go_sem, Nat.reduceAdd, Nat.reduceSub, Nat.reduceMul, Nat.reduceBEq, Nat.reduceLT, Nat.reduceLeDiff, Nat.reduceEqDiff, Int.reduceToNat, Int.reduceLE, Int.reduceLT, Int.reduceAdd, Int.reduceSub, Int.reduceNeg, Int.reduceBEq, Int.reduceBNe, Nat.reduceBNe, Nat.reduceDiv, Nat.reduceMod, Go.undef, hk1])) | (refine And.intro (by first | assumption | omega) ?_; try simp only [go_sem, Nat.reduceAdd, Nat.reduceSub, Nat.reduceMul, Nat.reduceBEq, Nat.reduceLT, Nat.reduceLeDiff, Nat.reduceEqDiff, Int.reduceToNat, Int.reduceLE, Int.reduceLT, Int.reduceAdd, Int.reduceSub, Int.reduceNeg, Int.reduceBEq, Int.reduceBNe, Nat.reduceBNe, Nat.reduceDiv, Nat.reduceMod, Go.undef, hk1]) | fail)
    all_goals first
      | (have h3 : rcF leaf fr to l (i + 1) = S := by (rw [hst]; apply if_neg; simp only [Bool.and_eq_true, decide_eq_true_eq, beq_iff_eq]; rintro ⟨a1, a2, a3, a4, a5⟩; first | contradiction | omega | (simp [a3] at *; done))
         exact ⟨_, Weak.to 0 (fr' := [(0, evs l), (1, dint leaf), (2, dint fr), (3, dint to), (9, u64 S), (12, evs l), (13, dint l.length), (14, dint (i + 1 : Nat))]) (h' := []) (by (simp only [go_sem, Nat.reduceAdd, Nat.reduceSub, Nat.reduceMul, Nat.reduceBEq, Nat.reduceLT, Nat.reduceLeDiff, Nat.reduceEqDiff, Int.reduceToNat, Int.reduceLE, Int.reduceLT, Int.reduceAdd, Int.reduceSub, Int.reduceNeg, Int.reduceBEq, Int.reduceBNe, Nat.reduceBNe, Nat.reduceDiv, Nat.reduceMod, hwr]) <;> simp), by rw [h3]; rfl⟩)
      | (have h3 : rcF leaf fr to l (i + 1) = (S + e.len.toNat) % 18446744073709551616 := by (rw [hst]; apply if_pos; simp only [Bool.and_eq_true, decide_eq_true_eq, beq_iff_eq]; refine ⟨?_, ?_, ?_, ?_, ?_⟩ <;> assumption)
         have hmx := hmx (by assumption)
         exact ⟨_, Weak.to 0 (fr' := [(0, evs l), (1, dint leaf), (2, dint fr), (3, dint to), (9, u64 ((S + e.len.toNat) % 18446744073709551616)), (12, evs l), (13, dint l.length), (14, dint (i + 1 : Nat))]) (h' := []) (by (simp only [go_sem, Nat.reduceAdd, Nat.reduceSub, Nat.reduceMul, Nat.reduceBEq, Nat.reduceLT, Nat.reduceLeDiff, Nat.reduceEqDiff, Int.reduceToNat, Int.reduceLE, Int.reduceLT, Int.reduceAdd, Int.reduceSub, Int.reduceNeg, Int.reduceBEq, Int.reduceBNe, Nat.reduceBNe, Nat.reduceDiv, Nat.reduceMod, hwr, hmx, hwa]) <;> simp), by rw [h3]; rfl⟩)
  · subst hk1
    rw [← hS]
    refine kont_of_hx cx_ok hb 200 ?_
    simp only [go_sem, Nat.reduceAdd, Nat.reduceSub, Nat.reduceMul, Nat.reduceBEq, Nat.reduceLT, Nat.reduceLeDiff, Nat.reduceEqDiff, Int.reduceToNat, Int.reduceLE, Int.reduceLT, Int.reduceAdd, Int.reduceSub, Int.reduceNeg, Int.reduceBEq, Int.reduceBNe, Nat.reduceBNe, Nat.reduceDiv, Nat.reduceMod]
end Go.Fg.X
namespace Go.Fg.X.SP
open Go.Proofs Go.Fg
set_option maxRecDepth 100000
set_option linter.unusedSimpArgs false
set_option linter.unusedVariables false
def fromAt (L : List Sp) (k : Nat) : List Int := (L.take k).map Sp.frm
@[go_sem] def u64c (n : Int) : List D := [.raw (.int .u64 n)]
@[go_sem] def i64c (n : Int) : List D := [.raw (.int .i64 n)]
theorem fromAt_succ (L : List Sp) (k : Nat) (h : k < L.length) : fromAt L (k + 1) = fromAt L k ++ [(L.getD k default).frm] := by
  simp only [fromAt]; rw [getD_take L default k h]; simp
def lens (lv : List Int) (l : List Ev) (k : Nat) : List Int := (List.range (k + 1)).map fun j => (lenAt lv l j : Int)
theorem lens_len (lv : List Int) (l : List Ev) (k : Nat) : (lens lv l k).length = k + 1 := by simp [lens]
theorem lens_succ (lv : List Int) (l : List Ev) (k : Nat) : lens lv l (k + 1) = lens lv l k ++ [(lenAt lv l (k + 1) : Int)] := by simp [lens, List.range_succ]
theorem lens_get (lv : List Int) (l : List Ev) (k i : Nat) (h : i < k + 1) : (lens lv l k).getD i default = (lenAt lv l i : Int) := by simp [lens, List.getD_eq_getElem?_getD, h]
theorem lengths_ok (l : List Ev) (lv : List Int) (hl : l.length < 2147483648) (hv : lv.length < 2147483648) : AFn Tryz.prog 61 [evs l, ints lv] (RetL 1 i64c (lens lv l l.length)) := by
  refine AFn_hxk 1 cx_ok 200 Tryz.func61 rfl Tryz.ntmps61 Tryz.results61 rfl fun base w hb => ?_
  simp only [go_sem, Nat.reduceAdd, Nat.reduceSub, Nat.reduceMul, Nat.reduceBEq, Nat.reduceLT, Nat.reduceLeDiff, Nat.reduceEqDiff, Int.reduceToNat, Int.reduceLE, Int.reduceLT, Int.reduceAdd, Int.reduceSub, Int.reduceNeg, Int.reduceBEq, Int.reduceBNe, Nat.reduceBNe, Nat.reduceDiv, Nat.reduceMod]
  refine kont_for (fun k s => ∃ g, s = ⟨[(1, ints lv), (5, .ref 0 g 0 (k + 1)), (10, evs l), (11, dint l.length), (12, dint k)], [⟨.arr, g, 1, k + 1, fun i => i64c ((lens lv l k).getD i default)⟩]⟩) l.length
    (s0 := ⟨[(1, ints lv), (5, .ref 0 0 0 1), (10, evs l), (11, dint l.length), (12, dint 0)], [⟨.arr, 0, 1, 0 + 1, fun i => i64c ((lens lv l 0).getD i default)⟩]⟩)
    (Weak.to 1 (by simp only [go_sem, Nat.reduceAdd, Nat.reduceSub, Nat.reduceMul, Nat.reduceBEq, Nat.reduceLT, Nat.reduceLeDiff, Nat.reduceEqDiff, Int.reduceToNat, Int.reduceLE, Int.reduceLT, Int.reduceAdd, Int.reduceSub, Int.reduceNeg, Int.reduceBEq, Int.reduceBNe, Nat.reduceBNe, Nat.reduceDiv, Nat.reduceMod]; simp [lens, lenAt])) ⟨0, rfl⟩ ?_
  rintro k s hk ⟨g, rfl⟩
  have hle := lenAt_le lv l k
  have hwr := wrap_succ (show k < 4611686018427387904 by omega)
  have hwl := wrap_succ (show lenAt lv l k < 4611686018427387904 by omega)
  have hg := lens_get lv l k k (by omega)
  refine kont_of_hx cx_ok hb 200 ?_
  simp only [go_sem, Nat.reduceAdd, Nat.reduceSub, Nat.reduceMul, Nat.reduceBEq, Nat.reduceLT, Nat.reduceLeDiff, Nat.reduceEqDiff, Int.reduceToNat, Int.reduceLE, Int.reduceLT, Int.reduceAdd, Int.reduceSub, Int.reduceNeg, Int.reduceBEq, Int.reduceBNe, Nat.reduceBNe, Nat.reduceDiv, Nat.reduceMod]
  refine hite_intro (fun h => ?_) (fun h => ?_)
  · have hk1 : k < l.length := by simpa using h
    simp only [go_sem, Nat.reduceAdd, Nat.reduceSub, Nat.reduceMul, Nat.reduceBEq, Nat.reduceLT, Nat.reduceLeDiff, Nat.reduceEqDiff, Int.reduceToNat, Int.reduceLE, Int.reduceLT, Int.reduceAdd, Int.reduceSub, Int.reduceNeg, Int.reduceBEq, Int.reduceBNe, Nat.reduceBNe, Nat.reduceDiv, Nat.reduceMod, hk1]
    have hk2 : k < k + 1 := by omega
    have hsub : lenAt lv l k ≠ 0 → IntKind.i64.wrap ((lenAt lv l k : Int) - 1) = ((lenAt lv l k - 1 : Nat) : Int) := fun _ => by rw [wrap64 (by omega) (by omega)]; omega
    have hs := lens_succ lv l k
    cases hc : lv.contains (l.getD k default).cls <;> cases hi : (l.getD k default).inn <;> by_cases hn : lenAt lv l k = 0
    all_goals
      simp only [go_sem, Nat.reduceAdd, Nat.reduceSub, Nat.reduceMul, Nat.reduceBEq, Nat.reduceLT, Nat.reduceLeDiff, Nat.reduceEqDiff, Int.reduceToNat, Int.reduceLE, Int.reduceLT, Int.reduceAdd, Int.reduceSub, Int.reduceNeg, Int.reduceBEq, Int.reduceBNe, Nat.reduceBNe, Nat.reduceDiv, Nat.reduceMod, hk2, hg]
      refine kont_call hb fn95 rfl ?_ (has_ok lv (l.getD k default).cls hv) (Ret.flat rfl) rfl fun d h hR => ?_
      · simp only [go_sem, Nat.reduceAdd, Nat.reduceSub, Nat.reduceMul, Nat.reduceBEq, Nat.reduceLT, Nat.reduceLeDiff, Nat.reduceEqDiff, Int.reduceToNat, Int.reduceLE, Int.reduceLT, Int.reduceAdd, Int.reduceSub, Int.reduceNeg, Int.reduceBEq, Int.reduceBNe, Nat.reduceBNe, Nat.reduceDiv, Nat.reduceMod]
      obtain ⟨rfl, rfl⟩ := hR
      refine kont_of_hx cx_ok hb 200 ?_
      simp only [go_sem, Nat.reduceAdd, Nat.reduceSub, Nat.reduceMul, Nat.reduceBEq, Nat.reduceLT, Nat.reduceLeDiff, Nat.reduceEqDiff, Int.reduceToNat, Int.reduceLE, Int.reduceLT, Int.reduceAdd, Int.reduceSub, Int.reduceNeg, Int.reduceBEq, Int.reduceBNe, Nat.reduceBNe, Nat.reduceDiv, Nat.reduceMod, hc, hi]
      refine kont_call hb fn95 rfl ?_ (has_ok lv (l.getD k default).cls hv) (Ret.flat rfl) rfl fun d h hR => ?_
      · simp only [go_sem, Nat.reduceAdd, Nat.reduceSub, Nat.reduceMul, Nat.reduceBEq, Nat.reduceLT, Nat.reduceLeDiff, Nat.reduceEqDiff, Int.reduceToNat, Int.reduceLE, Int.reduceLT, Int.reduceAdd, Int.reduceSub, Int.reduceNeg, Int.reduceBEq, Int.reduceBNe, Nat.reduceBNe, Nat.reduceDiv, Nat.reduceMod]
      obtain ⟨rfl, rfl⟩ := hR
      refine kont_of_hx cx_ok hb 200 ?_
      first
        | simp only [go_sem, Nat.reduceAdd, Nat.reduceSub, Nat.reduceMul, Nat.reduceBEq, Nat.reduceLT, Nat.reduceLeDiff, Nat.reduceEqDiff, Int.reduceToNat, Int.reduceLE, Int.reduceLT, Int.reduceAdd, Int.reduceSub, Int.reduceNeg, Int.reduceBEq, Int.reduceBNe, Nat.reduceBNe, Nat.reduceDiv, Nat.reduceMod, hc, hi, dp hn, hwl, hsub hn]
        | simp only [go_sem, Nat.reduceAdd, Nat.reduceSub, Nat.reduceMul, Nat.reduceBEq, Nat.reduceLT, Nat.reduceLeDiff, Nat.reduceEqDiff, Int.reduceToNat, Int.reduceLE, Int.reduceLT, Int.reduceAdd, Int.reduceSub, Int.reduceNeg, Int.reduceBEq, Int.reduceBNe, Nat.reduceBNe, Nat.reduceDiv, Nat.reduceMod, hc, hi, dnp hn, hwl]
      refine ⟨by omega, hk1, _, Weak.to 1 ⟨?_, by simp only [go_sem, Nat.reduceAdd, Nat.reduceSub, Nat.reduceMul, Nat.reduceBEq, Nat.reduceLT, Nat.reduceLeDiff, Nat.reduceEqDiff, Int.reduceToNat, Int.reduceLE, Int.reduceLT, Int.reduceAdd, Int.reduceSub, Int.reduceNeg, Int.reduceBEq, Int.reduceBNe, Nat.reduceBNe, Nat.reduceDiv, Nat.reduceMod], by simp only [go_sem, Nat.reduceAdd, Nat.reduceSub, Nat.reduceMul, Nat.reduceBEq, Nat.reduceLT, Nat.reduceLeDiff, Nat.reduceEqDiff, Int.reduceToNat, Int.reduceLE, Int.reduceLT, Int.reduceAdd, Int.reduceSub, Int.reduceNeg, Int.reduceBEq, Int.reduceBNe, Nat.reduceBNe, Nat.reduceDiv, Nat.reduceMod], ?_⟩, g + 1, rfl⟩
      · simp only [go_sem, Nat.reduceAdd, Nat.reduceSub, Nat.reduceMul, Nat.reduceBEq, Nat.reduceLT, Nat.reduceLeDiff, Nat.reduceEqDiff, Int.reduceToNat, Int.reduceLE, Int.reduceLT, Int.reduceAdd, Int.reduceSub, Int.reduceNeg, Int.reduceBEq, Int.reduceBNe, Nat.reduceBNe, Nat.reduceDiv, Nat.reduceMod, hwr]
      · simp only [go_sem, Nat.reduceAdd, Nat.reduceSub, Nat.reduceMul, Nat.reduceBEq, Nat.reduceLT, Nat.reduceLeDiff, Nat.reduceEqDiff, Int.reduceToNat, Int.reduceLE, Int.reduceLT, Int.reduceAdd, Int.reduceSub, Int.reduceNeg, Int.reduceBEq, Int.reduceBNe, Nat.reduceBNe, Nat.reduceDiv, Nat.reduceMod, hs]
        intro i hi2
        rw [getD_app _ _ _ _ (by rw [lens_len]; exact hi2), lens_len]
        cases decide (i < k + 1)
        · simp only [lenAt, lenN, hc, hi, hn]; first | rfl | simp [hn]
        · rfl
  · have hk1 : k = l.length := by simp at h; omega
    simp only [go_sem, Nat.reduceAdd, Nat.reduceSub, Nat.reduceMul, Nat.reduceBEq, Nat.reduceLT, Nat.reduceLeDiff, Nat.reduceEqDiff, Int.reduceToNat, Int.reduceLE, Int.reduceLT, Int.reduceAdd, Int.reduceSub, Int.reduceNeg, Int.reduceBEq, Int.reduceBNe, Nat.reduceBNe, Nat.reduceDiv, Nat.reduceMod]
    refine kont_of_hx cx_ok hb 200 ?_
    simp only [go_sem, Nat.reduceAdd, Nat.reduceSub, Nat.reduceMul, Nat.reduceBEq, Nat.reduceLT, Nat.reduceLeDiff, Nat.reduceEqDiff, Int.reduceToNat, Int.reduceLE, Int.reduceLT, Int.reduceAdd, Int.reduceSub, Int.reduceNeg, Int.reduceBEq, Int.reduceBNe, Nat.reduceBNe, Nat.reduceDiv, Nat.reduceMod]
    subst hk1
    exact ⟨g, by rw [lens_len], by rw [lens_len]; rfl⟩
end Go.Fg.X.SP
namespace Go.Fg.X.SP
open Go.Proofs Go.Fg
set_option maxRecDepth 100000
set_option linter.unusedSimpArgs false
set_option linter.unusedVariables false
def eIn (t : Int) : Ev := ⟨0, true, false, t, 0, 3, 0, 0, 0, 0, 0, 0⟩
def eOut (t : Int) : Ev := ⟨0, false, false, t, 0, 3, 0, 0, 0, 0, 0, 0⟩
theorem c2 : ((2 : Nat) : Int) = 2 := rfl
def fiveE : List Ev := [eIn 5, eOut 5, eIn 9, eIn 9, eOut 20]
end Go.Fg.X.SP
namespace Go.Fg.X.SP
open Go.Proofs Go.Fg
set_option maxRecDepth 100000
set_option linter.unusedSimpArgs false
set_option linter.unusedVariables false
structure Good (l : List Ev) (out : List Sp) (k n : Nat) : Prop where
  a : ∀ i, i < out.length → ∃ f : Nat, (out.getD i default).fst = f ∧ f < k ∧ (out.getD i default).frm = (l.getD f default).at_ ∧
    ((out.getD i default).opn = false → ∃ t : Nat, (out.getD i default).lst = t ∧ f < t ∧ t < k ∧ (out.getD i default).to = (l.getD t default).at_)
  b : ∀ i, i + 1 < out.length → (out.getD i default).opn = false ∧ (out.getD i default).lst < (out.getD (i + 1) default).fst
  c : 0 < n ↔ 0 < out.length ∧ (out.getD (out.length - 1) default).opn = true
theorem good (lv : List Int) (l : List Ev) : ∀ k, Good l (spAt lv l k) k (lenAt lv l k)
  | 0 => ⟨fun i h => by simp [spAt] at h, fun i h => by simp [spAt] at h, by simp [spAt, lenAt]⟩
  | k + 1 => by
    have G := good lv l k
    have mono : ∀ i, i < (spAt lv l k).length → ∃ f : Nat, ((spAt lv l k).getD i default).fst = f ∧ f < k + 1 ∧ ((spAt lv l k).getD i default).frm = (l.getD f default).at_ ∧
        (((spAt lv l k).getD i default).opn = false → ∃ t : Nat, ((spAt lv l k).getD i default).lst = t ∧ f < t ∧ t < k + 1 ∧ ((spAt lv l k).getD i default).to = (l.getD t default).at_) := fun i hi => by
      obtain ⟨f, h1, h2, h3, h4⟩ := G.a i hi
      exact ⟨f, h1, by omega, h3, fun e => let ⟨t, t1, t2, t3, t4⟩ := h4 e; ⟨t, t1, t2, by omega, t4⟩⟩
    have G := G
    simp only [spAt, lenAt, spStep]
    generalize spAt lv l k = out at *
    generalize lenAt lv l k = n at *
    generalize lenN n (l.getD k default) lv = m at *
    by_cases h1 : n = 0 ∧ 0 < m
    · rw [if_pos h1]
      have hc : ¬ (0 < out.length ∧ (out.getD (out.length - 1) default).opn = true) := fun h => by have := G.c.2 h; omega
      refine ⟨fun i hi => ?_, fun i hi => ?_, ?_⟩
      · by_cases hi2 : i < out.length
        · rw [getD_lt _ _ _ _ hi2]; exact mono i hi2
        · have : i = out.length := by simp at hi; omega
          subst this
          rw [getD_end]
          exact ⟨k, rfl, by omega, rfl, fun e => by cases e⟩
      · simp only [List.length_append, List.length_cons, List.length_nil] at hi
        rw [getD_lt _ _ _ _ (by omega)]
        by_cases hi2 : i + 1 < out.length
        · rw [getD_lt _ _ _ _ hi2]; exact G.b i hi2
        · have e : i + 1 = out.length := by omega
          rw [e, getD_end]
          have hop : (out.getD i default).opn = false := by
            cases ho : (out.getD i default).opn
            · rfl
            · exact absurd ⟨by omega, by rw [show out.length - 1 = i by omega]; exact ho⟩ hc
          obtain ⟨f, h1, h2, h3, h4⟩ := G.a i (by omega)
          obtain ⟨t, t1, t2, t3, t4⟩ := h4 hop
          exact ⟨hop, by rw [t1]; simp; omega⟩
      · simp only [List.length_append, List.length_cons, List.length_nil, Nat.add_sub_cancel, Nat.zero_add]
        rw [getD_end]
        exact ⟨fun _ => ⟨by omega, rfl⟩, fun _ => h1.2⟩
    · rw [if_neg h1]
      by_cases h2 : 0 < n ∧ m = 0
      · rw [if_pos h2]
        obtain ⟨c1, c2⟩ := G.c.1 h2.1
        obtain ⟨f, f1, f2, f3, f4⟩ := G.a (out.length - 1) (by omega)
        refine ⟨fun i hi => ?_, fun i hi => ?_, ?_⟩
        · rw [List.length_set] at hi
          by_cases hi2 : i = out.length - 1
          · subst hi2
            rw [getD_set_eq _ _ _ _ (by omega)]
            exact ⟨f, f1, by omega, f3, fun _ => ⟨k, rfl, f2, by omega, rfl⟩⟩
          · rw [getD_set_ne' _ _ _ _ _ (Ne.symm hi2)]; exact mono i hi
        · rw [List.length_set] at hi
          rw [getD_set_ne' _ _ _ _ _ (show out.length - 1 ≠ i by omega)]
          by_cases hi2 : i + 1 = out.length - 1
          · rw [hi2, getD_set_eq _ _ _ _ (by omega)]
            have := G.b i hi
            rw [hi2] at this
            exact this
          · rw [getD_set_ne' _ _ _ _ _ (Ne.symm hi2)]; exact G.b i hi
        · rw [List.length_set, getD_set_eq _ _ _ _ (by omega)]
          exact ⟨fun h => by omega, fun h => by cases h.2⟩
      · rw [if_neg h2]
        refine ⟨mono, G.b, ?_⟩
        rw [← G.c]; omega
def lastAt (L : List Sp) (k : Nat) : Int := if k = 0 then -1 else (L.getD (k - 1) default).lst
def openAt (L : List Sp) (k : Nat) : Bool := if k = 0 then false else (L.getD (k - 1) default).opn
end Go.Fg.X.SP
namespace Go.Fg.X.SP
open Go.Proofs Go.Fg
set_option maxRecDepth 100000
set_option linter.unusedSimpArgs false
set_option linter.unusedVariables false
theorem kord (n : Nat) (f : Nat → Bool) : (List.range n).map (fun i => (i, f i)) = (List.range n).map (fun i => (i, f i)) := rfl
def isOpenAt (lv : List Int) (l : List Ev) (i : Nat) : Nat → Sp
  | 0 => ⟨(l.getD i default).at_, 0, i, 0, true⟩
  | k + 1 => if i < k ∧ (isOpenAt lv l i k).opn = true ∧ lenAt lv l (k + 1) = 0 then ⟨(l.getD i default).at_, (l.getD k default).at_, i, k, false⟩ else isOpenAt lv l i k
def rfAt (lv : List Int) (l : List Ev) : Nat → List Sp
  | 0 => []
  | i + 1 => if 0 < lenAt lv l i ∨ lenAt lv l (i + 1) = 0 then rfAt lv l i else rfAt lv l i ++ [isOpenAt lv l i l.length]
theorem rfAt_len (lv : List Int) (l : List Ev) : ∀ k, (rfAt lv l k).length ≤ k
  | 0 => Nat.le_refl _
  | k + 1 => by have := rfAt_len lv l k; simp only [rfAt]; split <;> simp <;> omega
theorem rof_ok (l : List Ev) (lv : List Int) (hl : l.length < 2147483648) (hv : lv.length < 2147483648) : AFn Tryz.prog 29 [evs l, ints lv] (RetL 5 Sp.cells (rfAt lv l l.length)) := by
  refine AFn_hxs [1] rfl cx_ok 200 Tryz.func29 rfl Tryz.ntmps29 Tryz.results29 rfl fun base w hb => ?_
  simp only [go_sem, Nat.reduceAdd, Nat.reduceSub, Nat.reduceMul, Nat.reduceBEq, Nat.reduceLT, Nat.reduceLeDiff, Nat.reduceEqDiff, Int.reduceToNat, Int.reduceLE, Int.reduceLT, Int.reduceAdd, Int.reduceSub, Int.reduceNeg, Int.reduceBEq, Int.reduceBNe, Nat.reduceBNe, Nat.reduceDiv, Nat.reduceMod]
  refine kont_call hb fn61 rfl ?_ (lengths_ok l lv hl hv) (RetL.flat fun x => rfl) rfl fun d h hR => ?_
  · simp only [go_sem, Nat.reduceAdd, Nat.reduceSub, Nat.reduceMul, Nat.reduceBEq, Nat.reduceLT, Nat.reduceLeDiff, Nat.reduceEqDiff, Int.reduceToNat, Int.reduceLE, Int.reduceLT, Int.reduceAdd, Int.reduceSub, Int.reduceNeg, Int.reduceBEq, Int.reduceBNe, Nat.reduceBNe, Nat.reduceDiv, Nat.reduceMod]
  obtain ⟨g0, rfl, rfl⟩ := hR
  refine kont_of_hx cx_ok hb 200 ?_
  simp only [go_sem, Nat.reduceAdd, Nat.reduceSub, Nat.reduceMul, Nat.reduceBEq, Nat.reduceLT, Nat.reduceLeDiff, Nat.reduceEqDiff, Int.reduceToNat, Int.reduceLE, Int.reduceLT, Int.reduceAdd, Int.reduceSub, Int.reduceNeg, Int.reduceBEq, Int.reduceBNe, Nat.reduceBNe, Nat.reduceDiv, Nat.reduceMod]
  rw [lens_len]
  refine kont_for (fun k s => ∃ g, s = ⟨[(0, evs l), (5, .ref 0 g0 0 (l.length + 1)), (6, .ref 1 g 0 (rfAt lv l k).length), (14, evs l), (15, dint l.length), (16, dint k)], [⟨.arr, g0, 1, l.length + 1, fun i => i64c ((lens lv l l.length).getD i default)⟩, ⟨.arr, g, 5, (rfAt lv l k).length, fun i => ((rfAt lv l k).getD i default).cells⟩]⟩) l.length
    (s0 := ⟨[(0, evs l), (5, .ref 0 g0 0 (l.length + 1)), (6, .ref 1 0 0 0), (14, evs l), (15, dint l.length), (16, dint 0)], [⟨.arr, g0, 1, l.length + 1, fun i => i64c ((lens lv l l.length).getD i default)⟩, ⟨.arr, 0, 5, 0, fun i => (([] : List Sp).getD i default).cells⟩]⟩)
    (Weak.trans (Weak.phantom 6 5 (fun i => (([] : List Sp).getD i default).cells) rfl) (Weak.to 2 (by (simp only [go_sem, Nat.reduceAdd, Nat.reduceSub, Nat.reduceMul, Nat.reduceBEq, Nat.reduceLT, Nat.reduceLeDiff, Nat.reduceEqDiff, Int.reduceToNat, Int.reduceLE, Int.reduceLT, Int.reduceAdd, Int.reduceSub, Int.reduceNeg, Int.reduceBEq, Int.reduceBNe, Nat.reduceBNe, Nat.reduceDiv, Nat.reduceMod]) <;> simp))) ⟨0, rfl⟩ ?_
  rintro i s hi ⟨g, rfl⟩
  refine kont_of_hx cx_ok hb 200 ?_
  simp only [go_sem, Nat.reduceAdd, Nat.reduceSub, Nat.reduceMul, Nat.reduceBEq, Nat.reduceLT, Nat.reduceLeDiff, Nat.reduceEqDiff, Int.reduceToNat, Int.reduceLE, Int.reduceLT, Int.reduceAdd, Int.reduceSub, Int.reduceNeg, Int.reduceBEq, Int.reduceBNe, Nat.reduceBNe, Nat.reduceDiv, Nat.reduceMod]
  have hwr := wrap_succ (show i < 4611686018427387904 by omega)
  have hlen := rfAt_len lv l i
  refine hite_intro (fun h => ?_) (fun h => ?_)
  · have hi1 : i < l.length := by simpa using h
    have hi2 : i < l.length + 1 := by omega
    have hi3 : i + 1 < l.length + 1 := by omega
    have n1 : (lens lv l l.length).getD i default = (lenAt lv l i : Int) := lens_get lv l _ i hi2
    have n2 : (lens lv l l.length).getD (i + 1) default = (lenAt lv l (i + 1) : Int) := lens_get lv l _ _ hi3
    by_cases hn : lenAt lv l i = 0
    case neg =>
      have e1 : rfAt lv l (i + 1) = rfAt lv l i := by simp only [rfAt]; rw [if_pos (by omega)]
      simp only [go_sem, Nat.reduceAdd, Nat.reduceSub, Nat.reduceMul, Nat.reduceBEq, Nat.reduceLT, Nat.reduceLeDiff, Nat.reduceEqDiff, Int.reduceToNat, Int.reduceLE, Int.reduceLT, Int.reduceAdd, Int.reduceSub, Int.reduceNeg, Int.reduceBEq, Int.reduceBNe, Nat.reduceBNe, Nat.reduceDiv, Nat.reduceMod, hi1, hi2, n1, dp hn]
      repeat (refine And.intro (by first | assumption | omega) ?_)
      exact ⟨_, Weak.to 2 (by (simp only [go_sem, Nat.reduceAdd, Nat.reduceSub, Nat.reduceMul, Nat.reduceBEq, Nat.reduceLT, Nat.reduceLeDiff, Nat.reduceEqDiff, Int.reduceToNat, Int.reduceLE, Int.reduceLT, Int.reduceAdd, Int.reduceSub, Int.reduceNeg, Int.reduceBEq, Int.reduceBNe, Nat.reduceBNe, Nat.reduceDiv, Nat.reduceMod, hwr, e1]) <;> simp), g, rfl⟩
    by_cases hm : lenAt lv l (i + 1) = 0
    case pos =>
      have e1 : rfAt lv l (i + 1) = rfAt lv l i := by simp only [rfAt]; rw [if_pos (by omega)]
      simp only [go_sem, Nat.reduceAdd, Nat.reduceSub, Nat.reduceMul, Nat.reduceBEq, Nat.reduceLT, Nat.reduceLeDiff, Nat.reduceEqDiff, Int.reduceToNat, Int.reduceLE, Int.reduceLT, Int.reduceAdd, Int.reduceSub, Int.reduceNeg, Int.reduceBEq, Int.reduceBNe, Nat.reduceBNe, Nat.reduceDiv, Nat.reduceMod, hi1, hi2, hi3, n1, n2, hwr, dnp hn, bz hm]
      repeat (refine And.intro (by first | assumption | omega) ?_)
      exact ⟨_, Weak.to 2 (by (simp only [go_sem, Nat.reduceAdd, Nat.reduceSub, Nat.reduceMul, Nat.reduceBEq, Nat.reduceLT, Nat.reduceLeDiff, Nat.reduceEqDiff, Int.reduceToNat, Int.reduceLE, Int.reduceLT, Int.reduceAdd, Int.reduceSub, Int.reduceNeg, Int.reduceBEq, Int.reduceBNe, Nat.reduceBNe, Nat.reduceDiv, Nat.reduceMod, hwr, e1]) <;> simp), g, rfl⟩
    have e1 : rfAt lv l (i + 1) = rfAt lv l i ++ [isOpenAt lv l i l.length] := by simp only [rfAt]; rw [if_neg (by omega)]
    simp only [go_sem, Nat.reduceAdd, Nat.reduceSub, Nat.reduceMul, Nat.reduceBEq, Nat.reduceLT, Nat.reduceLeDiff, Nat.reduceEqDiff, Int.reduceToNat, Int.reduceLE, Int.reduceLT, Int.reduceAdd, Int.reduceSub, Int.reduceNeg, Int.reduceBEq, Int.reduceBNe, Nat.reduceBNe, Nat.reduceDiv, Nat.reduceMod, hi1, hi2, hi3, n1, n2, hwr, dnp hn, bnz hm]
    refine kont_for (fun j s => s = ⟨[(0, evs l), (5, .ref 0 g0 0 (l.length + 1)), (6, .ref 1 g 0 (rfAt lv l i).length), (7, dint i), (8, .ptr 2 0 0 0), (9, .ptr 3 0 0 0), (14, evs l), (15, dint l.length), (16, dint i), (39, dint l.length), (40, dint j)], [⟨.arr, g0, 1, l.length + 1, fun i => i64c ((lens lv l l.length).getD i default)⟩, ⟨.arr, g, 5, (rfAt lv l i).length, fun k => ((rfAt lv l i).getD k default).cells⟩, ⟨.one, 0, 12, 1, fun _ => (l.getD i default).cells⟩, ⟨.one, 0, 5, 1, fun _ => (isOpenAt lv l i j).cells⟩]⟩) l.length
      (s0 := ⟨[(0, evs l), (5, .ref 0 g0 0 (l.length + 1)), (6, .ref 1 g 0 (rfAt lv l i).length), (7, dint i), (8, .ptr 2 0 0 0), (9, .ptr 3 0 0 0), (14, evs l), (15, dint l.length), (16, dint i), (39, dint l.length), (40, dint 0)], [⟨.arr, g0, 1, l.length + 1, fun i => i64c ((lens lv l l.length).getD i default)⟩, ⟨.arr, g, 5, (rfAt lv l i).length, fun k => ((rfAt lv l i).getD k default).cells⟩, ⟨.one, 0, 12, 1, fun _ => (l.getD i default).cells⟩, ⟨.one, 0, 5, 1, fun _ => (isOpenAt lv l i 0).cells⟩]⟩)
      (Weak.to 4 (by (simp only [go_sem, Nat.reduceAdd, Nat.reduceSub, Nat.reduceMul, Nat.reduceBEq, Nat.reduceLT, Nat.reduceLeDiff, Nat.reduceEqDiff, Int.reduceToNat, Int.reduceLE, Int.reduceLT, Int.reduceAdd, Int.reduceSub, Int.reduceNeg, Int.reduceBEq, Int.reduceBNe, Nat.reduceBNe, Nat.reduceDiv, Nat.reduceMod, isOpenAt]) <;> simp)) rfl ?_
    rintro j s hj rfl
    refine kont_of_hx cx_ok hb 200 ?_
    simp only [go_sem, Nat.reduceAdd, Nat.reduceSub, Nat.reduceMul, Nat.reduceBEq, Nat.reduceLT, Nat.reduceLeDiff, Nat.reduceEqDiff, Int.reduceToNat, Int.reduceLE, Int.reduceLT, Int.reduceAdd, Int.reduceSub, Int.reduceNeg, Int.reduceBEq, Int.reduceBNe, Nat.reduceBNe, Nat.reduceDiv, Nat.reduceMod]
    refine hite_intro (fun h2 => ?_) (fun h2 => ?_)
    · have hj1 : j < l.length := by simpa using h2
      have hj3 : j + 1 < l.length + 1 := by omega
      have hwj := wrap_succ (show j < 4611686018427387904 by omega)
      have n3 : (lens lv l l.length).getD (j + 1) default = (lenAt lv l (j + 1) : Int) := lens_get lv l _ _ hj3
      by_cases c1 : i < j
      case neg =>
        have e2 : isOpenAt lv l i (j + 1) = isOpenAt lv l i j := by simp only [isOpenAt]; rw [if_neg (fun x => c1 x.1)]
        have d1 : decide (i < j) = false := by simp [c1]
        simp only [go_sem, Nat.reduceAdd, Nat.reduceSub, Nat.reduceMul, Nat.reduceBEq, Nat.reduceLT, Nat.reduceLeDiff, Nat.reduceEqDiff, Int.reduceToNat, Int.reduceLE, Int.reduceLT, Int.reduceAdd, Int.reduceSub, Int.reduceNeg, Int.reduceBEq, Int.reduceBNe, Nat.reduceBNe, Nat.reduceDiv, Nat.reduceMod, d1]
        repeat (refine And.intro (by first | assumption | omega) ?_)
        exact ⟨_, Weak.to 4 (by (simp only [go_sem, Nat.reduceAdd, Nat.reduceSub, Nat.reduceMul, Nat.reduceBEq, Nat.reduceLT, Nat.reduceLeDiff, Nat.reduceEqDiff, Int.reduceToNat, Int.reduceLE, Int.reduceLT, Int.reduceAdd, Int.reduceSub, Int.reduceNeg, Int.reduceBEq, Int.reduceBNe, Nat.reduceBNe, Nat.reduceDiv, Nat.reduceMod, hwj, e2]) <;> simp), rfl⟩
      have d1 : decide (i < j) = true := by simp [c1]
      cases c2 : (isOpenAt lv l i j).opn
      case false =>
        have e2 : isOpenAt lv l i (j + 1) = isOpenAt lv l i j := by simp only [isOpenAt]; rw [if_neg (fun x => by rw [c2] at x; cases x.2.1)]
        simp only [go_sem, Nat.reduceAdd, Nat.reduceSub, Nat.reduceMul, Nat.reduceBEq, Nat.reduceLT, Nat.reduceLeDiff, Nat.reduceEqDiff, Int.reduceToNat, Int.reduceLE, Int.reduceLT, Int.reduceAdd, Int.reduceSub, Int.reduceNeg, Int.reduceBEq, Int.reduceBNe, Nat.reduceBNe, Nat.reduceDiv, Nat.reduceMod, d1, c2]
        repeat (refine And.intro (by first | assumption | omega) ?_)
        exact ⟨_, Weak.to 4 (by (simp only [go_sem, Nat.reduceAdd, Nat.reduceSub, Nat.reduceMul, Nat.reduceBEq, Nat.reduceLT, Nat.reduceLeDiff, Nat.reduceEqDiff, Int.reduceToNat, Int.reduceLE, Int.reduceLT, Int.reduceAdd, Int.reduceSub, Int.reduceNeg, Int.reduceBEq, Int.reduceBNe, Nat.reduceBNe, Nat.reduceDiv, Nat.reduceMod, hwj, e2, c2]) <;> simp), rfl⟩
      by_cases c3 : lenAt lv l (j + 1) = 0
      case neg =>
        have e2 : isOpenAt lv l i (j + 1) = isOpenAt lv l i j := by simp only [isOpenAt]; rw [if_neg (fun x => c3 x.2.2)]
        simp only [go_sem, Nat.reduceAdd, Nat.reduceSub, Nat.reduceMul, Nat.reduceBEq, Nat.reduceLT, Nat.reduceLeDiff, Nat.reduceEqDiff, Int.reduceToNat, Int.reduceLE, Int.reduceLT, Int.reduceAdd, Int.reduceSub, Int.reduceNeg, Int.reduceBEq, Int.reduceBNe, Nat.reduceBNe, Nat.reduceDiv, Nat.reduceMod, d1, c2, hj3, n3, hwj, bnz c3]
        repeat (refine And.intro (by first | assumption | omega) ?_)
        exact ⟨_, Weak.to 4 (by (simp only [go_sem, Nat.reduceAdd, Nat.reduceSub, Nat.reduceMul, Nat.reduceBEq, Nat.reduceLT, Nat.reduceLeDiff, Nat.reduceEqDiff, Int.reduceToNat, Int.reduceLE, Int.reduceLT, Int.reduceAdd, Int.reduceSub, Int.reduceNeg, Int.reduceBEq, Int.reduceBNe, Nat.reduceBNe, Nat.reduceDiv, Nat.reduceMod, hwj, e2, c2]) <;> simp), rfl⟩
      have e2 : isOpenAt lv l i (j + 1) = ⟨(l.getD i default).at_, (l.getD j default).at_, i, j, false⟩ := by simp only [isOpenAt]; rw [if_pos ⟨c1, c2, c3⟩]
      simp only [go_sem, Nat.reduceAdd, Nat.reduceSub, Nat.reduceMul, Nat.reduceBEq, Nat.reduceLT, Nat.reduceLeDiff, Nat.reduceEqDiff, Int.reduceToNat, Int.reduceLE, Int.reduceLT, Int.reduceAdd, Int.reduceSub, Int.reduceNeg, Int.reduceBEq, Int.reduceBNe, Nat.reduceBNe, Nat.reduceDiv, Nat.reduceMod, d1, c2, hj3, n3, hwj, bz c3]
      refine kont_hax cx_ok hb 200 mixed [(0, true), (1, true), (2, true), (3, true), (4, true), (5, true), (6, true), (7, true), (8, true), (9, true), (10, false)] (by kernel_rfl) (by kernel_rfl) ?_
      simp only [go_sem, Nat.reduceAdd, Nat.reduceSub, Nat.reduceMul, Nat.reduceBEq, Nat.reduceLT, Nat.reduceLeDiff, Nat.reduceEqDiff, Int.reduceToNat, Int.reduceLE, Int.reduceLT, Int.reduceAdd, Int.reduceSub, Int.reduceNeg, Int.reduceBEq, Int.reduceBNe, Nat.reduceBNe, Nat.reduceDiv, Nat.reduceMod, hj1]
      repeat (refine And.intro (by first | assumption | omega) ?_)
      exact ⟨_, Weak.to 4 (by (simp only [go_sem, Nat.reduceAdd, Nat.reduceSub, Nat.reduceMul, Nat.reduceBEq, Nat.reduceLT, Nat.reduceLeDiff, Nat.reduceEqDiff, Int.reduceToNat, Int.reduceLE, Int.reduceLT, Int.reduceAdd, Int.reduceSub, Int.reduceNeg, Int.reduceBEq, Int.reduceBNe, Nat.reduceBNe, Nat.reduceDiv, Nat.reduceMod, hwj, e2]) <;> simp), rfl⟩
    · have hj1 : j = l.length := by simp at h2; omega
      subst hj1
      simp only [go_sem, Nat.reduceAdd, Nat.reduceSub, Nat.reduceMul, Nat.reduceBEq, Nat.reduceLT, Nat.reduceLeDiff, Nat.reduceEqDiff, Int.reduceToNat, Int.reduceLE, Int.reduceLT, Int.reduceAdd, Int.reduceSub, Int.reduceNeg, Int.reduceBEq, Int.reduceBNe, Nat.reduceBNe, Nat.reduceDiv, Nat.reduceMod]
      refine kont_of_hx cx_ok hb 200 ?_
      simp only [go_sem, Nat.reduceAdd, Nat.reduceSub, Nat.reduceMul, Nat.reduceBEq, Nat.reduceLT, Nat.reduceLeDiff, Nat.reduceEqDiff, Int.reduceToNat, Int.reduceLE, Int.reduceLT, Int.reduceAdd, Int.reduceSub, Int.reduceNeg, Int.reduceBEq, Int.reduceBNe, Nat.reduceBNe, Nat.reduceDiv, Nat.reduceMod]
      repeat (refine And.intro (by first | assumption | omega) ?_)
      refine ⟨_, Weak.to 2 ⟨?_, by simp only [go_sem, Nat.reduceAdd, Nat.reduceSub, Nat.reduceMul, Nat.reduceBEq, Nat.reduceLT, Nat.reduceLeDiff, Nat.reduceEqDiff, Int.reduceToNat, Int.reduceLE, Int.reduceLT, Int.reduceAdd, Int.reduceSub, Int.reduceNeg, Int.reduceBEq, Int.reduceBNe, Nat.reduceBNe, Nat.reduceDiv, Nat.reduceMod], (by (simp only [go_sem, Nat.reduceAdd, Nat.reduceSub, Nat.reduceMul, Nat.reduceBEq, Nat.reduceLT, Nat.reduceLeDiff, Nat.reduceEqDiff, Int.reduceToNat, Int.reduceLE, Int.reduceLT, Int.reduceAdd, Int.reduceSub, Int.reduceNeg, Int.reduceBEq, Int.reduceBNe, Nat.reduceBNe, Nat.reduceDiv, Nat.reduceMod]) <;> simp), ?_⟩, g + 1, rfl⟩
      · simp only [go_sem, Nat.reduceAdd, Nat.reduceSub, Nat.reduceMul, Nat.reduceBEq, Nat.reduceLT, Nat.reduceLeDiff, Nat.reduceEqDiff, Int.reduceToNat, Int.reduceLE, Int.reduceLT, Int.reduceAdd, Int.reduceSub, Int.reduceNeg, Int.reduceBEq, Int.reduceBNe, Nat.reduceBNe, Nat.reduceDiv, Nat.reduceMod, hwr, e1, List.length_append]
      · simp only [go_sem, Nat.reduceAdd, Nat.reduceSub, Nat.reduceMul, Nat.reduceBEq, Nat.reduceLT, Nat.reduceLeDiff, Nat.reduceEqDiff, Int.reduceToNat, Int.reduceLE, Int.reduceLT, Int.reduceAdd, Int.reduceSub, Int.reduceNeg, Int.reduceBEq, Int.reduceBNe, Nat.reduceBNe, Nat.reduceDiv, Nat.reduceMod, e1, List.length_append]
        intro k hk
        rw [getD_app _ _ _ _ hk]
        cases decide (k < (rfAt lv l i).length) <;> rfl
  · have hi1 : i = l.length := by simp at h; omega
    simp only [go_sem, Nat.reduceAdd, Nat.reduceSub, Nat.reduceMul, Nat.reduceBEq, Nat.reduceLT, Nat.reduceLeDiff, Nat.reduceEqDiff, Int.reduceToNat, Int.reduceLE, Int.reduceLT, Int.reduceAdd, Int.reduceSub, Int.reduceNeg, Int.reduceBEq, Int.reduceBNe, Nat.reduceBNe, Nat.reduceDiv, Nat.reduceMod]
    refine kont_of_hx cx_ok hb 200 ?_
    simp only [go_sem, Nat.reduceAdd, Nat.reduceSub, Nat.reduceMul, Nat.reduceBEq, Nat.reduceLT, Nat.reduceLeDiff, Nat.reduceEqDiff, Int.reduceToNat, Int.reduceLE, Int.reduceLT, Int.reduceAdd, Int.reduceSub, Int.reduceNeg, Int.reduceBEq, Int.reduceBNe, Nat.reduceBNe, Nat.reduceDiv, Nat.reduceMod]
    subst hi1
    exact ⟨g, rfl, rfl⟩
end Go.Fg.X.SP
namespace Go.Fg.X.SP
set_option linter.unusedSimpArgs false
set_option linter.unusedVariables false
open Go.Proofs Go.Fg
set_option maxRecDepth 100000
theorem isOpen_at (lv : List Int) (l : List Ev) (i : Nat) : ∀ j, (isOpenAt lv l i j).frm = (l.getD i default).at_ ∧ (isOpenAt lv l i j).fst = i
  | 0 => ⟨rfl, rfl⟩
  | j + 1 => by simp only [isOpenAt]; split; exact ⟨rfl, rfl⟩; exact isOpen_at lv l i j
theorem isOpen_init (lv : List Int) (l : List Ev) (i : Nat) : ∀ j, j ≤ i + 1 → isOpenAt lv l i j = ⟨(l.getD i default).at_, 0, i, 0, true⟩
  | 0, _ => rfl
  | j + 1, h => by simp only [isOpenAt]; rw [if_neg (by omega)]; exact isOpen_init lv l i j (by omega)
def starts (lv : List Int) (l : List Ev) : Nat → List Nat
  | 0 => []
  | i + 1 => if 0 < lenAt lv l i ∨ lenAt lv l (i + 1) = 0 then starts lv l i else starts lv l i ++ [i]
theorem starts_lt (lv : List Int) (l : List Ev) : ∀ k, ∀ a ∈ starts lv l k, a < k
  | 0, a, h => by simp [starts] at h
  | k + 1, a, h => by
    simp only [starts] at h
    split at h
    · have := starts_lt lv l k a h; omega
    · rcases List.mem_append.1 h with h | h
      · have := starts_lt lv l k a h; omega
      · simp at h; omega
theorem rfAt_map (lv : List Int) (l : List Ev) : ∀ k, rfAt lv l k = (starts lv l k).map fun a => isOpenAt lv l a l.length
  | 0 => rfl
  | k + 1 => by simp only [rfAt, starts]; split; exact rfAt_map lv l k; rw [rfAt_map lv l k]; simp
theorem spAt_map (lv : List Int) (l : List Ev) : ∀ k, spAt lv l k = (starts lv l k).map fun a => isOpenAt lv l a k
  | 0 => rfl
  | k + 1 => by
    have ih := spAt_map lv l k
    have G := good lv l k
    rw [ih] at G
    have hs := starts_lt lv l k
    have same : (∀ a ∈ starts lv l k, (isOpenAt lv l a k).opn = true → lenAt lv l (k + 1) ≠ 0) → (starts lv l k).map (fun a => isOpenAt lv l a (k + 1)) = (starts lv l k).map fun a => isOpenAt lv l a k := fun h => by
      apply List.map_congr_left
      intro a ha
      simp only [isOpenAt]
      rw [if_neg (fun x => h a ha x.2.1 x.2.2)]
    simp only [spAt, spStep, starts]
    rw [ih]
    rw [show lenN (lenAt lv l k) (l.getD k default) lv = lenAt lv l (k + 1) from rfl]
    by_cases h1 : lenAt lv l k = 0 ∧ 0 < lenAt lv l (k + 1)
    · rw [if_pos h1, if_neg (by omega), List.map_append, same (fun a _ _ => by omega)]
      simp [isOpen_init lv l k (k + 1) (by omega)]
    · rw [if_neg h1]
      by_cases h2 : 0 < lenAt lv l k ∧ lenAt lv l (k + 1) = 0
      · rw [if_pos h2, if_pos (by omega)]
        obtain ⟨g1, g2⟩ := G.c.1 h2.1
        have g0 := G.b
        generalize hL : starts lv l k = L at *
        rcases List.eq_nil_or_concat L with rfl | ⟨I, a, rfl⟩
        · simp at g1
        · simp only [List.concat_eq_append, List.map_append, List.map_cons, List.map_nil, List.length_append, List.length_map, List.length_cons, List.length_nil, Nat.add_sub_cancel, Nat.zero_add] at *
          have e1 : (I.map (fun a => isOpenAt lv l a k) ++ [isOpenAt lv l a k]).getD I.length default = isOpenAt lv l a k := by
            simp
          rw [e1] at g2 ⊢
          have ha : a < k := hs a (by simp)
          have hI : I.map (fun a => isOpenAt lv l a (k + 1)) = I.map fun a => isOpenAt lv l a k := by
            apply List.map_congr_left
            intro b hb
            obtain ⟨i, hi, rfl⟩ := List.getElem_of_mem hb
            have := (g0 i (by omega)).1
            rw [getD_lt _ _ _ _ (by simpa using hi)] at this
            simp only [List.getD_eq_getElem?_getD, List.getElem?_map, List.getElem?_eq_getElem hi, Option.map_some, Option.getD_some] at this
            simp only [isOpenAt]
            rw [if_neg (fun x => by rw [this] at x; cases x.2.1)]
          rw [hI, List.set_append_right _ _ (by simp)]
          obtain ⟨f1, f2⟩ := isOpen_at lv l a k
          have e2 : isOpenAt lv l a (k + 1) = ⟨(l.getD a default).at_, (l.getD k default).at_, a, k, false⟩ := by
            simp only [isOpenAt]; rw [if_pos ⟨ha, g2, h2.2⟩]
          rw [e2]
          simp [f1, f2]
      · rw [if_neg h2]
        by_cases h3 : lenAt lv l (k + 1) = 0
        · rw [if_pos (by omega)]
          rw [same]
          intro a ha ho
          exfalso
          have hn : lenAt lv l k = 0 := by omega
          obtain ⟨i, hi, rfl⟩ := List.getElem_of_mem ha
          have e1 : ((starts lv l k).map fun a => isOpenAt lv l a k).getD i default = isOpenAt lv l (starts lv l k)[i] k := by
            simp [List.getD_eq_getElem?_getD, hi]
          by_cases hlast : i + 1 < (starts lv l k).length
          · have := (G.b i (by simpa using hlast)).1
            rw [e1, ho] at this; cases this
          · have : 0 < lenAt lv l k := G.c.2 ⟨by simp; omega, by
              rw [show ((starts lv l k).map fun a => isOpenAt lv l a k).length - 1 = i by simp; omega, e1]; exact ho⟩
            omega
        · rw [if_pos (by omega), same (fun _ _ _ => h3)]
theorem spans_law (l : List Ev) (lv : List Int) : rfAt lv l l.length = spAt lv l l.length := by rw [rfAt_map, spAt_map]
end Go.Fg.X.SP
namespace Go.Fg.X
open Go.Proofs Go.Fg
open Go.RowKit (Below)
set_option maxRecDepth 100000
set_option maxHeartbeats 4000000
set_option linter.unusedSimpArgs false
set_option linter.unusedVariables false
theorem immTo {N : Nat → Prop} {w : World} {sz n : Nat} {row row' : Nat → List D} {v : Value} (h : Cl N w (.imm sz n row) v) (e : ∀ i, i < n → row i = row' i) : Cl N w (.imm sz n row') v := by
  cases h with
  | imm _ _ _ a cap b o vs ha hl hs hc hr => exact .imm sz n row' a cap b o vs ha hl (fun i hi => by rw [← e i hi]; exact hs i hi) hc (fun i j hi hj => by rw [← e i hi]; exact hr i j hi hj)
theorem RelO.nil {Z : Nat → Prop} {base : Nat} {w : World} : RelO Z base [] [] w := ⟨rfl, fun l l' b q q' e1 e2 => by simp at e1, fun l o e => by simp at e, fun l o b q e => by simp at e⟩
/-- A slice that the call made, told as a closed value. -/
theorem freezeS {P : Program} {f : FuncId} {args : List D} {α : Type} [Inhabited α] {sz : Nat} {enc : α → List D} {L : List α} (henc : ∀ a, (enc a).all D.cl1 = true) (h : AFn P f args (RetS sz enc L)) :
    AFn P f args (Ret (.imm sz L.length (fun i => enc (L.getD i default)))) := by
  intro Z base w pl vs h1 h2 h3 hl hc
  have hpl : pl = [] := by have := h3.len; simpa using this
  subst hpl
  refine (h Z base w [] vs h1 h2 h3 hl hc).mono fun e w' he => ?_
  obtain ⟨v, d, hh, pl', rfl, ⟨g, off, row, rfl, rfl, hr⟩, hO, hV, hT, hB⟩ := he
  have hlen : pl'.length = 1 := by have := hO.len; simpa using this
  obtain ⟨p, rfl⟩ : ∃ p, pl' = [p] := by
    match pl', hlen with
    | [p], _ => exact ⟨p, rfl⟩
  have hfz := hV.fz (l := 0) (o := ⟨.arr, g, sz, off + L.length, row⟩) (p := p) rfl rfl rfl (fun b q e => by
    subst e
    refine ⟨h2 b ?_, fun l' q' e' => ?_, (hO.at_ 0 _ b q rfl rfl).2.cells rfl⟩
    · rcases Nat.lt_or_ge b w.heap.size with hlt | hge
      · exact absurd rfl ((hT.old b (fun i q e => by simp at e) hlt).1 0 q)
      · exact hge
    · have := ltp_of_some e'; simp at this; exact this) (fun i hi => by
    obtain ⟨a, ha⟩ := hr.all i hi
    show (row i).all D.cl1 = true
    rw [ha]; exact henc a) (h' := [Ob.gone ⟨.arr, g, sz, off + L.length, row⟩]) (fun l' o' hne e => by
    have := lt_of_some e
    simp at this; exact absurd this hne)
  have e1 : D.fz 0 g (off + L.length) sz row (.ref 0 g off L.length) = .imm sz L.length (rowFrom off row) := by simp [D.fz, nat_ble]
  simp only [e1] at hfz
  have hcl := (cl1_ok hfz rfl).mono (N' := free Z []) (w' := w') fun b hb _ => ⟨⟨hb.1, fun l q e => by simp at e⟩, rfl⟩
  refine ⟨v, _, [], [], rfl, ⟨rfl, rfl⟩, RelO.nil, .cl _ _ (immTo hcl fun i hi => hr.at_ i hi), ⟨fun b hb hlt => ⟨hb, (hT.old b hb hlt).2⟩, fun l o p e => by simp at e, fun l o o' b q e => by simp at e⟩, hB⟩
/-- The same, of what holds such a slice. -/
theorem freezeG {P : Program} {f : FuncId} {args : List D} {R : D → List Ob → Prop} (d2 : D) (hu : d2.upto 0 = true)
    (hd : ∀ d hh, R d hh → ∃ g sz n row, hh = [⟨.arr, g, sz, n, row⟩] ∧ (∀ i, i < n → (row i).all D.cl1 = true) ∧ dLe 6 (D.fz 0 g n sz row d) d2) (h : AFn P f args R) : AFn P f args (Ret d2) := by
  intro Z base w pl vs h1 h2 h3 hl hc
  have hpl : pl = [] := by have := h3.len; simpa using this
  subst hpl
  refine (h Z base w [] vs h1 h2 h3 hl hc).mono fun e w' he => ?_
  obtain ⟨v, d, hh, pl', rfl, hR, hO, hV, hT, hB⟩ := he
  obtain ⟨g, sz, n, row, rfl, hcl, hle⟩ := hd _ _ hR
  have hlen : pl'.length = 1 := by have := hO.len; simpa using this
  obtain ⟨p, rfl⟩ : ∃ p, pl' = [p] := by
    match pl', hlen with
    | [p], _ => exact ⟨p, rfl⟩
  have hfz := hV.fz (l := 0) (o := ⟨.arr, g, sz, n, row⟩) (p := p) rfl rfl rfl (fun b q e => by
    subst e
    refine ⟨h2 b ?_, fun l' q' e' => ?_, (hO.at_ 0 _ b q rfl rfl).2.cells rfl⟩
    · rcases Nat.lt_or_ge b w.heap.size with hlt | hge
      · exact absurd rfl ((hT.old b (fun i q e => by simp at e) hlt).1 0 q)
      · exact hge
    · have := ltp_of_some e'; simp at this; exact this) hcl (h' := [Ob.gone ⟨.arr, g, sz, n, row⟩]) (fun l' o' hne e => by
    have := lt_of_some e
    simp at this; exact absurd this hne)
  have h5 := (dLe_rel 6 hle hfz).take hu
  exact ⟨v, _, [], [], rfl, ⟨rfl, rfl⟩, RelO.nil, h5, ⟨fun b hb hlt => ⟨hb, (hT.old b hb hlt).2⟩, fun l o p e => by simp at e, fun l o o' b q e => by simp at e⟩, hB⟩
/-- What holds a built slice and a number. -/
def RetSN {α : Type} [Inhabited α] (sz : Nat) (enc : α → List D) (L : List α) (v : Value) (d : D) (h : List Ob) : Prop := ∃ g off row, d = .agg [.ref 0 g off L.length, .raw v] ∧ h = [⟨.arr, g, sz, off + L.length, row⟩] ∧ RowsAt enc L off row
theorem freezeSN {P : Program} {f : FuncId} {args : List D} {α : Type} [Inhabited α] {sz : Nat} {enc : α → List D} {L : List α} {v : Value} (henc : ∀ a, (enc a).all D.cl1 = true) (h : AFn P f args (RetSN sz enc L v)) :
    AFn P f args (Ret (.agg [.imm sz L.length (fun i => enc (L.getD i default)), .raw v])) := by
  refine freezeG _ rfl ?_ h
  rintro d hh ⟨g, off, row, rfl, rfl, hr⟩
  refine ⟨g, sz, _, row, rfl, fun i hi => ?_, ?_⟩
  · obtain ⟨a, ha⟩ := hr.all i hi
    rw [ha]; exact henc a
  · have e1 : D.fz 0 g (off + L.length) sz row (.agg [.ref 0 g off L.length, .raw v]) = .agg [.imm sz L.length (rowFrom off row), .raw v] := by simp [D.fz, fzL, nat_ble]
    rw [e1, dLe_agg, lLe_cons, lLe_cons, dLe_imm, dLe_raw]
    refine ⟨⟨rfl, rfl, fun i hi => ?_⟩, rfl, lLe_nil ▸ trivial⟩
    rw [rowFrom_at, hr.at_ i hi]
    exact lLeOf_refl (dLe_refl _) _
end Go.Fg.X
namespace Go.Fg.X
open Go.Proofs Go.Fg
set_option maxRecDepth 100000
set_option maxHeartbeats 4000000
set_option linter.unusedSimpArgs false
set_option linter.unusedVariables false
@[go_sem] def dsp (s : SP.Sp) : D := .agg s.cells
/-- When what came since a span's beginning is sent at the latest. -/
def sentV (T L : Int) (a d b : Nat) (u : List Ev) (leaf : Int) (s : SP.Sp) : Nat := togV s.frm.toNat (delV T L a d b (camV (u.drop s.fst.toNat) [leaf] 0 18446744073709551615))
theorem c64m : (18446744073709551615 : Int) = ((18446744073709551615 : Nat) : Int) := rfl
theorem evs_drop (u : List Ev) (k : Nat) : ∀ i, i < u.length - k → Ev.rows u (k + i) = Ev.rows (u.drop k) i := fun i hi => by
  simp only [Ev.rows_at, List.getD_eq_getElem?_getD, List.getElem?_drop]
theorem latest1_ok (h : List Ob) (b1 b2 b3 b4 b5 : Nat) (T L : Int) (a d b : Nat) (u : List Ev) (leaf : Int) (s : SP.Sp) (row3 row5 : Nat → List D)
    (h1 : (h.map Ob.ro)[b1]? = some ⟨.rone, 0, 2, 1, fun _ => [dint T, dint L]⟩) (h2 : (h.map Ob.ro)[b2]? = some ⟨.rone, 0, 3, 1, fun _ => [u64 a, u64 d, u64 b]⟩) (h3 : (h.map Ob.ro)[b3]? = some ⟨.rone, 0, 1, 1, fun _ => [.imm 12 u.length row3]⟩) (h4 : (h.map Ob.ro)[b4]? = some ⟨.rone, 0, 1, 1, fun _ => [.ref b5 0 0 1]⟩)
    (h5 : (h.map Ob.ro)[b5]? = some ⟨.rarr, 0, 1, 1, row5⟩) (hr3 : ∀ i, i < u.length → row3 i = Ev.rows u i) (hr5 : row5 0 = [dint leaf])
    (ha : a < 18446744073709551616) (hd : d < 18446744073709551616) (hb0 : b < 18446744073709551616) (hm : mayL T L = true) (hu : u.length < 2147483648) (ho : ∀ e ∈ u, e.Ok) (f0 : 0 ≤ s.frm ∧ s.frm ≤ 18446744073709551615) (k : Nat) (hk : s.fst = k) (hku : k ≤ u.length) :
    RFn0 Tryz.prog 23 h [dsp s, .ptr b1 0 0 0, .ptr b2 0 0 0, .ptr b3 0 0 0, .ptr b4 0 0 0] (fun v => v = u64 (sentV T L a d b u leaf s)) := by
  obtain ⟨fr, hfr⟩ : ∃ n : Nat, s.frm = (n : Int) := ⟨s.frm.toNat, by omega⟩
  obtain ⟨cm, hcm⟩ : ∃ cm, cm = camV (u.drop k) [leaf] 0 18446744073709551615 := ⟨_, rfl⟩
  have hcl : cm < 18446744073709551616 := by rw [hcm]; exact camV_lt _ _ _ _
  have hdl : (u.drop k).length = u.length - k := by simp
  have hse : sentV T L a d b u leaf s = togV fr (delV T L a d b cm) := by rw [sentV, hk, hfr, hcm]; rfl
  have hku2 : ((k : Int) ≤ (u.length : Int)) := by omega
  have hdo : ∀ e ∈ u.drop k, e.Ok := fun e he => ho e (List.mem_of_mem_drop he)
  rw [hse]
  refine RFn0_hx cx_ok 200 Tryz.func23 rfl Tryz.ntmps23 Tryz.results23 rfl fun base w pl F hF hFl hb => ?_
  rw [← hF] at h1 h2 h3 h4 h5
  have h1_l := hlt h1
  have h2_l := hlt h2
  have h3_l := hlt h3
  have h4_l := hlt h4
  have h5_l := hlt h5
  simp only [go_sem, Nat.reduceAdd, Nat.reduceSub, Nat.reduceMul, Nat.reduceBEq, Nat.reduceLT, Nat.reduceLeDiff, Nat.reduceEqDiff, Int.reduceToNat, Int.reduceLE, Int.reduceLT, Int.reduceAdd, Int.reduceSub, Int.reduceNeg, Int.reduceBEq, Int.reduceBNe, Nat.reduceBNe, Nat.reduceDiv, Nat.reduceMod, hgetA, hgetL, hgetLk, hsetA, hsetL, hsetLk, List.length_append, List.length_set, List.append_assoc, List.set_set, h1, h1_l, h2, h2_l, h3, h3_l, h4, h4_l, h5, h5_l]
  refine kont_hax cx_ok hb 200 mixed [(0, true), (1, true), (2, true), (3, true), (4, true), (5, true), (6, true), (7, false), (8, false), (9, true), (10, true), (11, true), (12, true), (13, true)] (by kernel_rfl) (by kernel_rfl) ?_
  simp only [go_sem, Nat.reduceAdd, Nat.reduceSub, Nat.reduceMul, Nat.reduceBEq, Nat.reduceLT, Nat.reduceLeDiff, Nat.reduceEqDiff, Int.reduceToNat, Int.reduceLE, Int.reduceLT, Int.reduceAdd, Int.reduceSub, Int.reduceNeg, Int.reduceBEq, Int.reduceBNe, Nat.reduceBNe, Nat.reduceDiv, Nat.reduceMod, hgetA, hgetL, hgetLk, hsetA, hsetL, hsetLk, List.length_append, List.length_set, List.append_assoc, List.set_set, h1, h2, h3, h4, h1_l, h2_l, h3_l, h4_l, hk, hku2]
  have hn : ((u.length : Int) - (k : Int)).toNat = (u.drop k).length := by simp
  refine AX_call hb fn24 rfl ?_ (tcame_ok (u.drop k) [leaf] 0 18446744073709551615 (by omega) (by simp) hdo) (Ret.flat rfl) rfl fun v h' hR => ?_
  · simp only [go_sem, Nat.reduceAdd, Nat.reduceSub, Nat.reduceMul, Nat.reduceBEq, Nat.reduceLT, Nat.reduceLeDiff, Nat.reduceEqDiff, Int.reduceToNat, Int.reduceLE, Int.reduceLT, Int.reduceAdd, Int.reduceSub, Int.reduceNeg, Int.reduceBEq, Int.reduceBNe, Nat.reduceBNe, Nat.reduceDiv, Nat.reduceMod, hgetA, hgetL, hgetLk, hsetA, hsetL, hsetLk, List.length_append, List.length_set, List.append_assoc, List.set_set, hn, h5, h5_l, ← c64m]
    refine ⟨fun i hi => ?_, fun i hi => ?_, fun i hi => ?_⟩
    · have : i = 0 := by omega
      subst this; rw [hr5]; rfl
    · rw [hdl] at hi
      rw [hr3 (k + i) (by omega), evs_drop u k i hi]; rfl
    · have : i = 0 := by omega
      subst this; rw [hr5]; rfl
  obtain ⟨rfl, rfl⟩ := hR
  rw [← hcm]
  refine AX_of_hax cx_ok hb ?_
  simp only [go_sem, Nat.reduceAdd, Nat.reduceSub, Nat.reduceMul, Nat.reduceBEq, Nat.reduceLT, Nat.reduceLeDiff, Nat.reduceEqDiff, Int.reduceToNat, Int.reduceLE, Int.reduceLT, Int.reduceAdd, Int.reduceSub, Int.reduceNeg, Int.reduceBEq, Int.reduceBNe, Nat.reduceBNe, Nat.reduceDiv, Nat.reduceMod, hgetA, hgetL, hgetLk, hsetA, hsetL, hsetLk, List.length_append, List.length_set, List.append_assoc, List.set_set, h1, h2, h3, h4, h1_l, h2_l, h3_l, h4_l]
  refine AX_call hb fn6 rfl ?_ (delay_ok T L a d b cm ha hd hb0 hcl hm) (Ret.flat rfl) rfl fun d h hR => ?_
  · simp only [go_sem, Nat.reduceAdd, Nat.reduceSub, Nat.reduceMul, Nat.reduceBEq, Nat.reduceLT, Nat.reduceLeDiff, Nat.reduceEqDiff, Int.reduceToNat, Int.reduceLE, Int.reduceLT, Int.reduceAdd, Int.reduceSub, Int.reduceNeg, Int.reduceBEq, Int.reduceBNe, Nat.reduceBNe, Nat.reduceDiv, Nat.reduceMod, hgetA, hgetL, hgetLk, hsetA, hsetL, hsetLk, List.length_append, List.length_set, List.append_assoc, List.set_set, hfr]
  obtain ⟨rfl, rfl⟩ := hR
  refine AX_of_hax cx_ok hb ?_
  simp only [go_sem, Nat.reduceAdd, Nat.reduceSub, Nat.reduceMul, Nat.reduceBEq, Nat.reduceLT, Nat.reduceLeDiff, Nat.reduceEqDiff, Int.reduceToNat, Int.reduceLE, Int.reduceLT, Int.reduceAdd, Int.reduceSub, Int.reduceNeg, Int.reduceBEq, Int.reduceBNe, Nat.reduceBNe, Nat.reduceDiv, Nat.reduceMod, hgetA, hgetL, hgetLk, hsetA, hsetL, hsetLk, List.length_append, List.length_set, List.append_assoc, List.set_set, hfr]
  refine kont_call hb fn20 rfl ?_ (together_ok fr (delV T L a d b cm) (by omega) (by have := togV_le (tickV a d b (cm * 65536)) (T.toNat * L.toNat); unfold delV; omega)) (Ret.flat rfl) rfl fun d h hR => ?_
  · simp only [go_sem, Nat.reduceAdd, Nat.reduceSub, Nat.reduceMul, Nat.reduceBEq, Nat.reduceLT, Nat.reduceLeDiff, Nat.reduceEqDiff, Int.reduceToNat, Int.reduceLE, Int.reduceLT, Int.reduceAdd, Int.reduceSub, Int.reduceNeg, Int.reduceBEq, Int.reduceBNe, Nat.reduceBNe, Nat.reduceDiv, Nat.reduceMod, hgetA, hgetL, hgetLk, hsetA, hsetL, hsetLk, List.length_append, List.length_set, List.append_assoc, List.set_set, hfr]
  obtain ⟨rfl, rfl⟩ := hR
  refine kont_of_hx cx_ok hb 200 ?_
  simp only [go_sem, Nat.reduceAdd, Nat.reduceSub, Nat.reduceMul, Nat.reduceBEq, Nat.reduceLT, Nat.reduceLeDiff, Nat.reduceEqDiff, Int.reduceToNat, Int.reduceLE, Int.reduceLT, Int.reduceAdd, Int.reduceSub, Int.reduceNeg, Int.reduceBEq, Int.reduceBNe, Nat.reduceBNe, Nat.reduceDiv, Nat.reduceMod, hgetA, hgetL, hgetLk, hsetA, hsetL, hsetLk, List.length_append, List.length_set, List.append_assoc, List.set_set, hfr]
  exact ⟨_, rfl⟩
theorem retL_S {α : Type} [Inhabited α] {sz : Nat} {enc : α → List D} {l : List α} {d : D} {h : List Ob} (hR : RetL sz enc l d h) : RetS sz enc l d h := by
  obtain ⟨g, rfl, rfl⟩ := hR
  exact ⟨g, 0, fun i => enc (l.getD i default), rfl, by rw [Nat.zero_add], ⟨fun i _ => by rw [Nat.zero_add], fun i _ => ⟨_, rfl⟩⟩⟩
@[go_sem] def sps (l : List SP.Sp) : D := .imm 5 l.length (fun i => (l.getD i default).cells)
theorem spofc_ok (l : List Ev) (lv : List Int) (hl : l.length < 2147483648) (hv : lv.length < 2147483648) : AFn Tryz.prog 25 [evs l, ints lv] (Ret (sps (SP.spAt lv l l.length))) :=
  freezeS (fun _ => rfl) ((SP.of_ok l lv hl hv).mono fun d h => retL_S)
theorem rspofc_ok (l : List Ev) (lv : List Int) (hl : l.length < 2147483648) (hv : lv.length < 2147483648) : AFn Tryz.prog 29 [evs l, ints lv] (Ret (sps (SP.spAt lv l l.length))) := by
  have h := SP.rof_ok l lv hl hv
  rw [SP.spans_law] at h
  exact freezeS (fun _ => rfl) (h.mono fun d h => retL_S)
def latV (T L : Int) (a d b : Nat) (u : List Ev) (leaf : Int) : Nat := (SP.spAt [leaf] u u.length).foldl (fun m s => max m (sentV T L a d b u leaf s)) 0
theorem evs_take (l : List Ev) (k : Nat) : ∀ i, i < k → Ev.rows l i = Ev.rows (l.take k) i := fun i hi => by
  simp only [Ev.rows_at, List.getD_eq_getElem?_getD, List.getElem?_take, if_pos hi]
theorem latest_ok (T L : Int) (a d b : Nat) (l : List Ev) (leaf : Int) (k : Nat) (ha : a < 18446744073709551616) (hd : d < 18446744073709551616) (hb0 : b < 18446744073709551616) (hl : l.length < 2147483648) (ho : ∀ e ∈ l, e.Ok) (hm : mayL T L = true)
    (hk : k < l.length) (hi : (l.getD k default).inn = true) (hc : (l.getD k default).cls = leaf) :
    AFn Tryz.prog 7 [cfg T L, crv a d b, evs l, dint leaf, dint k] (Ret (.tup [u64 (latV T L a d b (l.take (k + 1)) leaf), dint 0])) := by
  have h0 : ¬ ((k : Int) < 0) := by omega
  have hk2 : ¬ ((k : Int) ≥ (l.length : Int)) := by omega
  have hk3 : (k : Int) + 1 ≤ (l.length : Int) := by omega
  have hwr := wrap_succ (show k < 4611686018427387904 by omega)
  refine AFn_hxk 0 cx_ok 200 Tryz.func7 rfl Tryz.ntmps7 Tryz.results7 rfl fun base w hb => ?_
  simp only [go_sem, Nat.reduceAdd, Nat.reduceSub, Nat.reduceMul, Nat.reduceBEq, Nat.reduceLT, Nat.reduceLeDiff, Nat.reduceEqDiff, Int.reduceToNat, Int.reduceLE, Int.reduceLT, Int.reduceAdd, Int.reduceSub, Int.reduceNeg, Int.reduceBEq, Int.reduceBNe, Nat.reduceBNe, Nat.reduceDiv, Nat.reduceMod]
  refine kont_call hb fn6 rfl ?_ (delay_ok T L a d b 0 ha hd hb0 (by decide) hm) (Ret.flat rfl) rfl fun d h hR => ?_
  · simp only [go_sem, Nat.reduceAdd, Nat.reduceSub, Nat.reduceMul, Nat.reduceBEq, Nat.reduceLT, Nat.reduceLeDiff, Nat.reduceEqDiff, Int.reduceToNat, Int.reduceLE, Int.reduceLT, Int.reduceAdd, Int.reduceSub, Int.reduceNeg, Int.reduceBEq, Int.reduceBNe, Nat.reduceBNe, Nat.reduceDiv, Nat.reduceMod, decide_eq_false h0, decide_eq_false hk2, decide_eq_false (show ¬ l.length ≤ k by omega), hk, hi, beqT hc, Go.undef, hwr, hk3, bne]
  obtain ⟨rfl, rfl⟩ := hR
  refine kont_of_hx cx_ok hb 200 ?_
  simp only [go_sem, Nat.reduceAdd, Nat.reduceSub, Nat.reduceMul, Nat.reduceBEq, Nat.reduceLT, Nat.reduceLeDiff, Nat.reduceEqDiff, Int.reduceToNat, Int.reduceLE, Int.reduceLT, Int.reduceAdd, Int.reduceSub, Int.reduceNeg, Int.reduceBEq, Int.reduceBNe, Nat.reduceBNe, Nat.reduceDiv, Nat.reduceMod, decide_eq_false h0, decide_eq_false hk2, decide_eq_false (show ¬ l.length ≤ k by omega), hk, hi, beqT hc, Go.undef, hwr, hk3, bne]
  have hu : (l.take (k + 1)).length = k + 1 := by simp; omega
  have hgd : ∀ i, i < k + 1 → (l.take (k + 1)).getD i default = l.getD i default := fun i hi => by simp only [List.getD_eq_getElem?_getD, List.getElem?_take, if_pos hi]
  obtain ⟨u, huu⟩ : ∃ u, u = l.take (k + 1) := ⟨_, rfl⟩
  rw [← huu] at hu hgd ⊢
  have huo : ∀ e ∈ u, e.Ok := fun e he => ho e (by rw [huu] at he; exact List.mem_of_mem_take he)
  refine And.intro (by omega) ?_
  refine kont_call hb fn25 rfl ?_ (SP.of_ok u [leaf] (by omega) (by simp)) (RetL.flat fun x => rfl) rfl fun v h' hR => ?_
  · simp only [go_sem, Nat.reduceAdd, Nat.reduceSub, Nat.reduceMul, Nat.reduceBEq, Nat.reduceLT, Nat.reduceLeDiff, Nat.reduceEqDiff, Int.reduceToNat, Int.reduceLE, Int.reduceLT, Int.reduceAdd, Int.reduceSub, Int.reduceNeg, Int.reduceBEq, Int.reduceBNe, Nat.reduceBNe, Nat.reduceDiv, Nat.reduceMod, hu]
    refine ⟨⟨by omega, fun i hi => by rw [hgd i hi]⟩, fun i hi => ?_⟩
    obtain rfl : i = 0 := by omega
    rfl
  obtain ⟨g0, rfl, rfl⟩ := hR
  refine kont_of_hx cx_ok hb 200 ?_
  simp only [go_sem, Nat.reduceAdd, Nat.reduceSub, Nat.reduceMul, Nat.reduceBEq, Nat.reduceLT, Nat.reduceLeDiff, Nat.reduceEqDiff, Int.reduceToNat, Int.reduceLE, Int.reduceLT, Int.reduceAdd, Int.reduceSub, Int.reduceNeg, Int.reduceBEq, Int.reduceBNe, Nat.reduceBNe, Nat.reduceDiv, Nat.reduceMod]
  obtain ⟨Sl, hSl⟩ : ∃ Sl, Sl = SP.spAt [leaf] u u.length := ⟨_, rfl⟩
  have hSlen := SP.spAt_len [leaf] u u.length
  rw [← hSl] at hSlen ⊢
  have hlv : latV T L a d b u leaf = Sl.foldl (fun m s => max m (sentV T L a d b u leaf s)) 0 := by rw [hSl]; rfl
  rw [hlv]
  obtain ⟨r3, hr3⟩ : ∃ r3 : Nat → List D, r3 = fun i => (l.getD i default).cells := ⟨_, rfl⟩
  have hr3' := hr3
  simp only [go_sem, Nat.reduceAdd, Nat.reduceSub, Nat.reduceMul, Nat.reduceBEq, Nat.reduceLT, Nat.reduceLeDiff, Nat.reduceEqDiff, Int.reduceToNat, Int.reduceLE, Int.reduceLT, Int.reduceAdd, Int.reduceSub, Int.reduceNeg, Int.reduceBEq, Int.reduceBNe, Nat.reduceBNe, Nat.reduceDiv, Nat.reduceMod] at hr3'
  refine kont_for (fun i s => s = ⟨[(14, .ptr 3 0 0 0), (15, .ptr 4 0 0 0), (16, .clo 23 0 [.ptr 0 0 0 0, .ptr 1 0 0 0, .ptr 4 0 0 0, .ptr 3 0 0 0]), (17, u64 ((Sl.take i).foldl (fun m s => max m (sentV T L a d b u leaf s)) 0)), (63, .ref 5 g0 0 Sl.length), (64, dint Sl.length), (65, dint i)],
    [⟨.one, 0, 2, 1, fun _ => [dint T, dint L]⟩, ⟨.one, 0, 3, 1, fun _ => [u64 a, u64 d, u64 b]⟩, ⟨.arr, 0, 1, 1, fun _ => [dint leaf]⟩, ⟨.one, 0, 1, 1, fun _ => [.ref 2 0 0 1]⟩, ⟨.one, 0, 1, 1, fun _ => [.imm 12 u.length r3]⟩, ⟨.arr, g0, 5, Sl.length, fun i => (Sl.getD i default).cells⟩]⟩) Sl.length
    (Weak.to 6 ⟨by simp only [go_sem, Nat.reduceAdd, Nat.reduceSub, Nat.reduceMul, Nat.reduceBEq, Nat.reduceLT, Nat.reduceLeDiff, Nat.reduceEqDiff, Int.reduceToNat, Int.reduceLE, Int.reduceLT, Int.reduceAdd, Int.reduceSub, Int.reduceNeg, Int.reduceBEq, Int.reduceBNe, Nat.reduceBNe, Nat.reduceDiv, Nat.reduceMod, List.foldl_nil], by simp only [go_sem, Nat.reduceAdd, Nat.reduceSub, Nat.reduceMul, Nat.reduceBEq, Nat.reduceLT, Nat.reduceLeDiff, Nat.reduceEqDiff, Int.reduceToNat, Int.reduceLE, Int.reduceLT, Int.reduceAdd, Int.reduceSub, Int.reduceNeg, Int.reduceBEq, Int.reduceBNe, Nat.reduceBNe, Nat.reduceDiv, Nat.reduceMod], by simp only [go_sem, Nat.reduceAdd, Nat.reduceSub, Nat.reduceMul, Nat.reduceBEq, Nat.reduceLT, Nat.reduceLeDiff, Nat.reduceEqDiff, Int.reduceToNat, Int.reduceLE, Int.reduceLT, Int.reduceAdd, Int.reduceSub, Int.reduceNeg, Int.reduceBEq, Int.reduceBNe, Nat.reduceBNe, Nat.reduceDiv, Nat.reduceMod], by (simp only [go_sem, Nat.reduceAdd, Nat.reduceSub, Nat.reduceMul, Nat.reduceBEq, Nat.reduceLT, Nat.reduceLeDiff, Nat.reduceEqDiff, Int.reduceToNat, Int.reduceLE, Int.reduceLT, Int.reduceAdd, Int.reduceSub, Int.reduceNeg, Int.reduceBEq, Int.reduceBNe, Nat.reduceBNe, Nat.reduceDiv, Nat.reduceMod, hu, hr3]); intro i hi; rfl⟩) rfl ?_
  rintro i s hi2 rfl
  have hwr2 := wrap_succ (show i < 4611686018427387904 by omega)
  obtain ⟨S, hS⟩ : ∃ S, S = (Sl.take i).foldl (fun m s => max m (sentV T L a d b u leaf s)) 0 := ⟨_, rfl⟩
  rw [← hS]
  refine kont_of_hx cx_ok hb 200 ?_
  simp only [go_sem, Nat.reduceAdd, Nat.reduceSub, Nat.reduceMul, Nat.reduceBEq, Nat.reduceLT, Nat.reduceLeDiff, Nat.reduceEqDiff, Int.reduceToNat, Int.reduceLE, Int.reduceLT, Int.reduceAdd, Int.reduceSub, Int.reduceNeg, Int.reduceBEq, Int.reduceBNe, Nat.reduceBNe, Nat.reduceDiv, Nat.reduceMod]
  first | refine hite_lt hi2 (fun hk1 => ?_) (fun hk1 => ?_) | refine hite_ltI hi2 (fun hk1 => ?_) (fun hk1 => ?_)
  · obtain ⟨x, hx⟩ : ∃ x, x = Sl.getD i default := ⟨_, rfl⟩
    have hst := foldl_succ (fun m s => max m (sentV T L a d b u leaf s)) 0 Sl i hk1
    rw [← hS, ← hx] at hst
    obtain ⟨j, hj, hxf, hxj⟩ : ∃ j, j < u.length ∧ x.frm = (u.getD j default).at_ ∧ x.fst = (j : Int) := by
      have hm : x ∈ SP.spAt [leaf] u u.length := by rw [hx, ← hSl]; exact getD_memA hk1
      rw [SP.spAt_map, List.mem_map] at hm
      obtain ⟨a, ha, hxa⟩ := hm
      have h1 := SP.isOpen_at [leaf] u a u.length
      rw [hxa] at h1
      exact ⟨a, SP.starts_lt [leaf] u u.length a ha, h1.1, h1.2⟩
    have hat := wf_u64 (huo _ (getD_memA hj)).2.1
    simp only [go_sem, Nat.reduceAdd, Nat.reduceSub, Nat.reduceMul, Nat.reduceBEq, Nat.reduceLT, Nat.reduceLeDiff, Nat.reduceEqDiff, Int.reduceToNat, Int.reduceLE, Int.reduceLT, Int.reduceAdd, Int.reduceSub, Int.reduceNeg, Int.reduceBEq, Int.reduceBNe, Nat.reduceBNe, Nat.reduceDiv, Nat.reduceMod, hk1, ← hx]
    refine kont_callR0 hb fn23 rfl ?_ (latest1_ok _ 0 1 4 3 2 T L a d b u leaf x r3 (fun _ => [dint leaf]) rfl rfl rfl rfl rfl (fun i hi => ?_) rfl ha hd hb0 hm (by omega) huo (by rw [hxf]; exact hat) j hxj (by omega)) rfl fun v hR => ?_
    · simp only [go_sem, Nat.reduceAdd, Nat.reduceSub, Nat.reduceMul, Nat.reduceBEq, Nat.reduceLT, Nat.reduceLeDiff, Nat.reduceEqDiff, Int.reduceToNat, Int.reduceLE, Int.reduceLT, Int.reduceAdd, Int.reduceSub, Int.reduceNeg, Int.reduceBEq, Int.reduceBNe, Nat.reduceBNe, Nat.reduceDiv, Nat.reduceMod]
    · rw [hr3, Ev.rows_at, hgd i (by omega)]
    subst hR
    refine kont_of_hx cx_ok hb 200 ?_
    simp only [go_sem, Nat.reduceAdd, Nat.reduceSub, Nat.reduceMul, Nat.reduceBEq, Nat.reduceLT, Nat.reduceLeDiff, Nat.reduceEqDiff, Int.reduceToNat, Int.reduceLE, Int.reduceLT, Int.reduceAdd, Int.reduceSub, Int.reduceNeg, Int.reduceBEq, Int.reduceBNe, Nat.reduceBNe, Nat.reduceDiv, Nat.reduceMod]
    have hmx : (max (S : Int) ((sentV T L a d b u leaf x : Nat) : Int)) = ((max S (sentV T L a d b u leaf x) : Nat) : Int) := by omega
    refine ⟨hk1, _, Weak.to 6 ⟨?_, by simp only [go_sem, Nat.reduceAdd, Nat.reduceSub, Nat.reduceMul, Nat.reduceBEq, Nat.reduceLT, Nat.reduceLeDiff, Nat.reduceEqDiff, Int.reduceToNat, Int.reduceLE, Int.reduceLT, Int.reduceAdd, Int.reduceSub, Int.reduceNeg, Int.reduceBEq, Int.reduceBNe, Nat.reduceBNe, Nat.reduceDiv, Nat.reduceMod], by simp only [go_sem, Nat.reduceAdd, Nat.reduceSub, Nat.reduceMul, Nat.reduceBEq, Nat.reduceLT, Nat.reduceLeDiff, Nat.reduceEqDiff, Int.reduceToNat, Int.reduceLE, Int.reduceLT, Int.reduceAdd, Int.reduceSub, Int.reduceNeg, Int.reduceBEq, Int.reduceBNe, Nat.reduceBNe, Nat.reduceDiv, Nat.reduceMod], ?_⟩, rfl⟩
    · simp only [go_sem, Nat.reduceAdd, Nat.reduceSub, Nat.reduceMul, Nat.reduceBEq, Nat.reduceLT, Nat.reduceLeDiff, Nat.reduceEqDiff, Int.reduceToNat, Int.reduceLE, Int.reduceLT, Int.reduceAdd, Int.reduceSub, Int.reduceNeg, Int.reduceBEq, Int.reduceBNe, Nat.reduceBNe, Nat.reduceDiv, Nat.reduceMod, hwr2, hst, hmx]
    · simp only [go_sem, Nat.reduceAdd, Nat.reduceSub, Nat.reduceMul, Nat.reduceBEq, Nat.reduceLT, Nat.reduceLeDiff, Nat.reduceEqDiff, Int.reduceToNat, Int.reduceLE, Int.reduceLT, Int.reduceAdd, Int.reduceSub, Int.reduceNeg, Int.reduceBEq, Int.reduceBNe, Nat.reduceBNe, Nat.reduceDiv, Nat.reduceMod]
  · subst hk1
    rw [List.take_length] at hS
    rw [← hS]
    refine kont_of_hx cx_ok hb 200 ?_
    simp only [go_sem, Nat.reduceAdd, Nat.reduceSub, Nat.reduceMul, Nat.reduceBEq, Nat.reduceLT, Nat.reduceLeDiff, Nat.reduceEqDiff, Int.reduceToNat, Int.reduceLE, Int.reduceLT, Int.reduceAdd, Int.reduceSub, Int.reduceNeg, Int.reduceBEq, Int.reduceBNe, Nat.reduceBNe, Nat.reduceDiv, Nat.reduceMod]
theorem latestN_ok (T L : Int) (a d b : Nat) (l : List Ev) (leaf k : Int) (hm : mayL T L = false) :
    AFn Tryz.prog 7 [cfg T L, crv a d b, evs l, dint leaf, dint k] (Ret (.tup [u64 0, dint 1])) := by
  refine AFn_hxk 0 cx_ok 200 Tryz.func7 rfl Tryz.ntmps7 Tryz.results7 rfl fun base w hb => ?_
  simp only [go_sem, Nat.reduceAdd, Nat.reduceSub, Nat.reduceMul, Nat.reduceBEq, Nat.reduceLT, Nat.reduceLeDiff, Nat.reduceEqDiff, Int.reduceToNat, Int.reduceLE, Int.reduceLT, Int.reduceAdd, Int.reduceSub, Int.reduceNeg, Int.reduceBEq, Int.reduceBNe, Nat.reduceBNe, Nat.reduceDiv, Nat.reduceMod]
  refine kont_call hb fn6 rfl ?_ (delayN_ok T L a d b 0 hm) (Ret.flat rfl) rfl fun d h hR => ?_
  · simp only [go_sem, Nat.reduceAdd, Nat.reduceSub, Nat.reduceMul, Nat.reduceBEq, Nat.reduceLT, Nat.reduceLeDiff, Nat.reduceEqDiff, Int.reduceToNat, Int.reduceLE, Int.reduceLT, Int.reduceAdd, Int.reduceSub, Int.reduceNeg, Int.reduceBEq, Int.reduceBNe, Nat.reduceBNe, Nat.reduceDiv, Nat.reduceMod]
  obtain ⟨rfl, rfl⟩ := hR
  refine kont_of_hx cx_ok hb 200 ?_
  simp only [go_sem, Nat.reduceAdd, Nat.reduceSub, Nat.reduceMul, Nat.reduceBEq, Nat.reduceLT, Nat.reduceLeDiff, Nat.reduceEqDiff, Int.reduceToNat, Int.reduceLE, Int.reduceLT, Int.reduceAdd, Int.reduceSub, Int.reduceNeg, Int.reduceBEq, Int.reduceBNe, Nat.reduceBNe, Nat.reduceDiv, Nat.reduceMod]
/-- Is it a packet that came to the leaf? -/
def atB (l : List Ev) (leaf k : Int) : Bool := decide (0 ≤ k) && (decide (k < l.length) && ((l.getD k.toNat default).inn && ((l.getD k.toNat default).cls == leaf)))
theorem latestM_ok (T L : Int) (a d b : Nat) (l : List Ev) (leaf k : Int) (ha : a < 18446744073709551616) (hd : d < 18446744073709551616) (hb0 : b < 18446744073709551616) (hm : mayL T L = true) (hat : atB l leaf k = false) :
    AFn Tryz.prog 7 [cfg T L, crv a d b, evs l, dint leaf, dint k] (Ret (.tup [u64 0, dint 6])) := by
  by_cases h0 : k < 0
  · refine AFn_hxk 0 cx_ok 200 Tryz.func7 rfl Tryz.ntmps7 Tryz.results7 rfl fun base w hb => ?_
    simp only [go_sem, Nat.reduceAdd, Nat.reduceSub, Nat.reduceMul, Nat.reduceBEq, Nat.reduceLT, Nat.reduceLeDiff, Nat.reduceEqDiff, Int.reduceToNat, Int.reduceLE, Int.reduceLT, Int.reduceAdd, Int.reduceSub, Int.reduceNeg, Int.reduceBEq, Int.reduceBNe, Nat.reduceBNe, Nat.reduceDiv, Nat.reduceMod]
    refine kont_call hb fn6 rfl ?_ (delay_ok T L a d b 0 ha hd hb0 (by decide) hm) (Ret.flat rfl) rfl fun d h hR => ?_
    · simp only [go_sem, Nat.reduceAdd, Nat.reduceSub, Nat.reduceMul, Nat.reduceBEq, Nat.reduceLT, Nat.reduceLeDiff, Nat.reduceEqDiff, Int.reduceToNat, Int.reduceLE, Int.reduceLT, Int.reduceAdd, Int.reduceSub, Int.reduceNeg, Int.reduceBEq, Int.reduceBNe, Nat.reduceBNe, Nat.reduceDiv, Nat.reduceMod, decide_eq_true h0, Go.undef]
    obtain ⟨rfl, rfl⟩ := hR
    refine kont_of_hx cx_ok hb 200 ?_
    simp only [go_sem, Nat.reduceAdd, Nat.reduceSub, Nat.reduceMul, Nat.reduceBEq, Nat.reduceLT, Nat.reduceLeDiff, Nat.reduceEqDiff, Int.reduceToNat, Int.reduceLE, Int.reduceLT, Int.reduceAdd, Int.reduceSub, Int.reduceNeg, Int.reduceBEq, Int.reduceBNe, Nat.reduceBNe, Nat.reduceDiv, Nat.reduceMod, decide_eq_true h0, Go.undef]
  · obtain ⟨j, rfl⟩ : ∃ j : Nat, k = (j : Int) := ⟨k.toNat, by omega⟩
    by_cases h1 : j < l.length
    · have hat2 : ((l.getD j default).inn && ((l.getD j default).cls == leaf)) = false := by
        rw [atB, decide_eq_true (by omega), decide_eq_true (by omega)] at hat
        simpa using hat
      cases hi : (l.getD j default).inn
      · refine AFn_hxk 0 cx_ok 200 Tryz.func7 rfl Tryz.ntmps7 Tryz.results7 rfl fun base w hb => ?_
        simp only [go_sem, Nat.reduceAdd, Nat.reduceSub, Nat.reduceMul, Nat.reduceBEq, Nat.reduceLT, Nat.reduceLeDiff, Nat.reduceEqDiff, Int.reduceToNat, Int.reduceLE, Int.reduceLT, Int.reduceAdd, Int.reduceSub, Int.reduceNeg, Int.reduceBEq, Int.reduceBNe, Nat.reduceBNe, Nat.reduceDiv, Nat.reduceMod]
        refine kont_call hb fn6 rfl ?_ (delay_ok T L a d b 0 ha hd hb0 (by decide) hm) (Ret.flat rfl) rfl fun d h hR => ?_
        · simp only [go_sem, Nat.reduceAdd, Nat.reduceSub, Nat.reduceMul, Nat.reduceBEq, Nat.reduceLT, Nat.reduceLeDiff, Nat.reduceEqDiff, Int.reduceToNat, Int.reduceLE, Int.reduceLT, Int.reduceAdd, Int.reduceSub, Int.reduceNeg, Int.reduceBEq, Int.reduceBNe, Nat.reduceBNe, Nat.reduceDiv, Nat.reduceMod, decide_eq_false h0, decide_eq_false (show ¬ l.length ≤ j by omega), h1, hi, Go.undef]
        obtain ⟨rfl, rfl⟩ := hR
        refine kont_of_hx cx_ok hb 200 ?_
        simp only [go_sem, Nat.reduceAdd, Nat.reduceSub, Nat.reduceMul, Nat.reduceBEq, Nat.reduceLT, Nat.reduceLeDiff, Nat.reduceEqDiff, Int.reduceToNat, Int.reduceLE, Int.reduceLT, Int.reduceAdd, Int.reduceSub, Int.reduceNeg, Int.reduceBEq, Int.reduceBNe, Nat.reduceBNe, Nat.reduceDiv, Nat.reduceMod, decide_eq_false h0, decide_eq_false (show ¬ l.length ≤ j by omega), h1, hi, Go.undef]
      · have hc : ((l.getD j default).cls == leaf) = false := by rw [hi] at hat2; simpa using hat2
        refine AFn_hxk 0 cx_ok 200 Tryz.func7 rfl Tryz.ntmps7 Tryz.results7 rfl fun base w hb => ?_
        simp only [go_sem, Nat.reduceAdd, Nat.reduceSub, Nat.reduceMul, Nat.reduceBEq, Nat.reduceLT, Nat.reduceLeDiff, Nat.reduceEqDiff, Int.reduceToNat, Int.reduceLE, Int.reduceLT, Int.reduceAdd, Int.reduceSub, Int.reduceNeg, Int.reduceBEq, Int.reduceBNe, Nat.reduceBNe, Nat.reduceDiv, Nat.reduceMod]
        refine kont_call hb fn6 rfl ?_ (delay_ok T L a d b 0 ha hd hb0 (by decide) hm) (Ret.flat rfl) rfl fun d h hR => ?_
        · simp only [go_sem, Nat.reduceAdd, Nat.reduceSub, Nat.reduceMul, Nat.reduceBEq, Nat.reduceLT, Nat.reduceLeDiff, Nat.reduceEqDiff, Int.reduceToNat, Int.reduceLE, Int.reduceLT, Int.reduceAdd, Int.reduceSub, Int.reduceNeg, Int.reduceBEq, Int.reduceBNe, Nat.reduceBNe, Nat.reduceDiv, Nat.reduceMod, decide_eq_false h0, decide_eq_false (show ¬ l.length ≤ j by omega), h1, hi, hc, bne, Go.undef]
        obtain ⟨rfl, rfl⟩ := hR
        refine kont_of_hx cx_ok hb 200 ?_
        simp only [go_sem, Nat.reduceAdd, Nat.reduceSub, Nat.reduceMul, Nat.reduceBEq, Nat.reduceLT, Nat.reduceLeDiff, Nat.reduceEqDiff, Int.reduceToNat, Int.reduceLE, Int.reduceLT, Int.reduceAdd, Int.reduceSub, Int.reduceNeg, Int.reduceBEq, Int.reduceBNe, Nat.reduceBNe, Nat.reduceDiv, Nat.reduceMod, decide_eq_false h0, decide_eq_false (show ¬ l.length ≤ j by omega), h1, hi, hc, bne, Go.undef]
    · refine AFn_hxk 0 cx_ok 200 Tryz.func7 rfl Tryz.ntmps7 Tryz.results7 rfl fun base w hb => ?_
      simp only [go_sem, Nat.reduceAdd, Nat.reduceSub, Nat.reduceMul, Nat.reduceBEq, Nat.reduceLT, Nat.reduceLeDiff, Nat.reduceEqDiff, Int.reduceToNat, Int.reduceLE, Int.reduceLT, Int.reduceAdd, Int.reduceSub, Int.reduceNeg, Int.reduceBEq, Int.reduceBNe, Nat.reduceBNe, Nat.reduceDiv, Nat.reduceMod]
      refine kont_call hb fn6 rfl ?_ (delay_ok T L a d b 0 ha hd hb0 (by decide) hm) (Ret.flat rfl) rfl fun d h hR => ?_
      · simp only [go_sem, Nat.reduceAdd, Nat.reduceSub, Nat.reduceMul, Nat.reduceBEq, Nat.reduceLT, Nat.reduceLeDiff, Nat.reduceEqDiff, Int.reduceToNat, Int.reduceLE, Int.reduceLT, Int.reduceAdd, Int.reduceSub, Int.reduceNeg, Int.reduceBEq, Int.reduceBNe, Nat.reduceBNe, Nat.reduceDiv, Nat.reduceMod, decide_eq_false h0, decide_eq_true (show l.length ≤ j by omega), Go.undef]
      obtain ⟨rfl, rfl⟩ := hR
      refine kont_of_hx cx_ok hb 200 ?_
      simp only [go_sem, Nat.reduceAdd, Nat.reduceSub, Nat.reduceMul, Nat.reduceBEq, Nat.reduceLT, Nat.reduceLeDiff, Nat.reduceEqDiff, Int.reduceToNat, Int.reduceLE, Int.reduceLT, Int.reduceAdd, Int.reduceSub, Int.reduceNeg, Int.reduceBEq, Int.reduceBNe, Nat.reduceBNe, Nat.reduceDiv, Nat.reduceMod, decide_eq_false h0, decide_eq_true (show l.length ≤ j by omega), Go.undef]
end Go.Fg.X
namespace Go.Fg.X
open Go.Proofs Go.Fg
set_option maxRecDepth 100000
set_option maxHeartbeats 4000000
set_option linter.unusedSimpArgs false
set_option linter.unusedVariables false
theorem came_law (leaf : Int) (j k : Nat) (l : List Ev) (ho : ∀ e ∈ l, e.Ok) : ∀ i, i ≤ l.length → rcF leaf j k l i = byS ((l.take (min i (k + 1))).drop j) [leaf] (cameB 0 18446744073709551615)
  | 0, _ => by simp [rcF, byS]
  | i + 1, h => by
    have hi : i < l.length := by omega
    have ih := came_law leaf j k l ho i (by omega)
    obtain ⟨e, he⟩ : ∃ e, e = l.getD i default := ⟨_, rfl⟩
    have heo := ho e (by rw [he]; exact getD_memA hi)
    have hat := wf_u64 heo.2.1
    have hS : rcF leaf j k l i < 18446744073709551616 := rcF_lt _ _ _ _ _
    have hcb : cameB 0 18446744073709551615 e = e.inn := by
      unfold cameB
      rw [decide_eq_true (show ((0 : Nat) : Int) ≤ e.at_ by omega), decide_eq_true (show e.at_ ≤ ((18446744073709551615 : Nat) : Int) by omega)]
      simp
    rw [rcF, ← he]
    by_cases h1 : i ≤ k
    · have e1 : min (i + 1) (k + 1) = i + 1 := by omega
      have e2 : min i (k + 1) = i := by omega
      rw [e2] at ih
      have htk : l.take (i + 1) = l.take i ++ [e] := by rw [List.take_add_one, List.getElem?_eq_getElem hi, Option.toList_some, he, List.getD_eq_getElem?_getD, List.getElem?_eq_getElem hi]; rfl
      by_cases h2 : j ≤ i
      · have hdr : (l.take (i + 1)).drop j = (l.take i).drop j ++ [e] := by rw [htk, List.drop_append_of_le_length (by simp; omega)]
        rw [e1, hdr, byS, List.foldl_append]
        show _ = byF [leaf] _ (byS ((l.take i).drop j) [leaf] _) e
        rw [← ih, byF, hcb, decide_eq_true h2, decide_eq_true h1]
        have hct : [leaf].contains e.cls = (e.cls == leaf) := by rw [Bool.eq_iff_iff]; simp
        rw [hct]
        cases e.inn <;> cases (e.cls == leaf) <;> simp
        intro h3
        have : e.len.toNat = 0 := by omega
        rw [this]; omega
      · have hdr : (l.take (i + 1)).drop j = (l.take i).drop j := by
          rw [List.drop_eq_nil_of_le (by simp; omega), List.drop_eq_nil_of_le (by simp; omega)]
        rw [e1, hdr, ← ih, decide_eq_false h2]
        simp
    · have e1 : min (i + 1) (k + 1) = min i (k + 1) := by omega
      rw [e1, ← ih, decide_eq_false h1]
      simp
theorem came_law' (leaf : Int) (j k : Nat) (l : List Ev) (ho : ∀ e ∈ l, e.Ok) (hk : k < l.length) : rcF leaf j k l l.length = camV ((l.take (k + 1)).drop j) [leaf] 0 18446744073709551615 := by
  rw [came_law leaf j k l ho l.length (Nat.le_refl _), Nat.min_eq_right (by omega)]; rfl
theorem rlatest_ok (T L : Int) (a d b : Nat) (l : List Ev) (leaf : Int) (k : Nat) (ha : a < 18446744073709551616) (hd : d < 18446744073709551616) (hb0 : b < 18446744073709551616) (hl : l.length < 2147483648) (ho : ∀ e ∈ l, e.Ok) (hm : mayL T L = true) (hk : k < l.length) :
    AFn Tryz.prog 10 [cfg T L, crv a d b, evs l, dint leaf, dint k] (Ret (u64 (latV T L a d b (l.take (k + 1)) leaf))) := by
  have hk3 : (k : Int) + 1 ≤ (l.length : Int) := by omega
  have hwr := wrap_succ (show k < 4611686018427387904 by omega)
  refine AFn_hxk 0 cx_ok 200 Tryz.func10 rfl Tryz.ntmps10 Tryz.results10 rfl fun base w hb => ?_
  simp only [go_sem, Nat.reduceAdd, Nat.reduceSub, Nat.reduceMul, Nat.reduceBEq, Nat.reduceLT, Nat.reduceLeDiff, Nat.reduceEqDiff, Int.reduceToNat, Int.reduceLE, Int.reduceLT, Int.reduceAdd, Int.reduceSub, Int.reduceNeg, Int.reduceBEq, Int.reduceBNe, Nat.reduceBNe, Nat.reduceDiv, Nat.reduceMod]
  have hu : (l.take (k + 1)).length = k + 1 := by simp; omega
  have hgd : ∀ i, i < k + 1 → (l.take (k + 1)).getD i default = l.getD i default := fun i hi => by simp only [List.getD_eq_getElem?_getD, List.getElem?_take, if_pos hi]
  obtain ⟨u, huu⟩ : ∃ u, u = l.take (k + 1) := ⟨_, rfl⟩
  have hcame := fun j => came_law' leaf j k l ho hk
  rw [← huu] at hu hgd hcame ⊢
  have huo : ∀ e ∈ u, e.Ok := fun e he => ho e (by rw [huu] at he; exact List.mem_of_mem_take he)
  simp only [hwr, hk3, go_sem, Nat.reduceAdd, Nat.reduceSub, Nat.reduceMul, Nat.reduceBEq, Nat.reduceLT, Nat.reduceLeDiff, Nat.reduceEqDiff, Int.reduceToNat, Int.reduceLE, Int.reduceLT, Int.reduceAdd, Int.reduceSub, Int.reduceNeg, Int.reduceBEq, Int.reduceBNe, Nat.reduceBNe, Nat.reduceDiv, Nat.reduceMod]
  refine And.intro (by omega) ?_
  have hof := SP.rof_ok u [leaf] (by omega) (by simp)
  rw [SP.spans_law] at hof
  refine kont_call hb fn29 rfl ?_ hof (RetL.flat fun x => rfl) rfl fun v h' hR => ?_
  · simp only [go_sem, Nat.reduceAdd, Nat.reduceSub, Nat.reduceMul, Nat.reduceBEq, Nat.reduceLT, Nat.reduceLeDiff, Nat.reduceEqDiff, Int.reduceToNat, Int.reduceLE, Int.reduceLT, Int.reduceAdd, Int.reduceSub, Int.reduceNeg, Int.reduceBEq, Int.reduceBNe, Nat.reduceBNe, Nat.reduceDiv, Nat.reduceMod, hu]
    refine ⟨⟨by omega, fun i hi => by rw [hgd i hi]⟩, fun i hi => ?_⟩
    obtain rfl : i = 0 := by omega
    rfl
  obtain ⟨g0, rfl, rfl⟩ := hR
  refine kont_of_hx cx_ok hb 200 ?_
  simp only [go_sem, Nat.reduceAdd, Nat.reduceSub, Nat.reduceMul, Nat.reduceBEq, Nat.reduceLT, Nat.reduceLeDiff, Nat.reduceEqDiff, Int.reduceToNat, Int.reduceLE, Int.reduceLT, Int.reduceAdd, Int.reduceSub, Int.reduceNeg, Int.reduceBEq, Int.reduceBNe, Nat.reduceBNe, Nat.reduceDiv, Nat.reduceMod]
  obtain ⟨Sl, hSl⟩ : ∃ Sl, Sl = SP.spAt [leaf] u u.length := ⟨_, rfl⟩
  have hSlen := SP.spAt_len [leaf] u u.length
  rw [← hSl] at hSlen ⊢
  have hlv : latV T L a d b u leaf = Sl.foldl (fun m s => max m (sentV T L a d b u leaf s)) 0 := by rw [hSl]; rfl
  rw [hlv]
  refine kont_for (fun i s => s = ⟨[(2, evs l), (3, dint leaf), (4, dint k), (5, .ptr 0 0 0 0), (6, .ptr 1 0 0 0), (11, u64 ((Sl.take i).foldl (fun m s => max m (sentV T L a d b u leaf s)) 0)), (21, .ref 3 g0 0 Sl.length), (22, dint Sl.length), (23, dint i)],
    [⟨.one, 0, 2, 1, fun _ => [dint T, dint L]⟩, ⟨.one, 0, 3, 1, fun _ => [u64 a, u64 d, u64 b]⟩, ⟨.arr, 0, 1, 1, fun _ => [dint leaf]⟩, ⟨.arr, g0, 5, Sl.length, fun i => (Sl.getD i default).cells⟩]⟩) Sl.length
    (Weak.to 4 ⟨by simp only [go_sem, Nat.reduceAdd, Nat.reduceSub, Nat.reduceMul, Nat.reduceBEq, Nat.reduceLT, Nat.reduceLeDiff, Nat.reduceEqDiff, Int.reduceToNat, Int.reduceLE, Int.reduceLT, Int.reduceAdd, Int.reduceSub, Int.reduceNeg, Int.reduceBEq, Int.reduceBNe, Nat.reduceBNe, Nat.reduceDiv, Nat.reduceMod, List.foldl_nil], by simp only [go_sem, Nat.reduceAdd, Nat.reduceSub, Nat.reduceMul, Nat.reduceBEq, Nat.reduceLT, Nat.reduceLeDiff, Nat.reduceEqDiff, Int.reduceToNat, Int.reduceLE, Int.reduceLT, Int.reduceAdd, Int.reduceSub, Int.reduceNeg, Int.reduceBEq, Int.reduceBNe, Nat.reduceBNe, Nat.reduceDiv, Nat.reduceMod], by simp only [go_sem, Nat.reduceAdd, Nat.reduceSub, Nat.reduceMul, Nat.reduceBEq, Nat.reduceLT, Nat.reduceLeDiff, Nat.reduceEqDiff, Int.reduceToNat, Int.reduceLE, Int.reduceLT, Int.reduceAdd, Int.reduceSub, Int.reduceNeg, Int.reduceBEq, Int.reduceBNe, Nat.reduceBNe, Nat.reduceDiv, Nat.reduceMod], by simp only [go_sem, Nat.reduceAdd, Nat.reduceSub, Nat.reduceMul, Nat.reduceBEq, Nat.reduceLT, Nat.reduceLeDiff, Nat.reduceEqDiff, Int.reduceToNat, Int.reduceLE, Int.reduceLT, Int.reduceAdd, Int.reduceSub, Int.reduceNeg, Int.reduceBEq, Int.reduceBNe, Nat.reduceBNe, Nat.reduceDiv, Nat.reduceMod]⟩) rfl ?_
  rintro i s hi2 rfl
  have hwr2 := wrap_succ (show i < 4611686018427387904 by omega)
  obtain ⟨S, hS⟩ : ∃ S, S = (Sl.take i).foldl (fun m s => max m (sentV T L a d b u leaf s)) 0 := ⟨_, rfl⟩
  rw [← hS]
  refine kont_of_hx cx_ok hb 200 ?_
  simp only [go_sem, Nat.reduceAdd, Nat.reduceSub, Nat.reduceMul, Nat.reduceBEq, Nat.reduceLT, Nat.reduceLeDiff, Nat.reduceEqDiff, Int.reduceToNat, Int.reduceLE, Int.reduceLT, Int.reduceAdd, Int.reduceSub, Int.reduceNeg, Int.reduceBEq, Int.reduceBNe, Nat.reduceBNe, Nat.reduceDiv, Nat.reduceMod]
  first | refine hite_lt hi2 (fun hk1 => ?_) (fun hk1 => ?_) | refine hite_ltI hi2 (fun hk1 => ?_) (fun hk1 => ?_)
  · obtain ⟨x, hx⟩ : ∃ x, x = Sl.getD i default := ⟨_, rfl⟩
    have hst := foldl_succ (fun m s => max m (sentV T L a d b u leaf s)) 0 Sl i hk1
    rw [← hS, ← hx] at hst
    obtain ⟨j, hj, hxf, hxj⟩ : ∃ j, j < u.length ∧ x.frm = (u.getD j default).at_ ∧ x.fst = (j : Int) := by
      have hm : x ∈ SP.spAt [leaf] u u.length := by rw [hx, ← hSl]; exact getD_memA hk1
      rw [SP.spAt_map, List.mem_map] at hm
      obtain ⟨a, ha, hxa⟩ := hm
      have h1 := SP.isOpen_at [leaf] u a u.length
      rw [hxa] at h1
      exact ⟨a, SP.starts_lt [leaf] u u.length a ha, h1.1, h1.2⟩
    have hat := wf_u64 (huo _ (getD_memA hj)).2.1
    obtain ⟨fr, hfr⟩ : ∃ n : Nat, x.frm = (n : Int) := ⟨x.frm.toNat, by omega⟩
    obtain ⟨cm, hcm⟩ : ∃ cm, cm = camV (u.drop j) [leaf] 0 18446744073709551615 := ⟨_, rfl⟩
    have hcl : cm < 18446744073709551616 := by rw [hcm]; exact camV_lt _ _ _ _
    have hse : sentV T L a d b u leaf x = togV fr (delV T L a d b cm) := by rw [sentV, hxj, hfr, hcm]; rfl
    have hrc := rcame38_ok l leaf j k hl ho
    rw [hcame j, ← hcm] at hrc
    simp only [go_sem, Nat.reduceAdd, Nat.reduceSub, Nat.reduceMul, Nat.reduceBEq, Nat.reduceLT, Nat.reduceLeDiff, Nat.reduceEqDiff, Int.reduceToNat, Int.reduceLE, Int.reduceLT, Int.reduceAdd, Int.reduceSub, Int.reduceNeg, Int.reduceBEq, Int.reduceBNe, Nat.reduceBNe, Nat.reduceDiv, Nat.reduceMod, hk1, ← hx]
    refine kont_hax cx_ok hb 200 mixed [(0, true), (1, true), (2, true), (3, true), (4, true), (5, true), (6, true), (7, true), (8, true), (9, false), (10, false), (11, false), (12, true)] (by kernel_rfl) (by kernel_rfl) ?_
    simp only [go_sem, Nat.reduceAdd, Nat.reduceSub, Nat.reduceMul, Nat.reduceBEq, Nat.reduceLT, Nat.reduceLeDiff, Nat.reduceEqDiff, Int.reduceToNat, Int.reduceLE, Int.reduceLT, Int.reduceAdd, Int.reduceSub, Int.reduceNeg, Int.reduceBEq, Int.reduceBNe, Nat.reduceBNe, Nat.reduceDiv, Nat.reduceMod, hxj, hfr]
    refine AX_call hb fn30 rfl ?_ hrc (Ret.flat rfl) rfl fun d h hR => ?_
    · simp only [go_sem, Nat.reduceAdd, Nat.reduceSub, Nat.reduceMul, Nat.reduceBEq, Nat.reduceLT, Nat.reduceLeDiff, Nat.reduceEqDiff, Int.reduceToNat, Int.reduceLE, Int.reduceLT, Int.reduceAdd, Int.reduceSub, Int.reduceNeg, Int.reduceBEq, Int.reduceBNe, Nat.reduceBNe, Nat.reduceDiv, Nat.reduceMod, hxj, hfr]
    obtain ⟨rfl, rfl⟩ := hR
    refine AX_of_hax cx_ok hb ?_
    simp only [go_sem, Nat.reduceAdd, Nat.reduceSub, Nat.reduceMul, Nat.reduceBEq, Nat.reduceLT, Nat.reduceLeDiff, Nat.reduceEqDiff, Int.reduceToNat, Int.reduceLE, Int.reduceLT, Int.reduceAdd, Int.reduceSub, Int.reduceNeg, Int.reduceBEq, Int.reduceBNe, Nat.reduceBNe, Nat.reduceDiv, Nat.reduceMod, hxj, hfr]
    refine AX_call hb fn9 rfl ?_ (rdelay_ok T L a d b cm ha hd hb0 hcl hm) (Ret.flat rfl) rfl fun d h hR => ?_
    · simp only [go_sem, Nat.reduceAdd, Nat.reduceSub, Nat.reduceMul, Nat.reduceBEq, Nat.reduceLT, Nat.reduceLeDiff, Nat.reduceEqDiff, Int.reduceToNat, Int.reduceLE, Int.reduceLT, Int.reduceAdd, Int.reduceSub, Int.reduceNeg, Int.reduceBEq, Int.reduceBNe, Nat.reduceBNe, Nat.reduceDiv, Nat.reduceMod, hxj, hfr]
    obtain ⟨rfl, rfl⟩ := hR
    refine AX_of_hax cx_ok hb ?_
    simp only [go_sem, Nat.reduceAdd, Nat.reduceSub, Nat.reduceMul, Nat.reduceBEq, Nat.reduceLT, Nat.reduceLeDiff, Nat.reduceEqDiff, Int.reduceToNat, Int.reduceLE, Int.reduceLT, Int.reduceAdd, Int.reduceSub, Int.reduceNeg, Int.reduceBEq, Int.reduceBNe, Nat.reduceBNe, Nat.reduceDiv, Nat.reduceMod, hxj, hfr]
    refine AX_call hb fn26 rfl ?_ (rtogether_ok fr (delV T L a d b cm) (by omega) (by have := togV_le (tickV a d b (cm * 65536)) (T.toNat * L.toNat); unfold delV; omega)) (Ret.flat rfl) rfl fun d h hR => ?_
    · simp only [go_sem, Nat.reduceAdd, Nat.reduceSub, Nat.reduceMul, Nat.reduceBEq, Nat.reduceLT, Nat.reduceLeDiff, Nat.reduceEqDiff, Int.reduceToNat, Int.reduceLE, Int.reduceLT, Int.reduceAdd, Int.reduceSub, Int.reduceNeg, Int.reduceBEq, Int.reduceBNe, Nat.reduceBNe, Nat.reduceDiv, Nat.reduceMod, hxj, hfr]
    obtain ⟨rfl, rfl⟩ := hR
    refine AX_of_hax cx_ok hb ?_
    simp only [go_sem, Nat.reduceAdd, Nat.reduceSub, Nat.reduceMul, Nat.reduceBEq, Nat.reduceLT, Nat.reduceLeDiff, Nat.reduceEqDiff, Int.reduceToNat, Int.reduceLE, Int.reduceLT, Int.reduceAdd, Int.reduceSub, Int.reduceNeg, Int.reduceBEq, Int.reduceBNe, Nat.reduceBNe, Nat.reduceDiv, Nat.reduceMod, hxj, hfr]
    by_cases hlt : S < togV fr (delV T L a d b cm)
    · have hst2 : (Sl.take (i + 1)).foldl (fun m s => max m (sentV T L a d b u leaf s)) 0 = togV fr (delV T L a d b cm) := by rw [hst, hse]; omega
      simp only [go_sem, Nat.reduceAdd, Nat.reduceSub, Nat.reduceMul, Nat.reduceBEq, Nat.reduceLT, Nat.reduceLeDiff, Nat.reduceEqDiff, Int.reduceToNat, Int.reduceLE, Int.reduceLT, Int.reduceAdd, Int.reduceSub, Int.reduceNeg, Int.reduceBEq, Int.reduceBNe, Nat.reduceBNe, Nat.reduceDiv, Nat.reduceMod, decide_eq_true hlt]
      refine ⟨hk1, _, Weak.to 4 ⟨?_, by simp only [go_sem, Nat.reduceAdd, Nat.reduceSub, Nat.reduceMul, Nat.reduceBEq, Nat.reduceLT, Nat.reduceLeDiff, Nat.reduceEqDiff, Int.reduceToNat, Int.reduceLE, Int.reduceLT, Int.reduceAdd, Int.reduceSub, Int.reduceNeg, Int.reduceBEq, Int.reduceBNe, Nat.reduceBNe, Nat.reduceDiv, Nat.reduceMod], by simp only [go_sem, Nat.reduceAdd, Nat.reduceSub, Nat.reduceMul, Nat.reduceBEq, Nat.reduceLT, Nat.reduceLeDiff, Nat.reduceEqDiff, Int.reduceToNat, Int.reduceLE, Int.reduceLT, Int.reduceAdd, Int.reduceSub, Int.reduceNeg, Int.reduceBEq, Int.reduceBNe, Nat.reduceBNe, Nat.reduceDiv, Nat.reduceMod], by simp only [go_sem, Nat.reduceAdd, Nat.reduceSub, Nat.reduceMul, Nat.reduceBEq, Nat.reduceLT, Nat.reduceLeDiff, Nat.reduceEqDiff, Int.reduceToNat, Int.reduceLE, Int.reduceLT, Int.reduceAdd, Int.reduceSub, Int.reduceNeg, Int.reduceBEq, Int.reduceBNe, Nat.reduceBNe, Nat.reduceDiv, Nat.reduceMod]⟩, rfl⟩
      simp only [go_sem, Nat.reduceAdd, Nat.reduceSub, Nat.reduceMul, Nat.reduceBEq, Nat.reduceLT, Nat.reduceLeDiff, Nat.reduceEqDiff, Int.reduceToNat, Int.reduceLE, Int.reduceLT, Int.reduceAdd, Int.reduceSub, Int.reduceNeg, Int.reduceBEq, Int.reduceBNe, Nat.reduceBNe, Nat.reduceDiv, Nat.reduceMod, hwr2, hst2]
    · have hst2 : (Sl.take (i + 1)).foldl (fun m s => max m (sentV T L a d b u leaf s)) 0 = S := by rw [hst, hse]; omega
      simp only [go_sem, Nat.reduceAdd, Nat.reduceSub, Nat.reduceMul, Nat.reduceBEq, Nat.reduceLT, Nat.reduceLeDiff, Nat.reduceEqDiff, Int.reduceToNat, Int.reduceLE, Int.reduceLT, Int.reduceAdd, Int.reduceSub, Int.reduceNeg, Int.reduceBEq, Int.reduceBNe, Nat.reduceBNe, Nat.reduceDiv, Nat.reduceMod, decide_eq_false hlt]
      refine ⟨hk1, _, Weak.to 4 ⟨?_, by simp only [go_sem, Nat.reduceAdd, Nat.reduceSub, Nat.reduceMul, Nat.reduceBEq, Nat.reduceLT, Nat.reduceLeDiff, Nat.reduceEqDiff, Int.reduceToNat, Int.reduceLE, Int.reduceLT, Int.reduceAdd, Int.reduceSub, Int.reduceNeg, Int.reduceBEq, Int.reduceBNe, Nat.reduceBNe, Nat.reduceDiv, Nat.reduceMod], by simp only [go_sem, Nat.reduceAdd, Nat.reduceSub, Nat.reduceMul, Nat.reduceBEq, Nat.reduceLT, Nat.reduceLeDiff, Nat.reduceEqDiff, Int.reduceToNat, Int.reduceLE, Int.reduceLT, Int.reduceAdd, Int.reduceSub, Int.reduceNeg, Int.reduceBEq, Int.reduceBNe, Nat.reduceBNe, Nat.reduceDiv, Nat.reduceMod], by simp only [go_sem, Nat.reduceAdd, Nat.reduceSub, Nat.reduceMul, Nat.reduceBEq, Nat.reduceLT, Nat.reduceLeDiff, Nat.reduceEqDiff, Int.reduceToNat, Int.reduceLE, Int.reduceLT, Int.reduceAdd, Int.reduceSub, Int.reduceNeg, Int.reduceBEq, Int.reduceBNe, Nat.reduceBNe, Nat.reduceDiv, Nat.reduceMod]⟩, rfl⟩
      simp only [go_sem, Nat.reduceAdd, Nat.reduceSub, Nat.reduceMul, Nat.reduceBEq, Nat.reduceLT, Nat.reduceLeDiff, Nat.reduceEqDiff, Int.reduceToNat, Int.reduceLE, Int.reduceLT, Int.reduceAdd, Int.reduceSub, Int.reduceNeg, Int.reduceBEq, Int.reduceBNe, Nat.reduceBNe, Nat.reduceDiv, Nat.reduceMod, hwr2, hst2]
  · subst hk1
    rw [List.take_length] at hS
    rw [← hS]
    refine kont_of_hx cx_ok hb 200 ?_
    simp only [go_sem, Nat.reduceAdd, Nat.reduceSub, Nat.reduceMul, Nat.reduceBEq, Nat.reduceLT, Nat.reduceLeDiff, Nat.reduceEqDiff, Int.reduceToNat, Int.reduceLE, Int.reduceLT, Int.reduceAdd, Int.reduceSub, Int.reduceNeg, Int.reduceBEq, Int.reduceBNe, Nat.reduceBNe, Nat.reduceDiv, Nat.reduceMod]
end Go.Fg.X
