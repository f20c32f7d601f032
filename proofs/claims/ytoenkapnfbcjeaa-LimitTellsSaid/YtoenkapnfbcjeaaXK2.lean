/- Walks of the functions that the statement reaches. No conditions: contracts and laws. -/
import Derived.Test.YtoenkapnfbcjeaaXK1
namespace Go.Fg.X
open Go.Proofs Go.Fg
set_option maxRecDepth 100000
set_option maxHeartbeats 4000000
set_option linter.unusedSimpArgs false
set_option linter.unusedVariables false
def RetM (d : D) (hs : List Ob) : D → List Ob → Prop := fun d' h => d' = d ∧ h = hs
attribute [go_sem] RetM
@[go_sem] def ob1 (n : Nat) : Ob := ⟨.one, 0, 1, 1, fun _ => [u64 n]⟩
@[go_sem] def ob2 (n : Nat) : Ob := ⟨.one, 0, 2, 1, fun _ => [u64 (n / 18446744073709551616), u64 (n % 18446744073709551616)]⟩
/-- What came to a class: a tick, and bytes. -/
structure Cm where
  t : Nat
  b : Nat
instance : Inhabited Cm := ⟨⟨0, 0⟩⟩
structure Bu where
  last : Nat
  sum : Nat
  fill : Nat
  most : Nat
def capB (b : Nat) : Nat := min b 1099511627777
def Bu.next (m : Nat) (s : Bu) (c : Cm) : Bu := ⟨c.t, capB (s.sum + capB c.b), (s.fill - m * (c.t - s.last)) + capB c.b * 65536, max s.most ((s.fill - m * (c.t - s.last)) + capB c.b * 65536)⟩
theorem capB_le (b : Nat) : capB b ≤ 1099511627777 := Nat.min_le_right _ _
theorem capI (b : Nat) : min (b : Int) 1099511627777 = ((capB b : Nat) : Int) := by unfold capB; omega
theorem burst1_ok (m : Nat) (s : Bu) (c : Cm) (hm : m < 18446744073709551616) (ht : c.t < 18446744073709551616) (hbb : c.b < 18446744073709551616) (hl : s.last < 18446744073709551616) (hs : s.sum ≤ 1099511627777) (hf : s.fill < 2 ^ 127) (hmo : s.most < 2 ^ 128) :
    MFn Try.prog 69 [ob1 m, ob1 s.last, ob1 s.sum, ob2 s.fill, ob2 s.most] [u64 c.t, u64 c.b, .ptr 1 0 0 0, .ptr 3 0 0 0, .ptr 0 0 0 0, .ptr 4 0 0 0, .ptr 2 0 0 0]
      (fun d h => (c.t < s.last ∧ d = dint 27 ∧ h = [ob1 m, ob1 s.last, ob1 s.sum, ob2 s.fill, ob2 s.most]) ∨
        (¬ c.t < s.last ∧ d = dint 0 ∧ h = [ob1 m, ob1 (s.next m c).last, ob1 (s.next m c).sum, ob2 (s.next m c).fill, ob2 (s.next m c).most])) := by
  refine MFn_hxk 5 cx_ok 200 Try.func69 rfl rfl Try.ntmps69 Try.results69 rfl fun base w pl hb => ?_
  simp only [go_sem, Nat.reduceAdd, Nat.reduceSub, Nat.reduceMul, Nat.reduceBEq, Nat.reduceLT, Nat.reduceLeDiff, Nat.reduceEqDiff, Int.reduceToNat, Int.reduceLE, Int.reduceLT, Int.reduceAdd, Int.reduceSub, Int.reduceNeg, Int.reduceBEq, Int.reduceBNe, Nat.reduceBNe, Nat.reduceDiv, Nat.reduceMod]
  by_cases h : c.t < s.last
  · have e1 : decide (c.t < s.last) = true := decide_eq_true h
    simp only [go_sem, Nat.reduceAdd, Nat.reduceSub, Nat.reduceMul, Nat.reduceBEq, Nat.reduceLT, Nat.reduceLeDiff, Nat.reduceEqDiff, Int.reduceToNat, Int.reduceLE, Int.reduceLT, Int.reduceAdd, Int.reduceSub, Int.reduceNeg, Int.reduceBEq, Int.reduceBNe, Nat.reduceBNe, Nat.reduceDiv, Nat.reduceMod, e1]
    exact .inl h
  · have e1 : decide (c.t < s.last) = false := decide_eq_false h
    have e2 := wu_sub' c.t s.last (by omega) ht
    have hcap := capB_le c.b
    have hcap2 := capB_le (s.sum + capB c.b)
    have e3 := wu_add' s.sum (capB c.b) (by omega)
    obtain ⟨x, hx⟩ : ∃ x, x = m * (c.t - s.last) := ⟨_, rfl⟩
    have hxl : x < 2 ^ 128 := by
      have : m * (c.t - s.last) ≤ 18446744073709551615 * 18446744073709551615 := Nat.mul_le_mul (by omega) (by omega)
      rw [hx]; exact Nat.lt_of_le_of_lt this (by decide)
    obtain ⟨l, hll⟩ : ∃ l, l = s.fill - x := ⟨_, rfl⟩
    obtain ⟨y, hy⟩ : ∃ y, y = l + capB c.b * 65536 := ⟨_, rfl⟩
    have hn : s.next m c = ⟨c.t, capB (s.sum + capB c.b), y, max s.most y⟩ := by simp only [Bu.next, hy, hll, hx]
    have hyl : y < 2 ^ 128 := by omega
    rw [hn]
    have key : (s.fill < x → l = 0) ∧ (¬ s.fill < x → (s.fill + 2 ^ 128 - x) % 2 ^ 128 = l) := by omega
    simp only [go_sem, Nat.reduceAdd, Nat.reduceSub, Nat.reduceMul, Nat.reduceBEq, Nat.reduceLT, Nat.reduceLeDiff, Nat.reduceEqDiff, Int.reduceToNat, Int.reduceLE, Int.reduceLT, Int.reduceAdd, Int.reduceSub, Int.reduceNeg, Int.reduceBEq, Int.reduceBNe, Nat.reduceBNe, Nat.reduceDiv, Nat.reduceMod, e1]
    refine kont_hax cx_ok hb 200 mixed [(0, true), (1, true), (2, true), (3, true), (4, true), (5, false), (6, false), (7, true), (8, true), (9, true), (10, false), (11, false), (12, true)] (by kernel_rfl) (by kernel_rfl) ?_
    simp only [go_sem, Nat.reduceAdd, Nat.reduceSub, Nat.reduceMul, Nat.reduceBEq, Nat.reduceLT, Nat.reduceLeDiff, Nat.reduceEqDiff, Int.reduceToNat, Int.reduceLE, Int.reduceLT, Int.reduceAdd, Int.reduceSub, Int.reduceNeg, Int.reduceBEq, Int.reduceBNe, Nat.reduceBNe, Nat.reduceDiv, Nat.reduceMod, e2]
    refine AX_call hb fn71 rfl ?_ (mul_ok m (c.t - s.last) hm (by omega)) (Ret.flat rfl) rfl fun d h hR => ?_
    · simp only [go_sem, Nat.reduceAdd, Nat.reduceSub, Nat.reduceMul, Nat.reduceBEq, Nat.reduceLT, Nat.reduceLeDiff, Nat.reduceEqDiff, Int.reduceToNat, Int.reduceLE, Int.reduceLT, Int.reduceAdd, Int.reduceSub, Int.reduceNeg, Int.reduceBEq, Int.reduceBNe, Nat.reduceBNe, Nat.reduceDiv, Nat.reduceMod, e2]
    obtain ⟨rfl, rfl⟩ := hR
    refine AX_of_hax cx_ok hb ?_
    simp only [go_sem, Nat.reduceAdd, Nat.reduceSub, Nat.reduceMul, Nat.reduceBEq, Nat.reduceLT, Nat.reduceLeDiff, Nat.reduceEqDiff, Int.reduceToNat, Int.reduceLE, Int.reduceLT, Int.reduceAdd, Int.reduceSub, Int.reduceNeg, Int.reduceBEq, Int.reduceBNe, Nat.reduceBNe, Nat.reduceDiv, Nat.reduceMod, e2]
    rw [← hx]
    refine AX_call hb fn70 rfl ?_ (sub_ok s.fill x (by omega) hxl) (Ret.flat rfl) rfl fun d h hR => ?_
    · simp only [go_sem, Nat.reduceAdd, Nat.reduceSub, Nat.reduceMul, Nat.reduceBEq, Nat.reduceLT, Nat.reduceLeDiff, Nat.reduceEqDiff, Int.reduceToNat, Int.reduceLE, Int.reduceLT, Int.reduceAdd, Int.reduceSub, Int.reduceNeg, Int.reduceBEq, Int.reduceBNe, Nat.reduceBNe, Nat.reduceDiv, Nat.reduceMod, e2]
    obtain ⟨rfl, rfl⟩ := hR
    refine AX_of_hax cx_ok hb ?_
    simp only [go_sem, Nat.reduceAdd, Nat.reduceSub, Nat.reduceMul, Nat.reduceBEq, Nat.reduceLT, Nat.reduceLeDiff, Nat.reduceEqDiff, Int.reduceToNat, Int.reduceLE, Int.reduceLT, Int.reduceAdd, Int.reduceSub, Int.reduceNeg, Int.reduceBEq, Int.reduceBNe, Nat.reduceBNe, Nat.reduceDiv, Nat.reduceMod, e2]
    have fin : ∀ r : Int, r = (if y < s.most then -1 else if y = s.most then 0 else 1) → (decide (0 < r) = decide (s.most < y)) := by
      intro r hr
      rw [hr, decide_eq_decide]
      split
      · omega
      · split <;> omega
    cases hu : decide (s.fill < x)
    · have hl' := key.2 (of_decide_eq_false hu)
      simp only [go_sem, Nat.reduceAdd, Nat.reduceSub, Nat.reduceMul, Nat.reduceBEq, Nat.reduceLT, Nat.reduceLeDiff, Nat.reduceEqDiff, Int.reduceToNat, Int.reduceLE, Int.reduceLT, Int.reduceAdd, Int.reduceSub, Int.reduceNeg, Int.reduceBEq, Int.reduceBNe, Nat.reduceBNe, Nat.reduceDiv, Nat.reduceMod, hu, hl']
      refine kont_hax cx_ok hb 200 mixed [(0, true), (1, true), (2, true), (3, false), (4, false), (5, true), (6, true), (7, true), (8, false)] (by kernel_rfl) (by kernel_rfl) ?_
      simp only [go_sem, Nat.reduceAdd, Nat.reduceSub, Nat.reduceMul, Nat.reduceBEq, Nat.reduceLT, Nat.reduceLeDiff, Nat.reduceEqDiff, Int.reduceToNat, Int.reduceLE, Int.reduceLT, Int.reduceAdd, Int.reduceSub, Int.reduceNeg, Int.reduceBEq, Int.reduceBNe, Nat.reduceBNe, Nat.reduceDiv, Nat.reduceMod, capI]
      refine AX_call hb fn71 rfl ?_ (mul_ok (capB c.b) 65536 (by omega) (by decide)) (Ret.flat rfl) rfl fun d h hR => ?_
      · simp only [go_sem, Nat.reduceAdd, Nat.reduceSub, Nat.reduceMul, Nat.reduceBEq, Nat.reduceLT, Nat.reduceLeDiff, Nat.reduceEqDiff, Int.reduceToNat, Int.reduceLE, Int.reduceLT, Int.reduceAdd, Int.reduceSub, Int.reduceNeg, Int.reduceBEq, Int.reduceBNe, Nat.reduceBNe, Nat.reduceDiv, Nat.reduceMod, capI, c65w]
      obtain ⟨rfl, rfl⟩ := hR
      refine AX_of_hax cx_ok hb ?_
      simp only [go_sem, Nat.reduceAdd, Nat.reduceSub, Nat.reduceMul, Nat.reduceBEq, Nat.reduceLT, Nat.reduceLeDiff, Nat.reduceEqDiff, Int.reduceToNat, Int.reduceLE, Int.reduceLT, Int.reduceAdd, Int.reduceSub, Int.reduceNeg, Int.reduceBEq, Int.reduceBNe, Nat.reduceBNe, Nat.reduceDiv, Nat.reduceMod, capI, c65w]
      refine AX_call hb fn72 rfl ?_ (add_ok l (capB c.b * 65536) (by omega) (by omega)) (Ret.flat rfl) rfl fun d h hR => ?_
      · simp only [go_sem, Nat.reduceAdd, Nat.reduceSub, Nat.reduceMul, Nat.reduceBEq, Nat.reduceLT, Nat.reduceLeDiff, Nat.reduceEqDiff, Int.reduceToNat, Int.reduceLE, Int.reduceLT, Int.reduceAdd, Int.reduceSub, Int.reduceNeg, Int.reduceBEq, Int.reduceBNe, Nat.reduceBNe, Nat.reduceDiv, Nat.reduceMod, capI, c65w]
      obtain ⟨rfl, rfl⟩ := hR
      refine AX_of_hax cx_ok hb ?_
      simp only [go_sem, Nat.reduceAdd, Nat.reduceSub, Nat.reduceMul, Nat.reduceBEq, Nat.reduceLT, Nat.reduceLeDiff, Nat.reduceEqDiff, Int.reduceToNat, Int.reduceLE, Int.reduceLT, Int.reduceAdd, Int.reduceSub, Int.reduceNeg, Int.reduceBEq, Int.reduceBNe, Nat.reduceBNe, Nat.reduceDiv, Nat.reduceMod, capI, c65w]
      rw [← hy, Nat.mod_eq_of_lt hyl]
      refine kont_call hb fn73 rfl ?_ (cmp_ok y s.most hyl hmo) (Ret.flat rfl) rfl fun d h hR => ?_
      · simp only [go_sem, Nat.reduceAdd, Nat.reduceSub, Nat.reduceMul, Nat.reduceBEq, Nat.reduceLT, Nat.reduceLeDiff, Nat.reduceEqDiff, Int.reduceToNat, Int.reduceLE, Int.reduceLT, Int.reduceAdd, Int.reduceSub, Int.reduceNeg, Int.reduceBEq, Int.reduceBNe, Nat.reduceBNe, Nat.reduceDiv, Nat.reduceMod, capI, e3]
      obtain ⟨rfl, rfl⟩ := hR
      refine kont_of_hx cx_ok hb 200 ?_
      simp only [go_sem, Nat.reduceAdd, Nat.reduceSub, Nat.reduceMul, Nat.reduceBEq, Nat.reduceLT, Nat.reduceLeDiff, Nat.reduceEqDiff, Int.reduceToNat, Int.reduceLE, Int.reduceLT, Int.reduceAdd, Int.reduceSub, Int.reduceNeg, Int.reduceBEq, Int.reduceBNe, Nat.reduceBNe, Nat.reduceDiv, Nat.reduceMod, capI, e3]
      rw [fin _ rfl]
      cases hq : decide (s.most < y)
      · simp only [go_sem, Nat.reduceAdd, Nat.reduceSub, Nat.reduceMul, Nat.reduceBEq, Nat.reduceLT, Nat.reduceLeDiff, Nat.reduceEqDiff, Int.reduceToNat, Int.reduceLE, Int.reduceLT, Int.reduceAdd, Int.reduceSub, Int.reduceNeg, Int.reduceBEq, Int.reduceBNe, Nat.reduceBNe, Nat.reduceDiv, Nat.reduceMod, capI, e3]
        have hq' := of_decide_eq_false hq
        rw [Nat.max_eq_left (by omega)]
        exact .inr ⟨h, rfl⟩
      · simp only [go_sem, Nat.reduceAdd, Nat.reduceSub, Nat.reduceMul, Nat.reduceBEq, Nat.reduceLT, Nat.reduceLeDiff, Nat.reduceEqDiff, Int.reduceToNat, Int.reduceLE, Int.reduceLT, Int.reduceAdd, Int.reduceSub, Int.reduceNeg, Int.reduceBEq, Int.reduceBNe, Nat.reduceBNe, Nat.reduceDiv, Nat.reduceMod, capI, e3]
        have hq' := of_decide_eq_true hq
        rw [Nat.max_eq_right (by omega)]
        exact .inr ⟨h, rfl⟩
    · have hl' := key.1 (of_decide_eq_true hu)
      simp only [go_sem, Nat.reduceAdd, Nat.reduceSub, Nat.reduceMul, Nat.reduceBEq, Nat.reduceLT, Nat.reduceLeDiff, Nat.reduceEqDiff, Int.reduceToNat, Int.reduceLE, Int.reduceLT, Int.reduceAdd, Int.reduceSub, Int.reduceNeg, Int.reduceBEq, Int.reduceBNe, Nat.reduceBNe, Nat.reduceDiv, Nat.reduceMod, hu]
      refine kont_hax cx_ok hb 200 mixed [(0, true), (1, true), (2, true), (3, false), (4, false), (5, true), (6, true), (7, true), (8, false)] (by kernel_rfl) (by kernel_rfl) ?_
      simp only [go_sem, Nat.reduceAdd, Nat.reduceSub, Nat.reduceMul, Nat.reduceBEq, Nat.reduceLT, Nat.reduceLeDiff, Nat.reduceEqDiff, Int.reduceToNat, Int.reduceLE, Int.reduceLT, Int.reduceAdd, Int.reduceSub, Int.reduceNeg, Int.reduceBEq, Int.reduceBNe, Nat.reduceBNe, Nat.reduceDiv, Nat.reduceMod, capI]
      refine AX_call hb fn71 rfl ?_ (mul_ok (capB c.b) 65536 (by omega) (by decide)) (Ret.flat rfl) rfl fun d h hR => ?_
      · simp only [go_sem, Nat.reduceAdd, Nat.reduceSub, Nat.reduceMul, Nat.reduceBEq, Nat.reduceLT, Nat.reduceLeDiff, Nat.reduceEqDiff, Int.reduceToNat, Int.reduceLE, Int.reduceLT, Int.reduceAdd, Int.reduceSub, Int.reduceNeg, Int.reduceBEq, Int.reduceBNe, Nat.reduceBNe, Nat.reduceDiv, Nat.reduceMod, capI, c65w]
      obtain ⟨rfl, rfl⟩ := hR
      refine AX_of_hax cx_ok hb ?_
      simp only [go_sem, Nat.reduceAdd, Nat.reduceSub, Nat.reduceMul, Nat.reduceBEq, Nat.reduceLT, Nat.reduceLeDiff, Nat.reduceEqDiff, Int.reduceToNat, Int.reduceLE, Int.reduceLT, Int.reduceAdd, Int.reduceSub, Int.reduceNeg, Int.reduceBEq, Int.reduceBNe, Nat.reduceBNe, Nat.reduceDiv, Nat.reduceMod, capI, c65w]
      refine AX_call hb fn72 rfl ?_ (add_ok 0 (capB c.b * 65536) (by decide) (by omega)) (Ret.flat rfl) rfl fun d h hR => ?_
      · simp only [go_sem, Nat.reduceAdd, Nat.reduceSub, Nat.reduceMul, Nat.reduceBEq, Nat.reduceLT, Nat.reduceLeDiff, Nat.reduceEqDiff, Int.reduceToNat, Int.reduceLE, Int.reduceLT, Int.reduceAdd, Int.reduceSub, Int.reduceNeg, Int.reduceBEq, Int.reduceBNe, Nat.reduceBNe, Nat.reduceDiv, Nat.reduceMod, capI, c65w, Nat.zero_div, Nat.zero_mod, ci0]
      obtain ⟨rfl, rfl⟩ := hR
      refine AX_of_hax cx_ok hb ?_
      simp only [go_sem, Nat.reduceAdd, Nat.reduceSub, Nat.reduceMul, Nat.reduceBEq, Nat.reduceLT, Nat.reduceLeDiff, Nat.reduceEqDiff, Int.reduceToNat, Int.reduceLE, Int.reduceLT, Int.reduceAdd, Int.reduceSub, Int.reduceNeg, Int.reduceBEq, Int.reduceBNe, Nat.reduceBNe, Nat.reduceDiv, Nat.reduceMod, capI, c65w, Nat.zero_div, Nat.zero_mod, ci0]
      have hyz : capB c.b * 65536 % 2 ^ 128 = y := by omega
      rw [hyz]
      refine kont_call hb fn73 rfl ?_ (cmp_ok y s.most hyl hmo) (Ret.flat rfl) rfl fun d h hR => ?_
      · simp only [go_sem, Nat.reduceAdd, Nat.reduceSub, Nat.reduceMul, Nat.reduceBEq, Nat.reduceLT, Nat.reduceLeDiff, Nat.reduceEqDiff, Int.reduceToNat, Int.reduceLE, Int.reduceLT, Int.reduceAdd, Int.reduceSub, Int.reduceNeg, Int.reduceBEq, Int.reduceBNe, Nat.reduceBNe, Nat.reduceDiv, Nat.reduceMod, capI, e3]
      obtain ⟨rfl, rfl⟩ := hR
      refine kont_of_hx cx_ok hb 200 ?_
      simp only [go_sem, Nat.reduceAdd, Nat.reduceSub, Nat.reduceMul, Nat.reduceBEq, Nat.reduceLT, Nat.reduceLeDiff, Nat.reduceEqDiff, Int.reduceToNat, Int.reduceLE, Int.reduceLT, Int.reduceAdd, Int.reduceSub, Int.reduceNeg, Int.reduceBEq, Int.reduceBNe, Nat.reduceBNe, Nat.reduceDiv, Nat.reduceMod, capI, e3]
      rw [fin _ rfl]
      cases hq : decide (s.most < y)
      · simp only [go_sem, Nat.reduceAdd, Nat.reduceSub, Nat.reduceMul, Nat.reduceBEq, Nat.reduceLT, Nat.reduceLeDiff, Nat.reduceEqDiff, Int.reduceToNat, Int.reduceLE, Int.reduceLT, Int.reduceAdd, Int.reduceSub, Int.reduceNeg, Int.reduceBEq, Int.reduceBNe, Nat.reduceBNe, Nat.reduceDiv, Nat.reduceMod, capI, e3]
        have hq' := of_decide_eq_false hq
        rw [Nat.max_eq_left (by omega)]
        exact .inr ⟨h, rfl⟩
      · simp only [go_sem, Nat.reduceAdd, Nat.reduceSub, Nat.reduceMul, Nat.reduceBEq, Nat.reduceLT, Nat.reduceLeDiff, Nat.reduceEqDiff, Int.reduceToNat, Int.reduceLE, Int.reduceLT, Int.reduceAdd, Int.reduceSub, Int.reduceNeg, Int.reduceBEq, Int.reduceBNe, Nat.reduceBNe, Nat.reduceDiv, Nat.reduceMod, capI, e3]
        have hq' := of_decide_eq_true hq
        rw [Nat.max_eq_right (by omega)]
        exact .inr ⟨h, rfl⟩
/-! Events, as what came. -/
def Ev.tN (e : Ev) : Nat := e.at_.toNat
def Ev.bN (e : Ev) : Nat := e.len.toNat
def cmOf (e : Ev) : Cm := ⟨e.tN, e.bN⟩
def Ev.goes (e : Ev) (cls : Int) : Bool := e.inn && (e.cls == cls)
def cmAt (cls : Int) (l : List Ev) : Nat → List Cm
  | 0 => []
  | k + 1 => if (l.getD k default).goes cls = true then cmAt cls l k ++ [cmOf (l.getD k default)] else cmAt cls l k
theorem cmAt_len (cls : Int) (l : List Ev) : ∀ k, (cmAt cls l k).length ≤ k
  | 0 => Nat.le_refl _
  | k + 1 => by have := cmAt_len cls l k; simp only [cmAt]; split <;> simp <;> omega
def Cm.Ok (c : Cm) : Prop := c.t < 18446744073709551616 ∧ c.b < 9223372036854775808
theorem default_ok : (default : Ev).Ok := by
  refine ⟨?_, ?_, ?_, ?_, ?_, ?_, ?_, ?_, ?_, ?_⟩ <;> rfl
theorem getD_ok {l : List Ev} (h : ∀ e ∈ l, e.Ok) (k : Nat) : (l.getD k default).Ok := by
  by_cases hk : k < l.length
  · rw [List.getD_eq_getElem?_getD, List.getElem?_eq_getElem hk]; exact h _ (List.getElem_mem hk)
  · rw [List.getD_eq_getElem?_getD, List.getElem?_eq_none (by omega)]; exact default_ok
theorem cmOf_ok {e : Ev} (h : e.Ok) : (cmOf e).Ok := by
  have h1 := wf_u64 h.2.1
  have h2 := wf_i64 h.2.2.2.2.2.1
  exact ⟨by show e.at_.toNat < _; omega, by show e.len.toNat < _; omega⟩
theorem cmAt_ok {cls : Int} {l : List Ev} (h : ∀ e ∈ l, e.Ok) : ∀ k, ∀ c ∈ cmAt cls l k, c.Ok
  | 0, c, hc => by cases hc
  | k + 1, c, hc => by
    simp only [cmAt] at hc
    split at hc
    · rcases List.mem_append.1 hc with h1 | h1
      · exact cmAt_ok h k c h1
      · simp at h1; subst h1; exact cmOf_ok (getD_ok h k)
    · exact cmAt_ok h k c hc
theorem tN_eq {e : Ev} (h : e.Ok) : e.at_ = (e.tN : Int) := by
  have h1 := wf_u64 h.2.1
  show _ = ((e.at_.toNat : Nat) : Int); omega
theorem bN_eq {e : Ev} (h : e.Ok) : IntKind.u64.wrap (max e.len 0) = (e.bN : Int) := by
  have h2 := wf_i64 h.2.2.2.2.2.1
  rw [IntKind.wrap_u64]
  show _ = ((e.len.toNat : Nat) : Int); omega
/-- The bucket behind what came, and whether a tick went back. -/
def buF (m : Nat) (L : List Cm) : Bu := L.foldl (fun s c => s.next m c) ⟨0, 0, 0, 0⟩
def lastF (L : List Cm) : Nat := L.foldl (fun _ c => c.t) 0
def badF (L : List Cm) : Bool := (L.foldl (fun s c => (c.t, s.2 || decide (c.t < s.1))) ((0 : Nat), false)).2
theorem buF_snoc (m : Nat) (L : List Cm) (c : Cm) : buF m (L ++ [c]) = (buF m L).next m c := by simp [buF]
theorem buF_nil (m : Nat) : buF m [] = ⟨0, 0, 0, 0⟩ := rfl
theorem fold_fst (L : List Cm) : ∀ (a : Nat) (b : Bool), (L.foldl (fun s c => (c.t, s.2 || decide (c.t < s.1))) (a, b)).1 = L.foldl (fun _ c => c.t) a := by
  induction L with
  | nil => intro a b; rfl
  | cons c L ih => intro a b; exact ih _ _
theorem bu_last (m : Nat) (L : List Cm) : ∀ s : Bu, (L.foldl (fun s c => s.next m c) s).last = L.foldl (fun _ c => c.t) s.last := by
  induction L with
  | nil => intro s; rfl
  | cons c L ih => intro s; exact ih _
theorem badF_snoc (m : Nat) (L : List Cm) (c : Cm) : badF (L ++ [c]) = (badF L || decide (c.t < (buF m L).last)) := by
  simp only [badF, List.foldl_append, List.foldl_cons, List.foldl_nil, fold_fst, buF, bu_last]
structure BuOk (n : Nat) (s : Bu) : Prop where
  last : s.last < 18446744073709551616
  sum : s.sum ≤ 1099511627777
  fill : s.fill ≤ n * 72057594037993472
  most : s.most ≤ n * 72057594037993472
theorem Bu.next_ok {m n : Nat} {s : Bu} {c : Cm} (h : BuOk n s) (hc : c.Ok) : BuOk (n + 1) (s.next m c) := by
  have h1 := capB_le c.b
  have h2 := h.fill
  have h3 := h.most
  exact ⟨hc.1, capB_le _, by show _ - _ + _ ≤ _; omega, by show max _ (_ - _ + _) ≤ _; omega⟩
theorem buAt_ok {m : Nat} {cls : Int} {l : List Ev} (h : ∀ e ∈ l, e.Ok) : ∀ k, BuOk k (buF m (cmAt cls l k))
  | 0 => by refine ⟨?_, ?_, ?_, ?_⟩ <;> simp [cmAt, buF]
  | k + 1 => by
    have ih := buAt_ok (m := m) (cls := cls) h k
    simp only [cmAt]
    split
    · rw [buF_snoc]; exact Bu.next_ok ih (cmOf_ok (getD_ok h k))
    · exact ⟨ih.last, ih.sum, Nat.le_trans ih.fill (by omega), Nat.le_trans ih.most (by omega)⟩
theorem each_ok (m : Nat) (cls : Int) (l : List Ev) (hm : m < 18446744073709551616) (hl : l.length < 2147483648) (ho : ∀ e ∈ l, e.Ok) :
    MFn Try.prog 68 [ob1 m, ob1 0, ob1 0, ob2 0, ob2 0] [evs l, dint cls, .clo 69 0 [.ptr 1 0 0 0, .ptr 3 0 0 0, .ptr 0 0 0 0, .ptr 4 0 0 0, .ptr 2 0 0 0]]
      (fun d h => (∃ s : Bu, h = [ob1 m, ob1 s.last, ob1 s.sum, ob2 s.fill, ob2 s.most] ∧ (badF (cmAt cls l l.length) = false → s = buF m (cmAt cls l l.length))) ∧ d = dint (if badF (cmAt cls l l.length) = true then 27 else 0)) := by
  have mono : ∀ k d, badF (cmAt cls l k) = true → badF (cmAt cls l (k + d)) = true := by
    intro k d hb
    induction d with
    | zero => exact hb
    | succ d ih =>
      show badF (cmAt cls l ((k + d) + 1)) = true
      simp only [cmAt]
      split
      · rw [badF_snoc m, ih]; rfl
      · exact ih
  refine MFn_hxk 5 cx_ok 200 Try.func68 rfl rfl Try.ntmps68 Try.results68 rfl fun base w pl hb => ?_
  simp only [go_sem, Nat.reduceAdd, Nat.reduceSub, Nat.reduceMul, Nat.reduceBEq, Nat.reduceLT, Nat.reduceLeDiff, Nat.reduceEqDiff, Int.reduceToNat, Int.reduceLE, Int.reduceLT, Int.reduceAdd, Int.reduceSub, Int.reduceNeg, Int.reduceBEq, Int.reduceBNe, Nat.reduceBNe, Nat.reduceDiv, Nat.reduceMod]
  refine kont_forF (G := Nat) [1, 2, 10, 11] (fun k => badF (cmAt cls l k) = false) (fun k γ => [(12, dint k)]) (fun k γ => [ob1 m, ob1 (buF m (cmAt cls l k)).last, ob1 (buF m (cmAt cls l k)).sum, ob2 (buF m (cmAt cls l k)).fill, ob2 (buF m (cmAt cls l k)).most]) (l.length) (0) rfl (Weak.to 5 (by (simp only [go_sem, Nat.reduceAdd, Nat.reduceSub, Nat.reduceMul, Nat.reduceBEq, Nat.reduceLT, Nat.reduceLeDiff, Nat.reduceEqDiff, Int.reduceToNat, Int.reduceLE, Int.reduceLT, Int.reduceAdd, Int.reduceSub, Int.reduceNeg, Int.reduceBEq, Int.reduceBNe, Nat.reduceBNe, Nat.reduceDiv, Nat.reduceMod, buF_nil, cmAt]) <;> simp)) ?_ ?_
  · rfl
  intro k γ hk hno
  refine kont_of_hx cx_ok hb 200 ?_
  simp only [go_sem, Nat.reduceAdd, Nat.reduceSub, Nat.reduceMul, Nat.reduceBEq, Nat.reduceLT, Nat.reduceLeDiff, Nat.reduceEqDiff, Int.reduceToNat, Int.reduceLE, Int.reduceLT, Int.reduceAdd, Int.reduceSub, Int.reduceNeg, Int.reduceBEq, Int.reduceBNe, Nat.reduceBNe, Nat.reduceDiv, Nat.reduceMod]
  have hwr := wrap_succ (show k < 4611686018427387904 by omega)
  first | refine hite_lt hk (fun hk1 => ?_) (fun hk1 => ?_) | refine hite_ltI hk (fun hk1 => ?_) (fun hk1 => ?_)
  · have hok := getD_ok ho k
    have e5 : cmAt cls l (k + 1) = if (l.getD k default).goes cls = true then cmAt cls l k ++ [cmOf (l.getD k default)] else cmAt cls l k := rfl
    have hbu := buAt_ok (m := m) (cls := cls) ho k
    have t1 := tN_eq hok
    have t2 := bN_eq hok
    have t3 := cmOf_ok hok
    generalize hee : l.getD k default = e at *
    generalize hL : cmAt cls l k = L at *
    simp only [go_sem, Nat.reduceAdd, Nat.reduceSub, Nat.reduceMul, Nat.reduceBEq, Nat.reduceLT, Nat.reduceLeDiff, Nat.reduceEqDiff, Int.reduceToNat, Int.reduceLE, Int.reduceLT, Int.reduceAdd, Int.reduceSub, Int.reduceNeg, Int.reduceBEq, Int.reduceBNe, Nat.reduceBNe, Nat.reduceDiv, Nat.reduceMod, hk1, hee]
    cases hg : e.goes cls
    · have e6 : cmAt cls l (k + 1) = L := by rw [e5, hg]; rfl
      cases hi : e.inn
      · simp only [go_sem, Nat.reduceAdd, Nat.reduceSub, Nat.reduceMul, Nat.reduceBEq, Nat.reduceLT, Nat.reduceLeDiff, Nat.reduceEqDiff, Int.reduceToNat, Int.reduceLE, Int.reduceLT, Int.reduceAdd, Int.reduceSub, Int.reduceNeg, Int.reduceBEq, Int.reduceBNe, Nat.reduceBNe, Nat.reduceDiv, Nat.reduceMod, hi]
        repeat (refine And.intro (by first | assumption | omega) ?_)
        refine ⟨_, Weak.to 5 (by (simp only [go_sem, Nat.reduceAdd, Nat.reduceSub, Nat.reduceMul, Nat.reduceBEq, Nat.reduceLT, Nat.reduceLeDiff, Nat.reduceEqDiff, Int.reduceToNat, Int.reduceLE, Int.reduceLT, Int.reduceAdd, Int.reduceSub, Int.reduceNeg, Int.reduceBEq, Int.reduceBNe, Nat.reduceBNe, Nat.reduceDiv, Nat.reduceMod, hwr, e6]) <;> simp), ForS.mk (γ) (by rw [e6]; exact hno)⟩
      · have hcl : (e.cls != cls) = true := by
          have : (e.cls == cls) = false := by simpa [Ev.goes, hi] using hg
          simp only [bne, this]; rfl
        simp only [go_sem, Nat.reduceAdd, Nat.reduceSub, Nat.reduceMul, Nat.reduceBEq, Nat.reduceLT, Nat.reduceLeDiff, Nat.reduceEqDiff, Int.reduceToNat, Int.reduceLE, Int.reduceLT, Int.reduceAdd, Int.reduceSub, Int.reduceNeg, Int.reduceBEq, Int.reduceBNe, Nat.reduceBNe, Nat.reduceDiv, Nat.reduceMod, hi, hcl]
        repeat (refine And.intro (by first | assumption | omega) ?_)
        refine ⟨_, Weak.to 5 (by (simp only [go_sem, Nat.reduceAdd, Nat.reduceSub, Nat.reduceMul, Nat.reduceBEq, Nat.reduceLT, Nat.reduceLeDiff, Nat.reduceEqDiff, Int.reduceToNat, Int.reduceLE, Int.reduceLT, Int.reduceAdd, Int.reduceSub, Int.reduceNeg, Int.reduceBEq, Int.reduceBNe, Nat.reduceBNe, Nat.reduceDiv, Nat.reduceMod, hwr, e6]) <;> simp), ForS.mk (γ) (by rw [e6]; exact hno)⟩
    · have e6 : cmAt cls l (k + 1) = L ++ [cmOf e] := by rw [e5, hg]; rfl
      have hh : e.inn = true ∧ e.cls = cls := by simpa [Ev.goes] using hg
      have hcl : (e.cls != cls) = false := by simp [hh.2]
      have hf : (buF m L).fill < 2 ^ 127 := Nat.lt_of_le_of_lt hbu.fill (by omega)
      have hmo : (buF m L).most < 2 ^ 128 := Nat.lt_of_le_of_lt hbu.most (by omega)
      simp only [go_sem, Nat.reduceAdd, Nat.reduceSub, Nat.reduceMul, Nat.reduceBEq, Nat.reduceLT, Nat.reduceLeDiff, Nat.reduceEqDiff, Int.reduceToNat, Int.reduceLE, Int.reduceLT, Int.reduceAdd, Int.reduceSub, Int.reduceNeg, Int.reduceBEq, Int.reduceBNe, Nat.reduceBNe, Nat.reduceDiv, Nat.reduceMod, hh.1, hcl, t1, t2]
      refine kont_callM hb [0, 1, 2, 3, 4] fn69 rfl ?_ (burst1_ok m (buF m L) (cmOf e) hm t3.1 (by have := t3.2; omega) hbu.last hbu.sum hf hmo) rfl fun d h hR => ?_
      · simp only [go_sem, Nat.reduceAdd, Nat.reduceSub, Nat.reduceMul, Nat.reduceBEq, Nat.reduceLT, Nat.reduceLeDiff, Nat.reduceEqDiff, Int.reduceToNat, Int.reduceLE, Int.reduceLT, Int.reduceAdd, Int.reduceSub, Int.reduceNeg, Int.reduceBEq, Int.reduceBNe, Nat.reduceBNe, Nat.reduceDiv, Nat.reduceMod, cmOf]
      rcases hR with ⟨hbad, rfl, rfl⟩ | ⟨hgood, rfl, rfl⟩
      · simp only [go_sem, Nat.reduceAdd, Nat.reduceSub, Nat.reduceMul, Nat.reduceBEq, Nat.reduceLT, Nat.reduceLeDiff, Nat.reduceEqDiff, Int.reduceToNat, Int.reduceLE, Int.reduceLT, Int.reduceAdd, Int.reduceSub, Int.reduceNeg, Int.reduceBEq, Int.reduceBNe, Nat.reduceBNe, Nat.reduceDiv, Nat.reduceMod]
        refine kont_of_hx cx_ok hb 200 ?_
        simp only [go_sem, Nat.reduceAdd, Nat.reduceSub, Nat.reduceMul, Nat.reduceBEq, Nat.reduceLT, Nat.reduceLeDiff, Nat.reduceEqDiff, Int.reduceToNat, Int.reduceLE, Int.reduceLT, Int.reduceAdd, Int.reduceSub, Int.reduceNeg, Int.reduceBEq, Int.reduceBNe, Nat.reduceBNe, Nat.reduceDiv, Nat.reduceMod]
        have hb1 : badF (cmAt cls l (k + 1)) = true := by rw [e6, badF_snoc m, decide_eq_true hbad]; simp
        have hb2 : badF (cmAt cls l l.length) = true := by
          have := mono (k + 1) (l.length - (k + 1)) hb1
          rwa [show k + 1 + (l.length - (k + 1)) = l.length by omega] at this
        rw [hb2]
        exact ⟨⟨buF m L, rfl, fun h => by cases h⟩, rfl⟩
      · simp only [go_sem, Nat.reduceAdd, Nat.reduceSub, Nat.reduceMul, Nat.reduceBEq, Nat.reduceLT, Nat.reduceLeDiff, Nat.reduceEqDiff, Int.reduceToNat, Int.reduceLE, Int.reduceLT, Int.reduceAdd, Int.reduceSub, Int.reduceNeg, Int.reduceBEq, Int.reduceBNe, Nat.reduceBNe, Nat.reduceDiv, Nat.reduceMod]
        refine kont_of_hx cx_ok hb 200 ?_
        simp only [go_sem, Nat.reduceAdd, Nat.reduceSub, Nat.reduceMul, Nat.reduceBEq, Nat.reduceLT, Nat.reduceLeDiff, Nat.reduceEqDiff, Int.reduceToNat, Int.reduceLE, Int.reduceLT, Int.reduceAdd, Int.reduceSub, Int.reduceNeg, Int.reduceBEq, Int.reduceBNe, Nat.reduceBNe, Nat.reduceDiv, Nat.reduceMod]
        have e7 : buF m (cmAt cls l (k + 1)) = (buF m L).next m (cmOf e) := by rw [e6, buF_snoc]
        have hno' : badF (cmAt cls l (k + 1)) = false := by rw [e6, badF_snoc m, hno, decide_eq_false hgood]; rfl
        repeat (refine And.intro (by first | assumption | omega) ?_)
        refine ⟨_, Weak.to 5 (by (simp only [go_sem, Nat.reduceAdd, Nat.reduceSub, Nat.reduceMul, Nat.reduceBEq, Nat.reduceLT, Nat.reduceLeDiff, Nat.reduceEqDiff, Int.reduceToNat, Int.reduceLE, Int.reduceLT, Int.reduceAdd, Int.reduceSub, Int.reduceNeg, Int.reduceBEq, Int.reduceBNe, Nat.reduceBNe, Nat.reduceDiv, Nat.reduceMod, hwr, e7]) <;> simp), ForS.mk (γ) (hno')⟩
  · simp only [go_sem, Nat.reduceAdd, Nat.reduceSub, Nat.reduceMul, Nat.reduceBEq, Nat.reduceLT, Nat.reduceLeDiff, Nat.reduceEqDiff, Int.reduceToNat, Int.reduceLE, Int.reduceLT, Int.reduceAdd, Int.reduceSub, Int.reduceNeg, Int.reduceBEq, Int.reduceBNe, Nat.reduceBNe, Nat.reduceDiv, Nat.reduceMod]
    refine kont_of_hx cx_ok hb 200 ?_
    simp only [go_sem, Nat.reduceAdd, Nat.reduceSub, Nat.reduceMul, Nat.reduceBEq, Nat.reduceLT, Nat.reduceLeDiff, Nat.reduceEqDiff, Int.reduceToNat, Int.reduceLE, Int.reduceLT, Int.reduceAdd, Int.reduceSub, Int.reduceNeg, Int.reduceBEq, Int.reduceBNe, Nat.reduceBNe, Nat.reduceDiv, Nat.reduceMod]
    subst hk1
    rw [hno]
    exact ⟨⟨_, rfl, fun _ => rfl⟩, rfl⟩
end Go.Fg.X
