/- Walks of the functions that the statement reaches. No conditions: contracts and laws. -/
import Derived.Test.YtiiaocpkjmiacaaYL4
/- The document's reader, walked: rules. No conditions. -/
namespace Go.Fg.X
set_option linter.unusedSimpArgs false
set_option linter.unusedVariables false
open Go.Proofs Go.Fg
set_option maxRecDepth 100000
def RIn.rule (x : RIn) : Rul × RIn :=
  let m := x.head
  let w := m.2.head
  let y := w.2.next 4 0 65536
  (⟨m.1.a, m.1.b, m.1.c, m.1.d, w.1.a, w.1.b, w.1.c, w.1.d, w64 y.v⟩, y)
def RIn.rules (r : RIn) : List Rul × RIn := rloop RIn.rule (r.next 1 0 32).v.toNat (r.next 1 0 32) []
@[go_sem] def rSu (r : RIn) (n g i : Nat) (x : RIn) (out : List Rul) : St :=
  ⟨[(1, .ptr 0 0 0 0), (2, .nil), (3, .ptr 1 0 0 0), (4, .ref 3 g 0 i), (5, .ptr 2 0 0 0), (16, dint n), (17, dint i)],
    [⟨.one, 0, 4, 1, fun _ => r.cells⟩, ⟨.one, 0, 4, 1, fun _ => [.raw (.string ByteArray.empty), .raw (.int .i64 0), .raw (.int .u64 0), .raw (.int .i64 0)]⟩, ⟨.one, 0, 4, 1, fun _ => x.cells⟩, ⟨.arr, g, 9, i, Rul.rows out⟩]⟩
theorem rrules_ok {r : RIn} (h : r.Good) (he : r.err = 0) : AFn Try.prog 85 [.agg r.cells] (Ret (.tup [.imm 9 r.rules.1.length (Rul.rows r.rules.1), .agg r.rules.2.cells])) := by
  simp only [RIn.rules]
  have h1 := h.next 1 0 32
  have hv := RIn.next_v he 1 0 32
  have c1 := rnext_ok' h (n := 1) (by decide) (l := 0) (m := 32)
  generalize r.next 1 0 32 = x0 at *
  obtain ⟨n, hn⟩ := Int.eq_ofNat_of_zero_le (show 0 ≤ x0.v by omega)
  have hn2 : n ≤ 32 := by omega
  have hw : IntKind.i64.wrap x0.v = (n : Int) := by rw [hn, wrap64 (by omega) (by omega)]
  rw [hn, Int.toNat_natCast]
  generalize hfin : rloop RIn.rule n x0 [] = fin
  refine AFn_hxk 0 cx_ok 200 Try.func85 rfl Try.ntmps85 Try.results85 rfl fun base w hb => ?_
  simp only [go_sem, simprocAttr]
  refine kont_call hb fn44 rfl ?_ c1 (Ret.flat rfl) rfl fun d h hR => ?_
  · simp only [go_sem, simprocAttr, hw]
  obtain ⟨rfl, rfl⟩ := hR
  refine kont_of_hx cx_ok hb 200 ?_
  simp only [go_sem, simprocAttr, hw]
  refine kont_weak_code (Weak.phantom 4 9 (Rul.rows []) rfl) ?_
  simp only [go_sem, simprocAttr]
  refine kont_for (fun i st => ∃ x out g, RLoop RIn.rule n fin i x out ∧ st = rSu r n g i x out) n (s0 := rSu r n 0 0 x0 []) (Weak.to 4 (by simp only [go_sem, simprocAttr])) ⟨x0, [], 0, ⟨rfl, h1, hfin⟩, rfl⟩ ?_
  rintro i _ hin ⟨x, out, g, I, rfl⟩
  simp only [go_sem, simprocAttr]
  refine kont_of_hx cx_ok hb 200 ?_
  simp only [go_sem, simprocAttr]
  first | refine hite_lt hin (fun hk1 => ?_) (fun hk1 => ?_) | refine hite_ltI hin (fun hk1 => ?_) (fun hk1 => ?_)
  · simp only [go_sem, simprocAttr, hk1, decide_true]
    have hni : n - i = (n - (i + 1)) + 1 := by omega
    have hf := I.fin
    rw [hni, rloop] at hf
    have g1 := I.good.head
    have k1 := rhead_ok I.good
    simp only [RIn.rule, w64] at hf
    generalize x.head = m at *
    have g2 := g1.head
    have k2 := rhead_ok g1
    generalize m.2.head = v at *
    have g3 := g2.next 4 0 65536
    have k3 := rnext_ok' g2 (n := 4) (by decide) (l := 0) (m := 65536)
    generalize v.2.next 4 0 65536 = y at *
    refine kont_call hb fn86 rfl ?_ k1 (Ret.flat rfl) rfl fun d h hR => ?_
    · simp only [go_sem, simprocAttr]
    obtain ⟨rfl, rfl⟩ := hR
    refine kont_of_hx cx_ok hb 200 ?_
    simp only [go_sem, simprocAttr]
    refine kont_call hb fn86 rfl ?_ k2 (Ret.flat rfl) rfl fun d h hR => ?_
    · simp only [go_sem, simprocAttr]
    obtain ⟨rfl, rfl⟩ := hR
    refine kont_of_hx cx_ok hb 200 ?_
    simp only [go_sem, simprocAttr]
    refine kont_call hb fn44 rfl ?_ k3 (Ret.flat rfl) rfl fun d h hR => ?_
    · simp only [go_sem, simprocAttr]
    obtain ⟨rfl, rfl⟩ := hR
    refine kont_of_hx cx_ok hb 200 ?_
    simp only [go_sem, simprocAttr]
    refine ⟨by omega, hk1, rSu r n (g + 1) (i + 1) y (out ++ [⟨m.1.a, m.1.b, m.1.c, m.1.d, v.1.a, v.1.b, v.1.c, v.1.d, IntKind.i64.wrap y.v⟩]), Weak.to 4 ?_, _, _, _, ⟨?_, g3, hf⟩, rfl⟩
    · simp only [go_sem, simprocAttr]
      refine ⟨by rw [wrap_succ (by omega)], fun j hj => ?_⟩
      rw [getD_app out _ _ j (by have := I.len; omega), I.len]
      cases decide (j < i) <;> rfl
    · simp [I.len]
  · simp only [go_sem, simprocAttr]
    subst hk1
    have hf := I.fin
    rw [Nat.sub_self, rloop] at hf
    subst hf
    refine kont_weak_code (Weak.freeze rfl 3 rfl rfl (fun j hj => rfl)) ?_
    simp only [go_sem, simprocAttr]
    refine kont_of_hx cx_ok hb 200 ?_
    simp only [go_sem, simprocAttr]
    refine kont_hax cx_ok hb 200 mixed [(0, true), (1, true), (2, true), (3, false)] (by kernel_rfl) (by kernel_rfl) ?_
    simp only [go_sem, simprocAttr]
    rw [I.len]
end Go.Fg.X
/- The document's reader, walked: op. No conditions. -/
namespace Go.Fg.X
set_option linter.unusedSimpArgs false
set_option linter.unusedVariables false
open Go.Proofs Go.Fg
set_option maxRecDepth 100000
theorem RIn.next_ok {r : RIn} {n : Nat} {l m : Int} (h : (r.next n l m).err = 0) : r.err = 0 ∧ l ≤ (r.next n l m).v ∧ (r.next n l m).v ≤ m := by
  simp only [RIn.next] at h ⊢
  split at h
  · rename_i he
    refine ⟨he, ?_⟩
    rw [if_pos he]
    split at h
    · cases h
    · rename_i h2
      rw [if_neg h2]
      split at h
      · cases h
      · rename_i h3
        rw [if_neg h3]
        exact ⟨by simp only; omega, by simp only; omega⟩
  · rename_i he; exact absurd h he
def RIn.op (r : RIn) : Opn × RIn :=
  let k := r.next 1 1 4
  if k.err = 0 then
    if k.v = 1 then (⟨1, k.changes.1, [], default, 0⟩, k.changes.2)
    else if k.v = 2 then (⟨2, [], k.rules.1, default, 0⟩, k.rules.2)
    else if k.v = 3 then
      let id := k.next 8 0 18446744073709551615
      let n := id.next 2 1 16384
      let h := n.head
      (⟨3, [], [], ⟨id.v, w64 n.v, h.1.a, h.1.b, h.1.c, h.1.d⟩, 0⟩, h.2)
    else
      let x := k.next 8 0 18446744073709551615
      (⟨4, [], [], default, x.v⟩, x)
  else (default, k)
theorem pk_zero : (default : Pk) = ⟨0, 0, 0, 0, 0, 0⟩ := rfl
theorem rop_ok {r : RIn} (h : r.Good) : AFn Try.prog 45 [.agg r.cells] (Ret (.tup [.agg r.op.1.cells, .agg r.op.2.cells])) := by
  have h1 := h.next 1 1 4
  have c1 := rnext_ok' h (n := 1) (by decide) (l := 1) (m := 4)
  have hv := fun e => (RIn.next_ok (r := r) (n := 1) (l := 1) (m := 4) e).2
  simp only [RIn.op, w64]
  generalize r.next 1 1 4 = k at *
  refine AFn.tell ?_
  by_cases he : k.err = 0
  · have e1 : (k.err != 0) = false := by simpa using he
    simp only [if_pos he]
    have hv4 : k.v = 1 ∨ k.v = 2 ∨ k.v = 3 ∨ k.v = 4 := by have := hv he; omega
    rcases hv4 with e | e | e | e
    · have c2 := rchanges_ok h1 he
      simp only [e, if_true]
      generalize k.changes = y at *
      simp only [RIn.cells, e] at c2
      refine AFn_hxk 0 cx_ok 200 Try.func45 rfl Try.ntmps45 Try.results45 rfl fun base w hb => ?_
      simp only [go_sem, simprocAttr]
      refine kont_call hb fn44 rfl ?_ c1 (Ret.flat rfl) rfl fun d h hR => ?_
      · simp only [go_sem, simprocAttr, e1, e]
      obtain ⟨rfl, rfl⟩ := hR
      refine kont_of_hx cx_ok hb 200 ?_
      simp only [go_sem, simprocAttr, e1, e]
      refine kont_callM hb [] fn84 rfl ?_ c2 rfl fun d h hR => ?_
      · simp only [go_sem, simprocAttr]
      obtain ⟨rfl, rfl⟩ := hR
      simp only [go_sem, simprocAttr]
      refine kont_of_hx cx_ok hb 200 ?_
      simp only [go_sem, simprocAttr]
      refine kont_haxF cx_ok hb 200 mixed [(0, true), (1, true)] [2, 3, 4] (by kernel_rfl) (by kernel_rfl) ?_
      simp only [go_sem, simprocAttr]
      repeat' refine And.intro ?_ ?_
      all_goals exact ⟨_, by simp only [go_sem, simprocAttr, pk_zero], rfl, rfl⟩
    · have c2 := rrules_ok h1 he
      simp only [e, if_true, show ¬((2 : Int) = 1) by decide, if_false]
      generalize k.rules = y at *
      simp only [RIn.cells, e] at c2
      refine AFn_hxk 0 cx_ok 200 Try.func45 rfl Try.ntmps45 Try.results45 rfl fun base w hb => ?_
      simp only [go_sem, simprocAttr]
      refine kont_call hb fn44 rfl ?_ c1 (Ret.flat rfl) rfl fun d h hR => ?_
      · simp only [go_sem, simprocAttr, e1, e]
      obtain ⟨rfl, rfl⟩ := hR
      refine kont_of_hx cx_ok hb 200 ?_
      simp only [go_sem, simprocAttr, e1, e]
      refine kont_callM hb [] fn85 rfl ?_ c2 rfl fun d h hR => ?_
      · simp only [go_sem, simprocAttr]
      obtain ⟨rfl, rfl⟩ := hR
      simp only [go_sem, simprocAttr]
      refine kont_of_hx cx_ok hb 200 ?_
      simp only [go_sem, simprocAttr]
      refine kont_haxF cx_ok hb 200 mixed [(0, true), (1, true)] [2, 3, 4] (by kernel_rfl) (by kernel_rfl) ?_
      simp only [go_sem, simprocAttr]
      repeat' refine And.intro ?_ ?_
      all_goals exact ⟨_, by simp only [go_sem, simprocAttr, pk_zero], rfl, rfl⟩
    · have h2 := h1.next 8 0 18446744073709551615
      have c2 := rnext_ok' h1 (n := 8) (by decide) (l := 0) (m := 18446744073709551615)
      simp only [e, if_true, show ¬((3 : Int) = 1) by decide, show ¬((3 : Int) = 2) by decide, if_false]
      generalize k.next 8 0 18446744073709551615 = y at *
      have h3 := h2.next 2 1 16384
      have c3 := rnext_ok' h2 (n := 2) (by decide) (l := 1) (m := 16384)
      generalize y.next 2 1 16384 = z at *
      have c4 := rhead_ok h3
      generalize z.head = u at *
      simp only [RIn.cells, e] at c2
      refine AFn_hxk 0 cx_ok 200 Try.func45 rfl Try.ntmps45 Try.results45 rfl fun base w hb => ?_
      simp only [go_sem, simprocAttr]
      refine kont_call hb fn44 rfl ?_ c1 (Ret.flat rfl) rfl fun d h hR => ?_
      · simp only [go_sem, simprocAttr, e1, e]
      obtain ⟨rfl, rfl⟩ := hR
      refine kont_of_hx cx_ok hb 200 ?_
      simp only [go_sem, simprocAttr, e1, e]
      refine kont_call hb fn44 rfl ?_ c2 (Ret.flat rfl) rfl fun d h hR => ?_
      · simp only [go_sem, simprocAttr]
      obtain ⟨rfl, rfl⟩ := hR
      refine kont_of_hx cx_ok hb 200 ?_
      simp only [go_sem, simprocAttr]
      refine kont_call hb fn44 rfl ?_ c3 (Ret.flat rfl) rfl fun d h hR => ?_
      · simp only [go_sem, simprocAttr]
      obtain ⟨rfl, rfl⟩ := hR
      refine kont_of_hx cx_ok hb 200 ?_
      simp only [go_sem, simprocAttr]
      refine kont_call hb fn86 rfl ?_ c4 (Ret.flat rfl) rfl fun d h hR => ?_
      · simp only [go_sem, simprocAttr]
      obtain ⟨rfl, rfl⟩ := hR
      refine kont_of_hx cx_ok hb 200 ?_
      simp only [go_sem, simprocAttr]
      refine kont_haxF cx_ok hb 200 mixed [(0, true), (1, true), (2, true), (3, true), (4, true), (5, true), (6, true), (7, true)] [8, 9, 10] (by kernel_rfl) (by kernel_rfl) ?_
      simp only [go_sem, simprocAttr]
      repeat' refine And.intro ?_ ?_
      all_goals exact ⟨_, by simp only [go_sem, simprocAttr, pk_zero], rfl, rfl⟩
    · have c2 := rnext_ok' h1 (n := 8) (by decide) (l := 0) (m := 18446744073709551615)
      simp only [e, if_true, show ¬((4 : Int) = 1) by decide, show ¬((4 : Int) = 2) by decide, show ¬((4 : Int) = 3) by decide, if_false]
      generalize k.next 8 0 18446744073709551615 = y at *
      simp only [RIn.cells, e] at c2
      refine AFn_hxk 0 cx_ok 200 Try.func45 rfl Try.ntmps45 Try.results45 rfl fun base w hb => ?_
      simp only [go_sem, simprocAttr]
      refine kont_call hb fn44 rfl ?_ c1 (Ret.flat rfl) rfl fun d h hR => ?_
      · simp only [go_sem, simprocAttr, e1, e]
      obtain ⟨rfl, rfl⟩ := hR
      refine kont_of_hx cx_ok hb 200 ?_
      simp only [go_sem, simprocAttr, e1, e]
      refine kont_call hb fn44 rfl ?_ c2 (Ret.flat rfl) rfl fun d h hR => ?_
      · simp only [go_sem, simprocAttr]
      obtain ⟨rfl, rfl⟩ := hR
      refine kont_of_hx cx_ok hb 200 ?_
      simp only [go_sem, simprocAttr]
      refine kont_haxF cx_ok hb 200 mixed [(0, true), (1, true), (2, true)] [3, 4, 5] (by kernel_rfl) (by kernel_rfl) ?_
      simp only [go_sem, simprocAttr]
      repeat' refine And.intro ?_ ?_
      all_goals exact ⟨_, by simp only [go_sem, simprocAttr, pk_zero], rfl, rfl⟩
  · have e1 : (k.err != 0) = true := by simpa using he
    simp only [if_neg he]
    refine AFn_hxk 0 cx_ok 200 Try.func45 rfl Try.ntmps45 Try.results45 rfl fun base w hb => ?_
    simp only [go_sem, simprocAttr]
    refine kont_call hb fn44 rfl ?_ c1 (Ret.flat rfl) rfl fun d h hR => ?_
    · simp only [go_sem, simprocAttr, e1]
    obtain ⟨rfl, rfl⟩ := hR
    refine kont_of_hx cx_ok hb 200 ?_
    simp only [go_sem, simprocAttr, e1]
    refine kont_haxF cx_ok hb 200 mixed [(0, true)] [1, 2, 3] (by kernel_rfl) (by kernel_rfl) ?_
    simp only [go_sem, simprocAttr]
    repeat' refine And.intro ?_ ?_
    all_goals exact ⟨_, by simp only [go_sem, simprocAttr, opn_zero], rfl, rfl⟩
end Go.Fg.X
/- The document's reader, walked: Decode. No conditions. -/
namespace Go.Fg.X
set_option linter.unusedSimpArgs false
set_option linter.unusedVariables false
open Go.Proofs Go.Fg
set_option maxRecDepth 100000
theorem RIn.Good.op {r : RIn} (h : r.Good) : r.op.2.Good := by
  have hc : ∀ {α : Type} (one : RIn → α × RIn) (h1 : ∀ x, RIn.Good x → (one x).2.Good) (n : Nat) (x : RIn) (out : List α), x.Good → (rloop one n x out).2.Good := by
    intro α one h1 n
    induction n with
    | zero => intro x out hx; exact hx
    | succ n ih => intro x out hx; exact ih _ _ (h1 x hx)
  simp only [RIn.op]
  split
  · split
    · exact hc _ (fun x hx => hx.change) _ _ _ ((h.next _ _ _).next _ _ _)
    split
    · exact hc _ (fun x hx => hx.head.head.next _ _ _) _ _ _ ((h.next _ _ _).next _ _ _)
    split
    · exact (((h.next _ _ _).next _ _ _).next _ _ _).head
    · exact (h.next _ _ _).next _ _ _
  · exact h.next _ _ _
def rdl : Nat → RIn → List Opn → List Opn × RIn
  | 0, x, out => (out, x)
  | n + 1, x, out => if x.err = 0 then rdl n x.op.2 (out ++ [x.op.1]) else (out, x)
def rdecV (s : List Int) : Scr × Int :=
  let t := (⟨s, 0, 0, 0⟩ : RIn).next 4 1 65536
  let m := t.next 4 1 16384
  let x := m.next 2 0 1000
  let r := rdl (w64 x.v).toNat x []
  if r.2.err = 0 then (if r.2.at_ < s.length then (⟨⟨0, 0⟩, []⟩, 2) else (⟨⟨w64 t.v, w64 m.v⟩, r.1⟩, 0)) else (⟨⟨0, 0⟩, []⟩, r.2.err)
theorem rnext_v2 {r : RIn} {n : Nat} {l m : Int} (h : r.err ≠ 0 → r.v = 0) : ((r.next n l m).v = 0 ∨ (l ≤ (r.next n l m).v ∧ (r.next n l m).v ≤ m)) ∧ ((r.next n l m).err ≠ 0 → (r.next n l m).v = 0) := by
  by_cases he : r.err = 0
  · refine ⟨RIn.next_v he n l m, ?_⟩
    simp only [RIn.next, if_pos he]
    split
    · intro _; rfl
    · split
      · intro _; rfl
      · intro h; exact absurd rfl h
  · simp only [RIn.next, if_neg he]
    exact ⟨.inl (h he), h⟩
structure RDl (n : Nat) (fin : List Opn × RIn) (i : Nat) (x : RIn) (out : List Opn) : Prop where
  len : out.length = i
  good : x.Good
  fin : rdl (n - i) x out = fin
@[go_sem] def dSt (r t m : RIn) (d0 : D) (n g i : Nat) (x : RIn) (out : List Opn) : St :=
  ⟨[(0, d0), (2, .ptr 0 0 0 0), (4, .ptr 2 0 0 0), (5, .ptr 3 0 0 0), (6, .ptr 4 0 0 0), (8, .ref 5 g 0 i), (22, dint n), (23, dint i)],
    [⟨.one, 0, 4, 1, fun _ => [.raw (.int .i64 0), .raw (.int .i64 0), .nil, .raw (.int .i64 0)]⟩, ⟨.one, 0, 4, 1, fun _ => r.cells⟩, ⟨.one, 0, 4, 1, fun _ => t.cells⟩, ⟨.one, 0, 4, 1, fun _ => m.cells⟩, ⟨.one, 0, 4, 1, fun _ => x.cells⟩, ⟨.arr, g, 10, i, Opn.rows out⟩]⟩
theorem rdecode_ok {s : List Int} (hby : Bytes s) (hlen : s.length ≤ 4294967296) : AFn Try.prog 21 [dstr s] (Ret (.agg ((rdecV s).1.cells ++ [dint (rdecV s).2]))) := by
  have h0 : RIn.Good ⟨s, 0, 0, 0⟩ := ⟨hby, hlen, Nat.zero_le _⟩
  have h1 := h0.next 4 1 65536
  have v1 := rnext_v2 (r := ⟨s, 0, 0, 0⟩) (n := 4) (l := 1) (m := 65536) (fun h => absurd rfl h)
  have c1 := rnext_ok' h0 (n := 4) (by decide) (l := 1) (m := 65536)
  simp only [rdecV, w64]
  generalize (⟨s, 0, 0, 0⟩ : RIn).next 4 1 65536 = t at *
  have h2 := h1.next 4 1 16384
  have v2 := rnext_v2 (n := 4) (l := 1) (m := 16384) v1.2
  have c2 := rnext_ok' h1 (n := 4) (by decide) (l := 1) (m := 16384)
  generalize t.next 4 1 16384 = m at *
  have h3 := h2.next 2 0 1000
  have v3 := rnext_v2 (n := 2) (l := 0) (m := 1000) v2.2
  have c3 := rnext_ok' h2 (n := 2) (by decide) (l := 0) (m := 1000)
  generalize m.next 2 0 1000 = x0 at *
  obtain ⟨n, hn⟩ := Int.eq_ofNat_of_zero_le (show 0 ≤ x0.v by have := v3.1; omega)
  have hn2 : n ≤ 1000 := by have := v3.1; omega
  have hw : IntKind.i64.wrap x0.v = (n : Int) := by rw [hn, wrap64 (by omega) (by omega)]
  simp only [hw, Int.toNat_natCast]
  generalize hfin : rdl n x0 [] = fin
  refine AFn.tell ?_
  refine AFn_hxk 0 cx_ok 200 Try.func21 rfl Try.ntmps21 Try.results21 rfl fun base w hb => ?_
  simp only [go_sem, simprocAttr]
  refine kont_call hb fn44 rfl ?_ c1 (Ret.flat rfl) rfl fun d h hR => ?_
  · simp only [go_sem, simprocAttr]
  obtain ⟨rfl, rfl⟩ := hR
  refine kont_of_hx cx_ok hb 200 ?_
  simp only [go_sem, simprocAttr]
  refine kont_call hb fn44 rfl ?_ c2 (Ret.flat rfl) rfl fun d h hR => ?_
  · simp only [go_sem, simprocAttr]
  obtain ⟨rfl, rfl⟩ := hR
  refine kont_of_hx cx_ok hb 200 ?_
  simp only [go_sem, simprocAttr]
  refine kont_call hb fn44 rfl ?_ c3 (Ret.flat rfl) rfl fun d h hR => ?_
  · simp only [go_sem, simprocAttr, hw]
  obtain ⟨rfl, rfl⟩ := hR
  refine kont_of_hx cx_ok hb 200 ?_
  simp only [go_sem, simprocAttr, hw]
  refine kont_weak_code (Weak.phantom 8 10 (Opn.rows []) rfl) ?_
  simp only [go_sem, simprocAttr]
  refine kont_for (fun i st => ∃ x out g, RDl n fin i x out ∧ st = dSt ⟨s, 0, 0, 0⟩ t m (dstr s) n g i x out) n (s0 := dSt ⟨s, 0, 0, 0⟩ t m (dstr s) n 0 0 x0 []) (Weak.to 6 (by simp only [go_sem, simprocAttr])) ⟨x0, [], 0, ⟨rfl, h3, hfin⟩, rfl⟩ ?_
  rintro i _ hin ⟨x, out, g, I, rfl⟩
  simp only [go_sem, simprocAttr]
  refine kont_of_hx cx_ok hb 200 ?_
  simp only [go_sem, simprocAttr]
  first | refine hite_lt hin (fun hk1 => ?_) (fun hk1 => ?_) | refine hite_ltI hin (fun hk1 => ?_) (fun hk1 => ?_)
  · simp only [go_sem, simprocAttr, hk1, decide_true]
    have hni : n - i = (n - (i + 1)) + 1 := by omega
    have hf := I.fin
    rw [hni, rdl] at hf
    by_cases he : x.err = 0
    · have e1 : (x.err != 0) = false := by simpa using he
      rw [if_pos he] at hf
      have cc := rop_ok I.good
      have hg2 := I.good.op
      generalize x.op = y at *
      simp only [go_sem, simprocAttr, e1]
      refine kont_callM hb [] fn45 rfl ?_ cc rfl fun d h hR => ?_
      · simp only [go_sem, simprocAttr]
      obtain ⟨rfl, rfl⟩ := hR
      simp only [go_sem, simprocAttr]
      refine kont_of_hx cx_ok hb 200 ?_
      simp only [go_sem, simprocAttr]
      refine ⟨by omega, hk1, dSt ⟨s, 0, 0, 0⟩ t m (dstr s) n (g + 1) (i + 1) y.2 (out ++ [y.1]), Weak.to 6 ?_, _, _, _, ⟨?_, hg2, hf⟩, rfl⟩
      · simp only [go_sem, simprocAttr]
        refine ⟨by rw [wrap_succ (by omega)], fun j hj => ?_⟩
        rw [getD_app out _ _ j (by have := I.len; omega), I.len]
        cases decide (j < i) <;> rfl
      · simp [I.len]
    · have e1 : (x.err != 0) = true := by simpa using he
      rw [if_neg he] at hf
      subst hf
      simp only [if_neg he]
      simp only [go_sem, simprocAttr, e1]
      refine kont_of_hx cx_ok hb 200 ?_
      simp only [go_sem, simprocAttr, e1]
      exact ⟨_, by simp only [go_sem, simprocAttr, Opn.rows], rfl, rfl⟩
  · simp only [go_sem, simprocAttr]
    subst hk1
    have hf := I.fin
    rw [Nat.sub_self, rdl] at hf
    subst hf
    have hsz := bytesS_size s
    by_cases he : x.err = 0
    · have e1 : (x.err != 0) = false := by simpa using he
      simp only [if_pos he]
      by_cases ha : x.at_ < s.length
      · have e2 : decide (x.at_ < s.length) = true := decide_eq_true ha
        simp only [if_pos ha]
        refine kont_of_hx cx_ok hb 200 ?_
        simp only [go_sem, simprocAttr, e1, hsz, e2]
        exact ⟨_, by simp only [go_sem, simprocAttr], rfl, rfl⟩
      · have e2 : decide (x.at_ < s.length) = false := decide_eq_false ha
        simp only [if_neg ha]
        refine kont_weak_code (Weak.freeze rfl 5 rfl rfl (fun j hj => rfl)) ?_
        simp only [go_sem, simprocAttr]
        refine kont_of_hx cx_ok hb 200 ?_
        simp only [go_sem, simprocAttr, e1, hsz, e2]
        exact ⟨_, dLe_refl _ _, by rw [I.len], rfl⟩
    · have e1 : (x.err != 0) = true := by simpa using he
      simp only [if_neg he]
      refine kont_of_hx cx_ok hb 200 ?_
      simp only [go_sem, simprocAttr, e1]
      exact ⟨_, by simp only [go_sem, simprocAttr], rfl, rfl⟩
end Go.Fg.X
/- The same script, held against itself: Same, Alike walked. No conditions. -/
namespace Go.Fg.X
set_option linter.unusedSimpArgs false
set_option linter.unusedVariables false
open Go.Proofs Go.Fg
set_option maxRecDepth 100000
theorem same_ok (x : Opn) (h1 : x.changes.length ≤ 4294967296) (h2 : x.rules.length ≤ 4294967296) : AFn Try.prog 27 [.agg x.cells, .agg x.cells] (Ret (dbool true)) := by
  have b1 : ∀ n : Int, (n != n) = false := fun n => by simp
  have b2 : ∀ n : Nat, (n != n) = false := fun n => by simp
  refine AFn_hxk 0 cx_ok 200 Try.func27 rfl Try.ntmps27 Try.results27 rfl fun base w hb => ?_
  simp only [go_sem, simprocAttr]
  simp only [go_sem, simprocAttr, b1, b2, bne_self_eq_false]
  refine kont_forF (G := Nat) [2, 3] (fun k => True) (fun k γ => [(47, .imm 15 x.changes.length (Chg.rows x.changes)), (48, dint x.changes.length), (49, dint k)]) (fun k γ => [⟨.one, 0, 10, 1, fun _ => x.cells⟩, ⟨.one, 0, 10, 1, fun _ => x.cells⟩]) (x.changes.length) (0) rfl (Weak.to 2 (by (simp only [go_sem, simprocAttr]) <;> simp)) trivial ?_
  intro k γ hk _
  refine kont_of_hx cx_ok hb 200 ?_
  simp only [go_sem, simprocAttr]
  first | refine hite_lt hk (fun hk1 => ?_) (fun hk1 => ?_) | refine hite_ltI hk (fun hk1 => ?_) (fun hk1 => ?_)
  · simp only [go_sem, simprocAttr, hk1, decide_true]
    refine kont_hax cx_ok hb 200 mixed [(0, true), (1, true), (2, true), (3, true), (4, true), (5, true), (6, true)] (by kernel_rfl) (by kernel_rfl) ?_
    simp only [go_sem, simprocAttr, b1, b2, bne_self_eq_false]
    have hwr := wrap_succ (k := k) (by omega)
    repeat (refine And.intro (by first | assumption | omega) ?_)
    refine ⟨_, Weak.to 2 (by (simp only [go_sem, simprocAttr, hwr]) <;> simp), ForS.mk (γ) (trivial)⟩
  · simp only [go_sem, simprocAttr]
    refine kont_of_hx cx_ok hb 200 ?_
    simp only [go_sem, simprocAttr, b1, b2]
    refine kont_forF (G := Nat) [2, 3] (fun k => True) (fun k γ => [(63, .imm 9 x.rules.length (Rul.rows x.rules)), (64, dint x.rules.length), (65, dint k)]) (fun k γ => [⟨.one, 0, 10, 1, fun _ => x.cells⟩, ⟨.one, 0, 10, 1, fun _ => x.cells⟩]) (x.rules.length) (0) rfl (Weak.to 2 (by (simp only [go_sem, simprocAttr]) <;> simp)) trivial ?_
    intro k γ hk _
    refine kont_of_hx cx_ok hb 200 ?_
    simp only [go_sem, simprocAttr]
    first | refine hite_lt hk (fun hk1 => ?_) (fun hk1 => ?_) | refine hite_ltI hk (fun hk1 => ?_) (fun hk1 => ?_)
    · simp only [go_sem, simprocAttr, hk1, decide_true]
      refine kont_hax cx_ok hb 200 mixed [(0, true), (1, true), (2, true), (3, true), (4, true), (5, true), (6, true)] (by kernel_rfl) (by kernel_rfl) ?_
      simp only [go_sem, simprocAttr, b1, b2, bne_self_eq_false]
      have hwr := wrap_succ (k := k) (by omega)
      repeat (refine And.intro (by first | assumption | omega) ?_)
      refine ⟨_, Weak.to 2 (by (simp only [go_sem, simprocAttr, hwr]) <;> simp), ForS.mk (γ) (trivial)⟩
    · simp only [go_sem, simprocAttr]
      refine kont_of_hx cx_ok hb 200 ?_
      simp only [go_sem, simprocAttr, b1, b2]
theorem alike_ok (x : Scr) (hl : x.ops.length ≤ 4294967296) (ho : ∀ o ∈ x.ops, o.changes.length ≤ 4294967296 ∧ o.rules.length ≤ 4294967296) : AFn Try.prog 22 [.agg x.cells, .agg x.cells] (Ret (dbool true)) := by
  have b1 : ∀ n : Int, (n != n) = false := fun n => by simp
  have b2 : ∀ n : Nat, (n != n) = false := fun n => by simp
  refine AFn_hxk 0 cx_ok 200 Try.func22 rfl Try.ntmps22 Try.results22 rfl fun base w hb => ?_
  simp only [go_sem, simprocAttr]
  simp only [go_sem, simprocAttr, b1, b2, bne_self_eq_false]
  refine kont_forF (G := Nat) [2, 3] (fun k => True) (fun k γ => [(22, .imm 10 x.ops.length (Opn.rows x.ops)), (23, dint x.ops.length), (24, dint k)]) (fun k γ => [⟨.one, 0, 3, 1, fun _ => x.cells⟩, ⟨.one, 0, 3, 1, fun _ => x.cells⟩]) (x.ops.length) (0) rfl (Weak.to 2 (by (simp only [go_sem, simprocAttr]) <;> simp)) trivial ?_
  intro k γ hk _
  refine kont_of_hx cx_ok hb 200 ?_
  simp only [go_sem, simprocAttr]
  first | refine hite_lt hk (fun hk1 => ?_) (fun hk1 => ?_) | refine hite_ltI hk (fun hk1 => ?_) (fun hk1 => ?_)
  · simp only [go_sem, simprocAttr, hk1, decide_true]
    have hm := ho _ (getD_mem x.ops default k hk1)
    have cc := same_ok (x.ops.getD k default) hm.1 hm.2
    refine kont_hax cx_ok hb 200 mixed [(0, true), (1, true), (2, true), (3, true), (4, true), (5, true), (6, false), (7, true)] (by kernel_rfl) (by kernel_rfl) ?_
    simp only [go_sem, simprocAttr, b1, b2, bne_self_eq_false]
    refine ⟨hk1, ?_⟩
    refine AX_callC hb fn27 rfl ?_ cc rfl fun d h hR => ?_
    · simp only [go_sem, simprocAttr]
    obtain ⟨rfl, rfl⟩ := hR
    simp only [go_sem, simprocAttr]
    refine AX_of_hax cx_ok hb ?_
    simp only [go_sem, simprocAttr]
    have hwr := wrap_succ (k := k) (by omega)
    repeat (refine And.intro (by first | assumption | omega) ?_)
    refine ⟨_, Weak.to 2 (by (simp only [go_sem, simprocAttr, hwr]) <;> simp), ForS.mk (γ) (trivial)⟩
  · simp only [go_sem, simprocAttr]
    refine kont_of_hx cx_ok hb 200 ?_
    simp only [go_sem, simprocAttr, b1, b2]
end Go.Fg.X
/- The closed example of law29, walked. No conditions. -/
namespace Go.Fg.X
set_option linter.unusedSimpArgs false
set_option linter.unusedVariables false
open Go.Proofs Go.Fg
set_option maxRecDepth 100000
def x5 : Scr := ⟨⟨1, 100⟩, [⟨4, [], [], ⟨0, 0, 0, 0, 0, 0⟩, 5⟩]⟩
def s5 : List Int := [0, 0, 0, 1, 0, 0, 0, 100, 0, 1, 4, 0, 0, 0, 0, 0, 0, 0, 5]
theorem enc5 : encV x5 = (s5, 0) := by rfl
theorem dec5 : decV s5 = (x5, 0) := by rfl
theorem x5_ok : Scr.Ok x5 := by
  refine ⟨⟨by decide, by decide, trivial⟩, ⟨by simp [x5, maxLen], ?_⟩, trivial⟩
  intro a ha
  simp only [x5, List.mem_singleton] at ha
  subst ha
  exact ⟨by decide, ⟨by simp, by simp⟩, ⟨by simp, by simp⟩, ⟨by decide, by decide, by decide, by decide, by decide, by decide, trivial⟩, by decide, trivial⟩
theorem s5_bytes : Bytes s5 := by
  intro x hx
  simp only [s5, List.mem_cons, List.not_mem_nil, or_false] at hx
  omega
@[go_sem] def x5n : List D := [dint 4, .nil, .nil, du64 0, dint 0, du16 0, du16 0, du16 0, du16 0, du64 5]
theorem tell5 : lLeOf (dLe 6) [.agg [dint 1, dint 100, .imm 10 1 fun _ => x5n]] [.agg x5.cells] := by
  simp only [go_sem, simprocAttr, x5]
  intro i hi
  obtain rfl : i = 0 := by omega
  exact ⟨rfl, rfl, rfl, rfl, rfl, rfl, rfl, rfl, rfl, rfl⟩
theorem five_ok : AFn Try.prog 19 [] (Ret (dbool true)) := by
  have c1 := encode_ok x5_ok
  rw [enc5] at c1
  have c2 := decode_ok s5_bytes (by simp [s5, maxLen])
  rw [dec5] at c2
  have c3 := alike_ok x5 (by simp [x5]) (by simp [x5])
  have q1 := c1.tellArgs (cs' := [.agg [dint 1, dint 100, .imm 10 1 fun _ => x5n]]) tell5
  have q3 := c3.tellArgs (cs' := [.agg [dint 1, dint 100, .imm 10 1 fun _ => x5n], .agg x5.cells]) ⟨tell5.1, by simp only [go_sem, simprocAttr], trivial⟩
  refine AFn_hxk 0 cx_ok 200 Try.func19 rfl Try.ntmps19 Try.results19 rfl fun base w hb => ?_
  simp only [go_sem, simprocAttr]
  refine kont_weak_ops (Weak.freeze rfl 0 rfl rfl (fun i hi => rfl)) ?_
  simp only [go_sem, simprocAttr]
  refine kont_callM hb [] fn24 rfl ?_ q1 rfl fun d h hR => ?_
  · simp only [go_sem, simprocAttr]
  obtain ⟨rfl, rfl⟩ := hR
  simp only [go_sem, simprocAttr]
  refine kont_of_hx cx_ok hb 200 ?_
  simp only [go_sem, simprocAttr]
  refine kont_callM hb [] fn20 rfl ?_ c2 rfl fun d h hR => ?_
  · simp only [go_sem, simprocAttr]
  obtain ⟨rfl, rfl⟩ := hR
  simp only [go_sem, simprocAttr]
  refine kont_of_hx cx_ok hb 200 ?_
  simp only [go_sem, simprocAttr]
  refine kont_str cx_ok.L rfl rfl rfl rfl rfl s5 ⟨⟨rfl, by show 0 + 19 ≤ 19; omega⟩, rfl, fun i hi => ?_⟩ rfl ?_
  · have hi2 : i < 19 := hi
    match i, hi2 with
    | 0, _ => exact rfl
    | 1, _ => exact rfl
    | 2, _ => exact rfl
    | 3, _ => exact rfl
    | 4, _ => exact rfl
    | 5, _ => exact rfl
    | 6, _ => exact rfl
    | 7, _ => exact rfl
    | 8, _ => exact rfl
    | 9, _ => exact rfl
    | 10, _ => exact rfl
    | 11, _ => exact rfl
    | 12, _ => exact rfl
    | 13, _ => exact rfl
    | 14, _ => exact rfl
    | 15, _ => exact rfl
    | 16, _ => exact rfl
    | 17, _ => exact rfl
    | 18, _ => exact rfl
    | n + 19, h => exact absurd h (by omega)
  refine kont_of_hx cx_ok hb 200 ?_
  simp only [go_sem, simprocAttr]
  refine kont_callM hb [] fn22 rfl ?_ q3 rfl fun d h hR => ?_
  · simp only [go_sem, simprocAttr]
  obtain ⟨rfl, rfl⟩ := hR
  simp only [go_sem, simprocAttr]
  refine kont_of_hx cx_ok hb 200 ?_
  simp only [go_sem, simprocAttr]
end Go.Fg.X
/- What the reader of the program comes to is what the document's reader comes to. Plain. No conditions. -/
namespace Go.Fg.X
set_option linter.unusedSimpArgs false
set_option linter.unusedVariables false
open Go.Proofs Go.Fg
set_option maxRecDepth 100000
structure Rl (S : List Int) (s : DSt) (r : RIn) : Prop where
  str : r.s = S
  err : s.err = r.err
  v : r.err ≠ 0 → r.v = 0
  at_ : r.err = 0 → s.rest = S.drop r.at_ ∧ r.at_ ≤ S.length
theorem Rl.step {S : List Int} {s : DSt} {r : RIn} (h : Rl S s r) (n : Nat) (l m : Int) :
    Rl S (dstep s n l m).1 (r.next n l m) ∧ (dstep s n l m).2 = (r.next n l m).v ∧ ((r.next n l m).v = 0 ∨ (l ≤ (r.next n l m).v ∧ (r.next n l m).v ≤ m)) := by
  obtain ⟨h1, h2, h3, h4⟩ := h
  by_cases he : r.err = 0
  · obtain ⟨h5, h6⟩ := h4 he
    have hl : s.rest.length = S.length - r.at_ := by rw [h5, List.length_drop]
    rw [dstep, RIn.next, if_pos (h2.trans he), if_pos he, h1]
    dsimp only
    by_cases hs : s.rest.length < n
    · have hs2 : (S.length : Int) - r.at_ < n := by omega
      rw [if_pos hs, if_pos hs2]
      exact ⟨⟨rfl, rfl, fun _ => rfl, fun e => absurd e (by show ¬((3 : Int) = 0); decide)⟩, rfl, .inl rfl⟩
    · have hs2 : ¬ ((S.length : Int) - r.at_ < n) := by omega
      rw [if_neg hs, if_neg hs2, h5]
      by_cases hb : be ((S.drop r.at_).take n) < l ∨ m < be ((S.drop r.at_).take n)
      · rw [if_pos hb, if_pos hb]
        exact ⟨⟨rfl, rfl, fun _ => rfl, fun e => absurd e (by show ¬((4 : Int) = 0); decide)⟩, rfl, .inl rfl⟩
      · rw [if_neg hb, if_neg hb]
        refine ⟨⟨rfl, rfl, fun e => absurd rfl e, fun _ => ⟨?_, ?_⟩⟩, rfl, .inr ⟨by dsimp only; omega, by dsimp only; omega⟩⟩
        · simp only [List.drop_drop]
        · show r.at_ + n ≤ S.length; omega
  · rw [dstep, RIn.next, if_neg (by rw [h2]; exact he), if_neg he]
    exact ⟨⟨h1, h2, h3, h4⟩, (h3 he).symm, .inl (h3 he)⟩
theorem Rl.keep {S : List Int} {s : DSt} {r : RIn} (h : Rl S s r) (he : s.err ≠ 0) (n : Nat) (l m : Int) : dstep s n l m = (s, 0) := by rw [dstep, if_neg he]
theorem w64_id {n : Int} (h : 0 ≤ n) (h2 : n < 9223372036854775808) : w64 n = n := wrap64 (by omega) (by omega)
theorem w16_id {n : Int} (h : 0 ≤ n) (h2 : n < 65536) : w16 n = n := by rw [w16, IntKind.wrap_u16]; omega
variable {S : List Int} {s : decM.σ} {r : RIn}
theorem Rl.curve (h : Rl S s r) (x : Cv) : Rl S ((pcurve x).run decM s).1 r.curve.2 ∧ ((pcurve x).run decM s).2 = r.curve.1 := by
  obtain ⟨a, a2, _⟩ := h.step 4 0 4294967295
  obtain ⟨b, b2, _⟩ := a.step 4 0 1048576
  obtain ⟨c, c2, _⟩ := b.step 4 0 4294967295
  simp only [pcurve, Prog.run, decM, RIn.curve]
  exact ⟨c, by rw [a2, b2, c2]⟩
theorem Rl.head (h : Rl S s r) (x : Hd) : Rl S ((phead x).run decM s).1 r.head.2 ∧ ((phead x).run decM s).2 = r.head.1 := by
  obtain ⟨a, a2, a3⟩ := h.step 2 0 65535
  obtain ⟨b, b2, b3⟩ := a.step 2 0 65535
  obtain ⟨c, c2, c3⟩ := b.step 2 0 65535
  obtain ⟨d, d2, d3⟩ := c.step 2 0 65535
  simp only [phead, Prog.run, decM, RIn.head]
  refine ⟨d, ?_⟩
  rw [a2, b2, c2, d2, w16_id (by omega) (by omega), w16_id (by omega) (by omega), w16_id (by omega) (by omega), w16_id (by omega) (by omega)]
theorem Rl.change (h : Rl S s r) (x : Chg) : Rl S ((pchange x).run decM s).1 r.change.2 ∧ ((pchange x).run decM s).2 = r.change.1 := by
  obtain ⟨k, k2, k3⟩ := h.step 1 1 3
  obtain ⟨i, i2, i3⟩ := k.step 4 0 65536
  obtain ⟨p, p2, p3⟩ := i.step 4 0 65536
  obtain ⟨l, l2, l3⟩ := p.step 1 0 1
  obtain ⟨a, a2⟩ := l.curve x.cls.rt
  obtain ⟨b, b2⟩ := a.curve x.cls.ls
  obtain ⟨c, c2⟩ := b.curve x.cls.ul
  obtain ⟨d, d2, d3⟩ := c.step 1 0 64
  obtain ⟨e, e2, e3⟩ := d.step 4 0 1048576
  simp only [pchange, pclass, Prog.run, Prog.run_bind, RIn.change, show decM.step = fun s _ k l m => dstep s k l m from rfl]
  refine ⟨e, ?_⟩
  rw [k2, i2, p2, l2, a2, b2, c2, d2, e2, w64_id (by omega) (by omega), w64_id (by omega) (by omega), w64_id (by omega) (by omega), w64_id (by omega) (by omega), w64_id (by omega) (by omega)]
theorem Rl.rule (h : Rl S s r) (x : Rul) : Rl S ((prule x).run decM s).1 r.rule.2 ∧ ((prule x).run decM s).2 = r.rule.1 := by
  obtain ⟨a, a2⟩ := h.head ⟨x.mask0, x.mask1, x.mask2, x.mask3⟩
  obtain ⟨b, b2⟩ := a.head ⟨x.want0, x.want1, x.want2, x.want3⟩
  obtain ⟨c, c2, c3⟩ := b.step 4 0 65536
  simp only [prule, Prog.run, Prog.run_bind, RIn.rule, show decM.step = fun s _ k l m => dstep s k l m from rfl]
  refine ⟨c, ?_⟩
  rw [a2, b2, c2, w64_id (by omega) (by omega)]
theorem rloop_err {α : Type} {one : RIn → α × RIn} (h1 : ∀ x, x.err ≠ 0 → (one x).2 = x) : ∀ (n : Nat) (x : RIn) (out : List α), x.err ≠ 0 → (rloop one n x out).2 = x
  | 0, _, _, _ => rfl
  | n + 1, x, out, h => by rw [rloop, h1 x h]; exact rloop_err h1 n x _ h
theorem Rl.loop {α : Type} [Inhabited α] {p : α → Prog α} {one : RIn → α × RIn}
    (h1 : ∀ {s : decM.σ} {r} (x : α), Rl S s r → Rl S ((p x).run decM s).1 (one r).2 ∧ ((p x).run decM s).2 = (one r).1) (h2 : ∀ x, x.err ≠ 0 → (one x).2 = x) (l : List α) :
    ∀ (n i : Nat) (out : List α) {s : decM.σ} {r : RIn}, Rl S s r → Rl S ((ploop p l n i out).run decM s).1 (rloop one n r out).2 ∧ ((rloop one n r out).2.err = 0 → ((ploop p l n i out).run decM s).2 = (rloop one n r out).1)
  | 0, i, out, s, r, h => ⟨h, fun _ => rfl⟩
  | n + 1, i, out, s, r, h => by
    rw [run_ploop]
    by_cases he : (show DSt from s).err = 0
    · have e1 : (decM.err s != 0) = false := by show ((show DSt from s).err != 0) = false; rw [he]; rfl
      obtain ⟨a, a2⟩ := h1 (l.getD i default) h
      rw [e1, cond_false, rloop, a2]
      exact Rl.loop h1 h2 l n (i + 1) _ a
    · have e1 : (decM.err s != 0) = true := by show ((show DSt from s).err != 0) = true; simpa using he
      have he2 : r.err ≠ 0 := by rw [← h.err]; exact he
      rw [e1, cond_true, rloop_err h2 _ _ _ he2]
      exact ⟨h, fun e => absurd e he2⟩
theorem rnext_err {x : RIn} (h : x.err ≠ 0) (n : Nat) (l m : Int) : x.next n l m = x := by rw [RIn.next, if_neg h]
theorem rcurve_err {x : RIn} (h : x.err ≠ 0) : x.curve.2 = x := by simp only [RIn.curve, rnext_err h]
theorem rhead_err {x : RIn} (h : x.err ≠ 0) : x.head.2 = x := by simp only [RIn.head, rnext_err h]
theorem rchange_err {x : RIn} (h : x.err ≠ 0) : x.change.2 = x := by simp only [RIn.change, rnext_err h, rcurve_err h]
theorem rrule_err {x : RIn} (h : x.err ≠ 0) : x.rule.2 = x := by simp only [RIn.rule, rnext_err h, rhead_err h]
theorem Rl.changes (h : Rl S s r) (l : List Chg) : Rl S ((plist pchange l).run decM s).1 r.changes.2 ∧ (r.changes.2.err = 0 → ((plist pchange l).run decM s).2 = r.changes.1) := by
  obtain ⟨a, a2, _⟩ := h.step 1 0 32
  simp only [plist, Prog.run, RIn.changes, show decM.step = fun s _ k l m => dstep s k l m from rfl]
  rw [a2]
  exact Rl.loop (fun x h => h.change x) (fun x h => rchange_err h) l _ 0 [] a
theorem Rl.rules (h : Rl S s r) (l : List Rul) : Rl S ((plist prule l).run decM s).1 r.rules.2 ∧ (r.rules.2.err = 0 → ((plist prule l).run decM s).2 = r.rules.1) := by
  obtain ⟨a, a2, _⟩ := h.step 1 0 32
  simp only [plist, Prog.run, RIn.rules, show decM.step = fun s _ k l m => dstep s k l m from rfl]
  rw [a2]
  exact Rl.loop (fun x h => h.rule x) (fun x h => rrule_err h) l _ 0 [] a
theorem Rl.packet (h : Rl S s r) (x : Pk) : Rl S ((ppacket x).run decM s).1 (((r.next 8 0 18446744073709551615).next 2 1 16384).head).2 ∧
    ((ppacket x).run decM s).2 = ⟨(r.next 8 0 18446744073709551615).v, w64 ((r.next 8 0 18446744073709551615).next 2 1 16384).v, (((r.next 8 0 18446744073709551615).next 2 1 16384).head).1.a, (((r.next 8 0 18446744073709551615).next 2 1 16384).head).1.b, (((r.next 8 0 18446744073709551615).next 2 1 16384).head).1.c, (((r.next 8 0 18446744073709551615).next 2 1 16384).head).1.d⟩ := by
  obtain ⟨a, a2, a3⟩ := h.step 8 0 18446744073709551615
  obtain ⟨b, b2, b3⟩ := a.step 2 1 16384
  obtain ⟨c, c2⟩ := b.head ⟨x.head0, x.head1, x.head2, x.head3⟩
  simp only [ppacket, Prog.run, Prog.run_bind, show decM.step = fun s _ k l m => dstep s k l m from rfl]
  refine ⟨c, ?_⟩
  rw [a2, b2, c2, w64_id (by omega) (by omega)]
theorem Rl.op (h : Rl S s r) (he : r.err = 0) (x : Opn) : Rl S ((pop x).run decM s).1 r.op.2 ∧ (r.op.2.err = 0 → ((pop x).run decM s).2 = r.op.1) := by
  obtain ⟨a, a2, a3⟩ := h.step 1 1 4
  simp only [pop, Prog.run, RIn.op, show decM.step = fun s _ k l m => dstep s k l m from rfl]
  rw [a2]
  generalize hk : r.next 1 1 4 = k at *
  by_cases hke : k.err = 0
  · have hv := (RIn.next_ok (r := r) (n := 1) (l := 1) (m := 4) (by rw [hk]; exact hke)).2
    rw [hk] at hv
    rw [if_pos hke]
    have hc : k.v = 1 ∨ k.v = 2 ∨ k.v = 3 ∨ k.v = 4 := by omega
    rcases hc with e | e | e | e <;> rw [e]
    · rw [run_pop2_1, if_pos rfl]
      obtain ⟨b, b2⟩ := a.changes x.changes
      exact ⟨b, fun e => by simp only [b2 e]⟩
    · rw [run_pop2_2, if_neg (by decide), if_pos rfl]
      obtain ⟨b, b2⟩ := a.rules x.rules
      exact ⟨b, fun e => by simp only [b2 e]⟩
    · rw [run_pop2_3, if_neg (by decide), if_neg (by decide), if_pos rfl]
      obtain ⟨b, b2⟩ := a.packet x.packet
      exact ⟨b, fun e => by simp only [b2]⟩
    · rw [run_pop2_4, if_neg (by decide), if_neg (by decide), if_neg (by decide)]
      obtain ⟨b, b2, _⟩ := a.step 8 0 18446744073709551615
      exact ⟨b, fun e => by simp only [decM, b2]⟩
  · rw [if_neg hke, a.v hke, run_pop2_0]
    exact ⟨a, fun e => absurd e hke⟩
theorem Rl.ops (l : List Opn) : ∀ (n i : Nat) (out : List Opn) {s : decM.σ} {r : RIn}, Rl S s r → Rl S ((psloop l n i out).run decM s).1 (rdl n r out).2 ∧ ((rdl n r out).2.err = 0 → ((psloop l n i out).run decM s).2 = some (rdl n r out).1)
  | 0, i, out, s, r, h => ⟨h, fun _ => rfl⟩
  | n + 1, i, out, s, r, h => by
    rw [run_psloop, rdl]
    by_cases he : r.err = 0
    · have e1 : (decM.err s != 0) = false := by show ((show DSt from s).err != 0) = false; rw [h.err, he]; rfl
      rw [e1, cond_false, if_pos he]
      obtain ⟨a, a2⟩ := h.op he (l.getD i default)
      by_cases hf : r.op.2.err = 0
      · rw [a2 hf]
        exact Rl.ops l n (i + 1) _ a
      · cases n with
        | zero => exact ⟨a, fun e => absurd e hf⟩
        | succ n =>
          have e2 : (decM.err ((pop (l.getD i default)).run decM s).1 != 0) = true := by
            show ((show DSt from ((pop (l.getD i default)).run decM s).1).err != 0) = true
            rw [a.err]; simpa using hf
          rw [run_psloop, e2, cond_true, rdl, if_neg hf]
          exact ⟨a, fun e => absurd e hf⟩
    · have e1 : (decM.err s != 0) = true := by show ((show DSt from s).err != 0) = true; rw [h.err]; simpa using he
      rw [e1, cond_true, if_neg he]
      exact ⟨h, fun e => absurd e he⟩
theorem decV_eq (bs : List Int) : decV bs = rdecV bs := by
  have h0 : Rl bs ⟨bs, 0⟩ ⟨bs, 0, 0, 0⟩ := ⟨rfl, rfl, fun e => absurd rfl e, fun _ => ⟨rfl, Nat.zero_le _⟩⟩
  obtain ⟨a, a2, a3⟩ := h0.step 4 1 65536
  obtain ⟨b, b2, b3⟩ := a.step 4 1 16384
  obtain ⟨c, c2, c3⟩ := b.step 2 0 1000
  simp only [decV, rdecV, pscript, Prog.run, Prog.run_bind, show decM.step = fun s _ k l m => dstep s k l m from rfl]
  rw [a2, b2, c2, w64_id (n := ((((⟨bs, 0, 0, 0⟩ : RIn).next 4 1 65536).next 4 1 16384).next 2 0 1000).v) (by omega) (by omega), w64_id (by omega) (by omega), w64_id (by omega) (by omega)]
  obtain ⟨d, d2⟩ := Rl.ops zscr.ops ((((⟨bs, 0, 0, 0⟩ : RIn).next 4 1 65536).next 4 1 16384).next 2 0 1000).v.toNat 0 [] c
  generalize hP : (psloop zscr.ops ((((⟨bs, 0, 0, 0⟩ : RIn).next 4 1 65536).next 4 1 16384).next 2 0 1000).v.toNat 0 []).run decM _ = P
  have d' : Rl bs P.1 _ := hP ▸ d
  have d2' := d2
  rw [show Prog.run decM _ _ = P from hP] at d2'
  generalize rdl _ _ _ = R at *
  clear d d2
  rw [d'.err]
  by_cases he : R.2.err = 0
  · rw [if_pos he, if_pos he, d2' he]
    have h5 := d'.at_ he
    have hl : P.1.rest.length = bs.length - R.2.at_ := by rw [h5.1, List.length_drop]
    by_cases hr : R.2.at_ < bs.length
    · rw [if_pos (by omega), if_pos hr]; rfl
    · rw [if_neg (by omega), if_neg hr]; rfl
  · rw [if_neg he, if_neg he]; rfl
end Go.Fg.X
/- ScriptDecodes, walked. No conditions. -/
namespace Go.Fg.X
set_option linter.unusedSimpArgs false
set_option linter.unusedVariables false
open Go.Proofs Go.Fg
set_option maxRecDepth 100000
theorem rloop_len {α : Type} {one : RIn → α × RIn} : ∀ (n : Nat) (x : RIn) (out : List α), (rloop one n x out).1.length = out.length + n
  | 0, _, _ => rfl
  | n + 1, x, out => by rw [rloop, rloop_len n]; simp; omega
def Opn.Small (o : Opn) : Prop := o.changes.length ≤ 32 ∧ o.rules.length ≤ 32
theorem rop_small (r : RIn) : r.op.1.Small := by
  have hv := fun (k : RIn) (he : k.err = 0) => RIn.next_v he 1 0 32
  simp only [RIn.op]
  split
  · rename_i he
    have h := hv _ he
    split
    · exact ⟨by simp only [RIn.changes, rloop_len, List.length_nil]; omega, by simp⟩
    split
    · exact ⟨by simp, by simp only [RIn.rules, rloop_len, List.length_nil]; omega⟩
    split
    · exact ⟨by simp, by simp⟩
    · exact ⟨by simp, by simp⟩
  · rw [opn_zero]; exact ⟨by simp, by simp⟩
theorem rdl_small : ∀ (n : Nat) (x : RIn) (out : List Opn), (∀ o ∈ out, o.Small) → (∀ o ∈ (rdl n x out).1, o.Small) ∧ (rdl n x out).1.length ≤ out.length + n
  | 0, x, out, h => ⟨h, Nat.le_refl _⟩
  | n + 1, x, out, h => by
    rw [rdl]
    split
    · obtain ⟨a, b⟩ := rdl_small n x.op.2 (out ++ [x.op.1]) (fun o ho => by
        rw [List.mem_append, List.mem_singleton] at ho
        rcases ho with ho | rfl
        · exact h o ho
        · exact rop_small x)
      exact ⟨a, by simp at b; omega⟩
    · exact ⟨h, by simp⟩
theorem rdecV_small (s : List Int) : (rdecV s).1.ops.length ≤ 1000 ∧ ∀ o ∈ (rdecV s).1.ops, o.Small := by
  have v1 := rnext_v2 (r := ⟨s, 0, 0, 0⟩) (n := 4) (l := 1) (m := 65536) (fun h => absurd rfl h)
  have v2 := rnext_v2 (n := 4) (l := 1) (m := 16384) v1.2
  have v3 := rnext_v2 (n := 2) (l := 0) (m := 1000) v2.2
  obtain ⟨a, b⟩ := rdl_small (w64 ((((⟨s, 0, 0, 0⟩ : RIn).next 4 1 65536).next 4 1 16384).next 2 0 1000).v).toNat ((((⟨s, 0, 0, 0⟩ : RIn).next 4 1 65536).next 4 1 16384).next 2 0 1000) [] (by simp)
  rw [w64_id (by omega) (by omega)] at a b
  simp only [rdecV]
  rw [w64_id (n := ((((⟨s, 0, 0, 0⟩ : RIn).next 4 1 65536).next 4 1 16384).next 2 0 1000).v) (by omega) (by omega)]
  split
  · split
    · exact ⟨by simp, by simp⟩
    · simp only [List.length_nil] at b
      exact ⟨by simp only; omega, a⟩
  · exact ⟨by simp, by simp⟩
theorem scriptDecodes_ok {s : List Int} (hby : Bytes s) : AFn Try.prog 6 [dstr s] (Ret (dbool true)) := by
  have hsz := bytesS_size s
  have b1 : ∀ n : Int, (n == n) = true := fun n => by simp
  by_cases hl : 20000 < s.length
  · have e1 : decide ((20000 : Int) < s.length) = true := decide_eq_true (by omega)
    refine AFn_hxk 0 cx_ok 200 Try.func6 rfl Try.ntmps6 Try.results6 rfl fun base w hb => ?_
    simp only [go_sem, simprocAttr]
    simp only [go_sem, simprocAttr, hsz, e1]
    refine kont_call hb fn19 rfl ?_ five_ok (Ret.flat rfl) rfl fun d h hR => ?_
    · simp only [go_sem, simprocAttr]
    obtain ⟨rfl, rfl⟩ := hR
    refine kont_of_hx cx_ok hb 200 ?_
    simp only [go_sem, simprocAttr]
  · have e1 : decide ((20000 : Int) < s.length) = false := decide_eq_false (by omega)
    have c1 := decode_ok hby (by simp only [maxLen]; omega)
    have c2 := rdecode_ok hby (by omega)
    rw [decV_eq] at c1
    obtain ⟨m1, m2⟩ := rdecV_small s
    have c3 := alike_ok (rdecV s).1 (by omega) (fun o ho => by have := m2 o ho; exact ⟨by have := this.1; omega, by have := this.2; omega⟩)
    generalize rdecV s = r at *
    refine AFn_hxk 0 cx_ok 200 Try.func6 rfl Try.ntmps6 Try.results6 rfl fun base w hb => ?_
    simp only [go_sem, simprocAttr]
    simp only [go_sem, simprocAttr, hsz, e1]
    refine kont_callM hb [] fn20 rfl ?_ c1 rfl fun d h hR => ?_
    · simp only [go_sem, simprocAttr]
    obtain ⟨rfl, rfl⟩ := hR
    simp only [go_sem, simprocAttr]
    refine kont_of_hx cx_ok hb 200 ?_
    simp only [go_sem, simprocAttr]
    refine kont_callM hb [] fn21 rfl ?_ c2 rfl fun d h hR => ?_
    · simp only [go_sem, simprocAttr]
    obtain ⟨rfl, rfl⟩ := hR
    simp only [go_sem, simprocAttr]
    refine kont_of_hx cx_ok hb 200 ?_
    simp only [go_sem, simprocAttr]
    refine kont_callM hb [] fn22 rfl ?_ c3 rfl fun d h hR => ?_
    · simp only [go_sem, simprocAttr]
    obtain ⟨rfl, rfl⟩ := hR
    simp only [go_sem, simprocAttr]
    refine kont_of_hx cx_ok hb 200 ?_
    simp only [go_sem, simprocAttr]
    refine kont_call hb fn19 rfl ?_ five_ok (Ret.flat rfl) rfl fun d h hR => ?_
    · simp only [go_sem, simprocAttr]
    obtain ⟨rfl, rfl⟩ := hR
    refine kont_of_hx cx_ok hb 200 ?_
    simp only [go_sem, simprocAttr]
end Go.Fg.X
