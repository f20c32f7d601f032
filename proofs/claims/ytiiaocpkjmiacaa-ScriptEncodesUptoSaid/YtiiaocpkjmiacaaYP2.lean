/- Walks of the functions that the statement reaches. No conditions: contracts and laws. -/
import Derived.Test.YtiiaocpkjmiacaaYL4
import Derived.Test.YtiiaocpkjmiacaaYK1
/- The document's reader, walked: rules. No conditions. -/
namespace Go.Fg.X
set_option linter.unusedSimpArgs false
set_option linter.unusedVariables false
open Go.Proofs Go.Fg
set_option maxRecDepth 100000
def RIn.rule (x : RIn) : Rul × RIn :=
  let m := x.head
  let w := m.2.head
  let y := w.2.next 4 0 65536
  (⟨m.1.a, m.1.b, m.1.c, m.1.d, w.1.a, w.1.b, w.1.c, w.1.d, w64 y.v⟩, y)
def RIn.rules (r : RIn) : List Rul × RIn := rloop RIn.rule (r.next 1 0 32).v.toNat (r.next 1 0 32) []
@[go_sem] def rSu (r : RIn) (n g i : Nat) (x : RIn) (out : List Rul) : St :=
  ⟨[(1, .ptr 0 0 0 0), (2, .nil), (3, .ptr 1 0 0 0), (4, .ref 3 g 0 i), (5, .ptr 2 0 0 0), (16, dint n), (17, dint i)],
    [⟨.one, 0, 4, 1, fun _ => r.cells⟩, ⟨.one, 0, 4, 1, fun _ => [.raw (.string ByteArray.empty), .raw (.int .i64 0), .raw (.int .u64 0), .raw (.int .i64 0)]⟩, ⟨.one, 0, 4, 1, fun _ => x.cells⟩, ⟨.arr, g, 9, i, Rul.rows out⟩]⟩
theorem rrules_ok {r : RIn} (h : r.Good) (he : r.err = 0) : AFn Try.prog 85 [.agg r.cells] (Ret (.tup [.imm 9 r.rules.1.length (Rul.rows r.rules.1), .agg r.rules.2.cells])) := by
  simp only [RIn.rules]
  have h1 := h.next 1 0 32
  have hv := RIn.next_v he 1 0 32
  have c1 := rnext_ok' h (n := 1) (by decide) (l := 0) (m := 32)
  generalize r.next 1 0 32 = x0 at *
  obtain ⟨n, hn⟩ := Int.eq_ofNat_of_zero_le (show 0 ≤ x0.v by omega)
  have hn2 : n ≤ 32 := by omega
  have hw : IntKind.i64.wrap x0.v = (n : Int) := by rw [hn, wrap64 (by omega) (by omega)]
  rw [hn, Int.toNat_natCast]
  generalize hfin : rloop RIn.rule n x0 [] = fin
  refine AFn_hxk 0 cx_ok 200 Try.func85 rfl Try.ntmps85 Try.results85 rfl fun base w hb => ?_
  simp only [go_sem, simprocAttr]
  refine kont_call hb fn44 rfl ?_ c1 (Ret.flat rfl) rfl fun d h hR => ?_
  · simp only [go_sem, simprocAttr, hw]
  obtain ⟨rfl, rfl⟩ := hR
  refine kont_of_hx cx_ok hb 200 ?_
  simp only [go_sem, simprocAttr, hw]
  refine kont_weak_code (Weak.phantom 4 9 (Rul.rows []) rfl) ?_
  simp only [go_sem, simprocAttr]
  refine kont_for (fun i st => ∃ x out g, RLoop RIn.rule n fin i x out ∧ st = rSu r n g i x out) n (s0 := rSu r n 0 0 x0 []) (Weak.to 4 (by simp only [go_sem, simprocAttr])) ⟨x0, [], 0, ⟨rfl, h1, hfin⟩, rfl⟩ ?_
  rintro i _ hin ⟨x, out, g, I, rfl⟩
  simp only [go_sem, simprocAttr]
  refine kont_of_hx cx_ok hb 200 ?_
  simp only [go_sem, simprocAttr]
  first | refine hite_lt hin (fun hk1 => ?_) (fun hk1 => ?_) | refine hite_ltI hin (fun hk1 => ?_) (fun hk1 => ?_)
  · simp only [go_sem, simprocAttr, hk1, decide_true]
    have hni : n - i = (n - (i + 1)) + 1 := by omega
    have hf := I.fin
    rw [hni, rloop] at hf
    have g1 := I.good.head
    have k1 := rhead_ok I.good
    simp only [RIn.rule, w64] at hf
    generalize x.head = m at *
    have g2 := g1.head
    have k2 := rhead_ok g1
    generalize m.2.head = v at *
    have g3 := g2.next 4 0 65536
    have k3 := rnext_ok' g2 (n := 4) (by decide) (l := 0) (m := 65536)
    generalize v.2.next 4 0 65536 = y at *
    refine kont_call hb fn86 rfl ?_ k1 (Ret.flat rfl) rfl fun d h hR => ?_
    · simp only [go_sem, simprocAttr]
    obtain ⟨rfl, rfl⟩ := hR
    refine kont_of_hx cx_ok hb 200 ?_
    simp only [go_sem, simprocAttr]
    refine kont_call hb fn86 rfl ?_ k2 (Ret.flat rfl) rfl fun d h hR => ?_
    · simp only [go_sem, simprocAttr]
    obtain ⟨rfl, rfl⟩ := hR
    refine kont_of_hx cx_ok hb 200 ?_
    simp only [go_sem, simprocAttr]
    refine kont_call hb fn44 rfl ?_ k3 (Ret.flat rfl) rfl fun d h hR => ?_
    · simp only [go_sem, simprocAttr]
    obtain ⟨rfl, rfl⟩ := hR
    refine kont_of_hx cx_ok hb 200 ?_
    simp only [go_sem, simprocAttr]
    refine ⟨by omega, hk1, rSu r n (g + 1) (i + 1) y (out ++ [⟨m.1.a, m.1.b, m.1.c, m.1.d, v.1.a, v.1.b, v.1.c, v.1.d, IntKind.i64.wrap y.v⟩]), Weak.to 4 ?_, _, _, _, ⟨?_, g3, hf⟩, rfl⟩
    · simp only [go_sem, simprocAttr]
      refine ⟨by rw [wrap_succ (by omega)], fun j hj => ?_⟩
      rw [getD_app out _ _ j (by have := I.len; omega), I.len]
      cases decide (j < i) <;> rfl
    · simp [I.len]
  · simp only [go_sem, simprocAttr]
    subst hk1
    have hf := I.fin
    rw [Nat.sub_self, rloop] at hf
    subst hf
    refine kont_weak_code (Weak.freeze rfl 3 rfl rfl (fun j hj => rfl)) ?_
    simp only [go_sem, simprocAttr]
    refine kont_of_hx cx_ok hb 200 ?_
    simp only [go_sem, simprocAttr]
    refine kont_hax cx_ok hb 200 mixed [(0, true), (1, true), (2, true), (3, false)] (by kernel_rfl) (by kernel_rfl) ?_
    simp only [go_sem, simprocAttr]
    rw [I.len]
end Go.Fg.X
/- The document's reader, walked: op. No conditions. -/
namespace Go.Fg.X
set_option linter.unusedSimpArgs false
set_option linter.unusedVariables false
open Go.Proofs Go.Fg
set_option maxRecDepth 100000
theorem RIn.next_ok {r : RIn} {n : Nat} {l m : Int} (h : (r.next n l m).err = 0) : r.err = 0 ∧ l ≤ (r.next n l m).v ∧ (r.next n l m).v ≤ m := by
  simp only [RIn.next] at h ⊢
  split at h
  · rename_i he
    refine ⟨he, ?_⟩
    rw [if_pos he]
    split at h
    · cases h
    · rename_i h2
      rw [if_neg h2]
      split at h
      · cases h
      · rename_i h3
        rw [if_neg h3]
        exact ⟨by simp only; omega, by simp only; omega⟩
  · rename_i he; exact absurd h he
def RIn.op (r : RIn) : Opn × RIn :=
  let k := r.next 1 1 4
  if k.err = 0 then
    if k.v = 1 then (⟨1, k.changes.1, [], default, 0⟩, k.changes.2)
    else if k.v = 2 then (⟨2, [], k.rules.1, default, 0⟩, k.rules.2)
    else if k.v = 3 then
      let id := k.next 8 0 18446744073709551615
      let n := id.next 2 1 16384
      let h := n.head
      (⟨3, [], [], ⟨id.v, w64 n.v, h.1.a, h.1.b, h.1.c, h.1.d⟩, 0⟩, h.2)
    else
      let x := k.next 8 0 18446744073709551615
      (⟨4, [], [], default, x.v⟩, x)
  else (default, k)
theorem pk_zero : (default : Pk) = ⟨0, 0, 0, 0, 0, 0⟩ := rfl
theorem rop_ok {r : RIn} (h : r.Good) : AFn Try.prog 45 [.agg r.cells] (Ret (.tup [.agg r.op.1.cells, .agg r.op.2.cells])) := by
  have h1 := h.next 1 1 4
  have c1 := rnext_ok' h (n := 1) (by decide) (l := 1) (m := 4)
  have hv := fun e => (RIn.next_ok (r := r) (n := 1) (l := 1) (m := 4) e).2
  simp only [RIn.op, w64]
  generalize r.next 1 1 4 = k at *
  refine AFn.tell ?_
  by_cases he : k.err = 0
  · have e1 : (k.err != 0) = false := by simpa using he
    simp only [if_pos he]
    have hv4 : k.v = 1 ∨ k.v = 2 ∨ k.v = 3 ∨ k.v = 4 := by have := hv he; omega
    rcases hv4 with e | e | e | e
    · have c2 := rchanges_ok h1 he
      simp only [e, if_true]
      generalize k.changes = y at *
      simp only [RIn.cells, e] at c2
      refine AFn_hxk 0 cx_ok 200 Try.func45 rfl Try.ntmps45 Try.results45 rfl fun base w hb => ?_
      simp only [go_sem, simprocAttr]
      refine kont_call hb fn44 rfl ?_ c1 (Ret.flat rfl) rfl fun d h hR => ?_
      · simp only [go_sem, simprocAttr, e1, e]
      obtain ⟨rfl, rfl⟩ := hR
      refine kont_of_hx cx_ok hb 200 ?_
      simp only [go_sem, simprocAttr, e1, e]
      refine kont_callM hb [] fn84 rfl ?_ c2 rfl fun d h hR => ?_
      · simp only [go_sem, simprocAttr]
      obtain ⟨rfl, rfl⟩ := hR
      simp only [go_sem, simprocAttr]
      refine kont_of_hx cx_ok hb 200 ?_
      simp only [go_sem, simprocAttr]
      refine kont_haxF cx_ok hb 200 mixed [(0, true), (1, true)] [2, 3, 4] (by kernel_rfl) (by kernel_rfl) ?_
      simp only [go_sem, simprocAttr]
      repeat' refine And.intro ?_ ?_
      all_goals exact ⟨_, by simp only [go_sem, simprocAttr, pk_zero], rfl, rfl⟩
    · have c2 := rrules_ok h1 he
      simp only [e, if_true, show ¬((2 : Int) = 1) by decide, if_false]
      generalize k.rules = y at *
      simp only [RIn.cells, e] at c2
      refine AFn_hxk 0 cx_ok 200 Try.func45 rfl Try.ntmps45 Try.results45 rfl fun base w hb => ?_
      simp only [go_sem, simprocAttr]
      refine kont_call hb fn44 rfl ?_ c1 (Ret.flat rfl) rfl fun d h hR => ?_
      · simp only [go_sem, simprocAttr, e1, e]
      obtain ⟨rfl, rfl⟩ := hR
      refine kont_of_hx cx_ok hb 200 ?_
      simp only [go_sem, simprocAttr, e1, e]
      refine kont_callM hb [] fn85 rfl ?_ c2 rfl fun d h hR => ?_
      · simp only [go_sem, simprocAttr]
      obtain ⟨rfl, rfl⟩ := hR
      simp only [go_sem, simprocAttr]
      refine kont_of_hx cx_ok hb 200 ?_
      simp only [go_sem, simprocAttr]
      refine kont_haxF cx_ok hb 200 mixed [(0, true), (1, true)] [2, 3, 4] (by kernel_rfl) (by kernel_rfl) ?_
      simp only [go_sem, simprocAttr]
      repeat' refine And.intro ?_ ?_
      all_goals exact ⟨_, by simp only [go_sem, simprocAttr, pk_zero], rfl, rfl⟩
    · have h2 := h1.next 8 0 18446744073709551615
      have c2 := rnext_ok' h1 (n := 8) (by decide) (l := 0) (m := 18446744073709551615)
      simp only [e, if_true, show ¬((3 : Int) = 1) by decide, show ¬((3 : Int) = 2) by decide, if_false]
      generalize k.next 8 0 18446744073709551615 = y at *
      have h3 := h2.next 2 1 16384
      have c3 := rnext_ok' h2 (n := 2) (by decide) (l := 1) (m := 16384)
      generalize y.next 2 1 16384 = z at *
      have c4 := rhead_ok h3
      generalize z.head = u at *
      simp only [RIn.cells, e] at c2
      refine AFn_hxk 0 cx_ok 200 Try.func45 rfl Try.ntmps45 Try.results45 rfl fun base w hb => ?_
      simp only [go_sem, simprocAttr]
      refine kont_call hb fn44 rfl ?_ c1 (Ret.flat rfl) rfl fun d h hR => ?_
      · simp only [go_sem, simprocAttr, e1, e]
      obtain ⟨rfl, rfl⟩ := hR
      refine kont_of_hx cx_ok hb 200 ?_
      simp only [go_sem, simprocAttr, e1, e]
      refine kont_call hb fn44 rfl ?_ c2 (Ret.flat rfl) rfl fun d h hR => ?_
      · simp only [go_sem, simprocAttr]
      obtain ⟨rfl, rfl⟩ := hR
      refine kont_of_hx cx_ok hb 200 ?_
      simp only [go_sem, simprocAttr]
      refine kont_call hb fn44 rfl ?_ c3 (Ret.flat rfl) rfl fun d h hR => ?_
      · simp only [go_sem, simprocAttr]
      obtain ⟨rfl, rfl⟩ := hR
      refine kont_of_hx cx_ok hb 200 ?_
      simp only [go_sem, simprocAttr]
      refine kont_call hb fn86 rfl ?_ c4 (Ret.flat rfl) rfl fun d h hR => ?_
      · simp only [go_sem, simprocAttr]
      obtain ⟨rfl, rfl⟩ := hR
      refine kont_of_hx cx_ok hb 200 ?_
      simp only [go_sem, simprocAttr]
      refine kont_haxF cx_ok hb 200 mixed [(0, true), (1, true), (2, true), (3, true), (4, true), (5, true), (6, true), (7, true)] [8, 9, 10] (by kernel_rfl) (by kernel_rfl) ?_
      simp only [go_sem, simprocAttr]
      repeat' refine And.intro ?_ ?_
      all_goals exact ⟨_, by simp only [go_sem, simprocAttr, pk_zero], rfl, rfl⟩
    · have c2 := rnext_ok' h1 (n := 8) (by decide) (l := 0) (m := 18446744073709551615)
      simp only [e, if_true, show ¬((4 : Int) = 1) by decide, show ¬((4 : Int) = 2) by decide, show ¬((4 : Int) = 3) by decide, if_false]
      generalize k.next 8 0 18446744073709551615 = y at *
      simp only [RIn.cells, e] at c2
      refine AFn_hxk 0 cx_ok 200 Try.func45 rfl Try.ntmps45 Try.results45 rfl fun base w hb => ?_
      simp only [go_sem, simprocAttr]
      refine kont_call hb fn44 rfl ?_ c1 (Ret.flat rfl) rfl fun d h hR => ?_
      · simp only [go_sem, simprocAttr, e1, e]
      obtain ⟨rfl, rfl⟩ := hR
      refine kont_of_hx cx_ok hb 200 ?_
      simp only [go_sem, simprocAttr, e1, e]
      refine kont_call hb fn44 rfl ?_ c2 (Ret.flat rfl) rfl fun d h hR => ?_
      · simp only [go_sem, simprocAttr]
      obtain ⟨rfl, rfl⟩ := hR
      refine kont_of_hx cx_ok hb 200 ?_
      simp only [go_sem, simprocAttr]
      refine kont_haxF cx_ok hb 200 mixed [(0, true), (1, true), (2, true)] [3, 4, 5] (by kernel_rfl) (by kernel_rfl) ?_
      simp only [go_sem, simprocAttr]
      repeat' refine And.intro ?_ ?_
      all_goals exact ⟨_, by simp only [go_sem, simprocAttr, pk_zero], rfl, rfl⟩
  · have e1 : (k.err != 0) = true := by simpa using he
    simp only [if_neg he]
    refine AFn_hxk 0 cx_ok 200 Try.func45 rfl Try.ntmps45 Try.results45 rfl fun base w hb => ?_
    simp only [go_sem, simprocAttr]
    refine kont_call hb fn44 rfl ?_ c1 (Ret.flat rfl) rfl fun d h hR => ?_
    · simp only [go_sem, simprocAttr, e1]
    obtain ⟨rfl, rfl⟩ := hR
    refine kont_of_hx cx_ok hb 200 ?_
    simp only [go_sem, simprocAttr, e1]
    refine kont_haxF cx_ok hb 200 mixed [(0, true)] [1, 2, 3] (by kernel_rfl) (by kernel_rfl) ?_
    simp only [go_sem, simprocAttr]
    repeat' refine And.intro ?_ ?_
    all_goals exact ⟨_, by simp only [go_sem, simprocAttr, opn_zero], rfl, rfl⟩
end Go.Fg.X
/- The document's reader, walked: Decode. No conditions. -/
namespace Go.Fg.X
set_option linter.unusedSimpArgs false
set_option linter.unusedVariables false
open Go.Proofs Go.Fg
set_option maxRecDepth 100000
theorem RIn.Good.op {r : RIn} (h : r.Good) : r.op.2.Good := by
  have hc : ∀ {α : Type} (one : RIn → α × RIn) (h1 : ∀ x, RIn.Good x → (one x).2.Good) (n : Nat) (x : RIn) (out : List α), x.Good → (rloop one n x out).2.Good := by
    intro α one h1 n
    induction n with
    | zero => intro x out hx; exact hx
    | succ n ih => intro x out hx; exact ih _ _ (h1 x hx)
  simp only [RIn.op]
  split
  · split
    · exact hc _ (fun x hx => hx.change) _ _ _ ((h.next _ _ _).next _ _ _)
    split
    · exact hc _ (fun x hx => hx.head.head.next _ _ _) _ _ _ ((h.next _ _ _).next _ _ _)
    split
    · exact (((h.next _ _ _).next _ _ _).next _ _ _).head
    · exact (h.next _ _ _).next _ _ _
  · exact h.next _ _ _
def rdl : Nat → RIn → List Opn → List Opn × RIn
  | 0, x, out => (out, x)
  | n + 1, x, out => if x.err = 0 then rdl n x.op.2 (out ++ [x.op.1]) else (out, x)
def rdecV (s : List Int) : Scr × Int :=
  let t := (⟨s, 0, 0, 0⟩ : RIn).next 4 1 65536
  let m := t.next 4 1 16384
  let x := m.next 2 0 1000
  let r := rdl (w64 x.v).toNat x []
  if r.2.err = 0 then (if r.2.at_ < s.length then (⟨⟨0, 0⟩, []⟩, 2) else (⟨⟨w64 t.v, w64 m.v⟩, r.1⟩, 0)) else (⟨⟨0, 0⟩, []⟩, r.2.err)
theorem rnext_v2 {r : RIn} {n : Nat} {l m : Int} (h : r.err ≠ 0 → r.v = 0) : ((r.next n l m).v = 0 ∨ (l ≤ (r.next n l m).v ∧ (r.next n l m).v ≤ m)) ∧ ((r.next n l m).err ≠ 0 → (r.next n l m).v = 0) := by
  by_cases he : r.err = 0
  · refine ⟨RIn.next_v he n l m, ?_⟩
    simp only [RIn.next, if_pos he]
    split
    · intro _; rfl
    · split
      · intro _; rfl
      · intro h; exact absurd rfl h
  · simp only [RIn.next, if_neg he]
    exact ⟨.inl (h he), h⟩
structure RDl (n : Nat) (fin : List Opn × RIn) (i : Nat) (x : RIn) (out : List Opn) : Prop where
  len : out.length = i
  good : x.Good
  fin : rdl (n - i) x out = fin
@[go_sem] def dSt (r t m : RIn) (d0 : D) (n g i : Nat) (x : RIn) (out : List Opn) : St :=
  ⟨[(0, d0), (2, .ptr 0 0 0 0), (4, .ptr 2 0 0 0), (5, .ptr 3 0 0 0), (6, .ptr 4 0 0 0), (8, .ref 5 g 0 i), (22, dint n), (23, dint i)],
    [⟨.one, 0, 4, 1, fun _ => [.raw (.int .i64 0), .raw (.int .i64 0), .nil, .raw (.int .i64 0)]⟩, ⟨.one, 0, 4, 1, fun _ => r.cells⟩, ⟨.one, 0, 4, 1, fun _ => t.cells⟩, ⟨.one, 0, 4, 1, fun _ => m.cells⟩, ⟨.one, 0, 4, 1, fun _ => x.cells⟩, ⟨.arr, g, 10, i, Opn.rows out⟩]⟩
theorem rdecode_ok {s : List Int} (hby : Bytes s) (hlen : s.length ≤ 4294967296) : AFn Try.prog 21 [dstr s] (Ret (.agg ((rdecV s).1.cells ++ [dint (rdecV s).2]))) := by
  have h0 : RIn.Good ⟨s, 0, 0, 0⟩ := ⟨hby, hlen, Nat.zero_le _⟩
  have h1 := h0.next 4 1 65536
  have v1 := rnext_v2 (r := ⟨s, 0, 0, 0⟩) (n := 4) (l := 1) (m := 65536) (fun h => absurd rfl h)
  have c1 := rnext_ok' h0 (n := 4) (by decide) (l := 1) (m := 65536)
  simp only [rdecV, w64]
  generalize (⟨s, 0, 0, 0⟩ : RIn).next 4 1 65536 = t at *
  have h2 := h1.next 4 1 16384
  have v2 := rnext_v2 (n := 4) (l := 1) (m := 16384) v1.2
  have c2 := rnext_ok' h1 (n := 4) (by decide) (l := 1) (m := 16384)
  generalize t.next 4 1 16384 = m at *
  have h3 := h2.next 2 0 1000
  have v3 := rnext_v2 (n := 2) (l := 0) (m := 1000) v2.2
  have c3 := rnext_ok' h2 (n := 2) (by decide) (l := 0) (m := 1000)
  generalize m.next 2 0 1000 = x0 at *
  obtain ⟨n, hn⟩ := Int.eq_ofNat_of_zero_le (show 0 ≤ x0.v by have := v3.1; omega)
  have hn2 : n ≤ 1000 := by have := v3.1; omega
  have hw : IntKind.i64.wrap x0.v = (n : Int) := by rw [hn, wrap64 (by omega) (by omega)]
  simp only [hw, Int.toNat_natCast]
  generalize hfin : rdl n x0 [] = fin
  refine AFn.tell ?_
  refine AFn_hxk 0 cx_ok 200 Try.func21 rfl Try.ntmps21 Try.results21 rfl fun base w hb => ?_
  simp only [go_sem, simprocAttr]
  refine kont_call hb fn44 rfl ?_ c1 (Ret.flat rfl) rfl fun d h hR => ?_
  · simp only [go_sem, simprocAttr]
  obtain ⟨rfl, rfl⟩ := hR
  refine kont_of_hx cx_ok hb 200 ?_
  simp only [go_sem, simprocAttr]
  refine kont_call hb fn44 rfl ?_ c2 (Ret.flat rfl) rfl fun d h hR => ?_
  · simp only [go_sem, simprocAttr]
  obtain ⟨rfl, rfl⟩ := hR
  refine kont_of_hx cx_ok hb 200 ?_
  simp only [go_sem, simprocAttr]
  refine kont_call hb fn44 rfl ?_ c3 (Ret.flat rfl) rfl fun d h hR => ?_
  · simp only [go_sem, simprocAttr, hw]
  obtain ⟨rfl, rfl⟩ := hR
  refine kont_of_hx cx_ok hb 200 ?_
  simp only [go_sem, simprocAttr, hw]
  refine kont_weak_code (Weak.phantom 8 10 (Opn.rows []) rfl) ?_
  simp only [go_sem, simprocAttr]
  refine kont_for (fun i st => ∃ x out g, RDl n fin i x out ∧ st = dSt ⟨s, 0, 0, 0⟩ t m (dstr s) n g i x out) n (s0 := dSt ⟨s, 0, 0, 0⟩ t m (dstr s) n 0 0 x0 []) (Weak.to 6 (by simp only [go_sem, simprocAttr])) ⟨x0, [], 0, ⟨rfl, h3, hfin⟩, rfl⟩ ?_
  rintro i _ hin ⟨x, out, g, I, rfl⟩
  simp only [go_sem, simprocAttr]
  refine kont_of_hx cx_ok hb 200 ?_
  simp only [go_sem, simprocAttr]
  first | refine hite_lt hin (fun hk1 => ?_) (fun hk1 => ?_) | refine hite_ltI hin (fun hk1 => ?_) (fun hk1 => ?_)
  · simp only [go_sem, simprocAttr, hk1, decide_true]
    have hni : n - i = (n - (i + 1)) + 1 := by omega
    have hf := I.fin
    rw [hni, rdl] at hf
    by_cases he : x.err = 0
    · have e1 : (x.err != 0) = false := by simpa using he
      rw [if_pos he] at hf
      have cc := rop_ok I.good
      have hg2 := I.good.op
      generalize x.op = y at *
      simp only [go_sem, simprocAttr, e1]
      refine kont_callM hb [] fn45 rfl ?_ cc rfl fun d h hR => ?_
      · simp only [go_sem, simprocAttr]
      obtain ⟨rfl, rfl⟩ := hR
      simp only [go_sem, simprocAttr]
      refine kont_of_hx cx_ok hb 200 ?_
      simp only [go_sem, simprocAttr]
      refine ⟨by omega, hk1, dSt ⟨s, 0, 0, 0⟩ t m (dstr s) n (g + 1) (i + 1) y.2 (out ++ [y.1]), Weak.to 6 ?_, _, _, _, ⟨?_, hg2, hf⟩, rfl⟩
      · simp only [go_sem, simprocAttr]
        refine ⟨by rw [wrap_succ (by omega)], fun j hj => ?_⟩
        rw [getD_app out _ _ j (by have := I.len; omega), I.len]
        cases decide (j < i) <;> rfl
      · simp [I.len]
    · have e1 : (x.err != 0) = true := by simpa using he
      rw [if_neg he] at hf
      subst hf
      simp only [if_neg he]
      simp only [go_sem, simprocAttr, e1]
      refine kont_of_hx cx_ok hb 200 ?_
      simp only [go_sem, simprocAttr, e1]
      exact ⟨_, by simp only [go_sem, simprocAttr, Opn.rows], rfl, rfl⟩
  · simp only [go_sem, simprocAttr]
    subst hk1
    have hf := I.fin
    rw [Nat.sub_self, rdl] at hf
    subst hf
    have hsz := bytesS_size s
    by_cases he : x.err = 0
    · have e1 : (x.err != 0) = false := by simpa using he
      simp only [if_pos he]
      by_cases ha : x.at_ < s.length
      · have e2 : decide (x.at_ < s.length) = true := decide_eq_true ha
        simp only [if_pos ha]
        refine kont_of_hx cx_ok hb 200 ?_
        simp only [go_sem, simprocAttr, e1, hsz, e2]
        exact ⟨_, by simp only [go_sem, simprocAttr], rfl, rfl⟩
      · have e2 : decide (x.at_ < s.length) = false := decide_eq_false ha
        simp only [if_neg ha]
        refine kont_weak_code (Weak.freeze rfl 5 rfl rfl (fun j hj => rfl)) ?_
        simp only [go_sem, simprocAttr]
        refine kont_of_hx cx_ok hb 200 ?_
        simp only [go_sem, simprocAttr, e1, hsz, e2]
        exact ⟨_, dLe_refl _ _, by rw [I.len], rfl⟩
    · have e1 : (x.err != 0) = true := by simpa using he
      simp only [if_neg he]
      refine kont_of_hx cx_ok hb 200 ?_
      simp only [go_sem, simprocAttr, e1]
      exact ⟨_, by simp only [go_sem, simprocAttr], rfl, rfl⟩
end Go.Fg.X
/- The same script, held against itself: Same, Alike walked. No conditions. -/
namespace Go.Fg.X
set_option linter.unusedSimpArgs false
set_option linter.unusedVariables false
open Go.Proofs Go.Fg
set_option maxRecDepth 100000
theorem same_ok (x : Opn) (h1 : x.changes.length ≤ 4294967296) (h2 : x.rules.length ≤ 4294967296) : AFn Try.prog 27 [.agg x.cells, .agg x.cells] (Ret (dbool true)) := by
  have b1 : ∀ n : Int, (n != n) = false := fun n => by simp
  have b2 : ∀ n : Nat, (n != n) = false := fun n => by simp
  refine AFn_hxk 0 cx_ok 200 Try.func27 rfl Try.ntmps27 Try.results27 rfl fun base w hb => ?_
  simp only [go_sem, simprocAttr]
  simp only [go_sem, simprocAttr, b1, b2, bne_self_eq_false]
  refine kont_forF (G := Nat) [2, 3] (fun k => True) (fun k γ => [(47, .imm 15 x.changes.length (Chg.rows x.changes)), (48, dint x.changes.length), (49, dint k)]) (fun k γ => [⟨.one, 0, 10, 1, fun _ => x.cells⟩, ⟨.one, 0, 10, 1, fun _ => x.cells⟩]) (x.changes.length) (0) rfl (Weak.to 2 (by (simp only [go_sem, simprocAttr]) <;> simp)) trivial ?_
  intro k γ hk _
  refine kont_of_hx cx_ok hb 200 ?_
  simp only [go_sem, simprocAttr]
  first | refine hite_lt hk (fun hk1 => ?_) (fun hk1 => ?_) | refine hite_ltI hk (fun hk1 => ?_) (fun hk1 => ?_)
  · simp only [go_sem, simprocAttr, hk1, decide_true]
    refine kont_hax cx_ok hb 200 mixed [(0, true), (1, true), (2, true), (3, true), (4, true), (5, true), (6, true)] (by kernel_rfl) (by kernel_rfl) ?_
    simp only [go_sem, simprocAttr, b1, b2, bne_self_eq_false]
    have hwr := wrap_succ (k := k) (by omega)
    repeat (refine And.intro (by first | assumption | omega) ?_)
    refine ⟨_, Weak.to 2 (by (simp only [go_sem, simprocAttr, hwr]) <;> simp), ForS.mk (γ) (trivial)⟩
  · simp only [go_sem, simprocAttr]
    refine kont_of_hx cx_ok hb 200 ?_
    simp only [go_sem, simprocAttr, b1, b2]
    refine kont_forF (G := Nat) [2, 3] (fun k => True) (fun k γ => [(63, .imm 9 x.rules.length (Rul.rows x.rules)), (64, dint x.rules.length), (65, dint k)]) (fun k γ => [⟨.one, 0, 10, 1, fun _ => x.cells⟩, ⟨.one, 0, 10, 1, fun _ => x.cells⟩]) (x.rules.length) (0) rfl (Weak.to 2 (by (simp only [go_sem, simprocAttr]) <;> simp)) trivial ?_
    intro k γ hk _
    refine kont_of_hx cx_ok hb 200 ?_
    simp only [go_sem, simprocAttr]
    first | refine hite_lt hk (fun hk1 => ?_) (fun hk1 => ?_) | refine hite_ltI hk (fun hk1 => ?_) (fun hk1 => ?_)
    · simp only [go_sem, simprocAttr, hk1, decide_true]
      refine kont_hax cx_ok hb 200 mixed [(0, true), (1, true), (2, true), (3, true), (4, true), (5, true), (6, true)] (by kernel_rfl) (by kernel_rfl) ?_
      simp only [go_sem, simprocAttr, b1, b2, bne_self_eq_false]
      have hwr := wrap_succ (k := k) (by omega)
      repeat (refine And.intro (by first | assumption | omega) ?_)
      refine ⟨_, Weak.to 2 (by (simp only [go_sem, simprocAttr, hwr]) <;> simp), ForS.mk (γ) (trivial)⟩
    · simp only [go_sem, simprocAttr]
      refine kont_of_hx cx_ok hb 200 ?_
      simp only [go_sem, simprocAttr, b1, b2]
theorem alike_ok (x : Scr) (hl : x.ops.length ≤ 4294967296) (ho : ∀ o ∈ x.ops, o.changes.length ≤ 4294967296 ∧ o.rules.length ≤ 4294967296) : AFn Try.prog 22 [.agg x.cells, .agg x.cells] (Ret (dbool true)) := by
  have b1 : ∀ n : Int, (n != n) = false := fun n => by simp
  have b2 : ∀ n : Nat, (n != n) = false := fun n => by simp
  refine AFn_hxk 0 cx_ok 200 Try.func22 rfl Try.ntmps22 Try.results22 rfl fun base w hb => ?_
  simp only [go_sem, simprocAttr]
  simp only [go_sem, simprocAttr, b1, b2, bne_self_eq_false]
  refine kont_forF (G := Nat) [2, 3] (fun k => True) (fun k γ => [(22, .imm 10 x.ops.length (Opn.rows x.ops)), (23, dint x.ops.length), (24, dint k)]) (fun k γ => [⟨.one, 0, 3, 1, fun _ => x.cells⟩, ⟨.one, 0, 3, 1, fun _ => x.cells⟩]) (x.ops.length) (0) rfl (Weak.to 2 (by (simp only [go_sem, simprocAttr]) <;> simp)) trivial ?_
  intro k γ hk _
  refine kont_of_hx cx_ok hb 200 ?_
  simp only [go_sem, simprocAttr]
  first | refine hite_lt hk (fun hk1 => ?_) (fun hk1 => ?_) | refine hite_ltI hk (fun hk1 => ?_) (fun hk1 => ?_)
  · simp only [go_sem, simprocAttr, hk1, decide_true]
    have hm := ho _ (getD_mem x.ops default k hk1)
    have cc := same_ok (x.ops.getD k default) hm.1 hm.2
    refine kont_hax cx_ok hb 200 mixed [(0, true), (1, true), (2, true), (3, true), (4, true), (5, true), (6, false), (7, true)] (by kernel_rfl) (by kernel_rfl) ?_
    simp only [go_sem, simprocAttr, b1, b2, bne_self_eq_false]
    refine ⟨hk1, ?_⟩
    refine AX_callC hb fn27 rfl ?_ cc rfl fun d h hR => ?_
    · simp only [go_sem, simprocAttr]
    obtain ⟨rfl, rfl⟩ := hR
    simp only [go_sem, simprocAttr]
    refine AX_of_hax cx_ok hb ?_
    simp only [go_sem, simprocAttr]
    have hwr := wrap_succ (k := k) (by omega)
    repeat (refine And.intro (by first | assumption | omega) ?_)
    refine ⟨_, Weak.to 2 (by (simp only [go_sem, simprocAttr, hwr]) <;> simp), ForS.mk (γ) (trivial)⟩
  · simp only [go_sem, simprocAttr]
    refine kont_of_hx cx_ok hb 200 ?_
    simp only [go_sem, simprocAttr, b1, b2]
end Go.Fg.X
/- The closed example of law29, walked. No conditions. -/
namespace Go.Fg.X
set_option linter.unusedSimpArgs false
set_option linter.unusedVariables false
open Go.Proofs Go.Fg
set_option maxRecDepth 100000
def x5 : Scr := ⟨⟨1, 100⟩, [⟨4, [], [], ⟨0, 0, 0, 0, 0, 0⟩, 5⟩]⟩
def s5 : List Int := [0, 0, 0, 1, 0, 0, 0, 100, 0, 1, 4, 0, 0, 0, 0, 0, 0, 0, 5]
theorem enc5 : encV x5 = (s5, 0) := by rfl
theorem dec5 : decV s5 = (x5, 0) := by rfl
theorem x5_ok : Scr.Ok x5 := by
  refine ⟨⟨by decide, by decide, trivial⟩, ⟨by simp [x5, maxLen], ?_⟩, trivial⟩
  intro a ha
  simp only [x5, List.mem_singleton] at ha
  subst ha
  exact ⟨by decide, ⟨by simp, by simp⟩, ⟨by simp, by simp⟩, ⟨by decide, by decide, by decide, by decide, by decide, by decide, trivial⟩, by decide, trivial⟩
theorem s5_bytes : Bytes s5 := by
  intro x hx
  simp only [s5, List.mem_cons, List.not_mem_nil, or_false] at hx
  omega
@[go_sem] def x5n : List D := [dint 4, .nil, .nil, du64 0, dint 0, du16 0, du16 0, du16 0, du16 0, du64 5]
theorem tell5 : lLeOf (dLe 6) [.agg [dint 1, dint 100, .imm 10 1 fun _ => x5n]] [.agg x5.cells] := by
  simp only [go_sem, simprocAttr, x5]
  intro i hi
  obtain rfl : i = 0 := by omega
  exact ⟨rfl, rfl, rfl, rfl, rfl, rfl, rfl, rfl, rfl, rfl⟩
theorem five_ok : AFn Try.prog 19 [] (Ret (dbool true)) := by
  have c1 := encode_ok x5_ok
  rw [enc5] at c1
  have c2 := decode_ok s5_bytes (by simp [s5, maxLen])
  rw [dec5] at c2
  have c3 := alike_ok x5 (by simp [x5]) (by simp [x5])
  have q1 := c1.tellArgs (cs' := [.agg [dint 1, dint 100, .imm 10 1 fun _ => x5n]]) tell5
  have q3 := c3.tellArgs (cs' := [.agg [dint 1, dint 100, .imm 10 1 fun _ => x5n], .agg x5.cells]) ⟨tell5.1, by simp only [go_sem, simprocAttr], trivial⟩
  refine AFn_hxk 0 cx_ok 200 Try.func19 rfl Try.ntmps19 Try.results19 rfl fun base w hb => ?_
  simp only [go_sem, simprocAttr]
  refine kont_weak_ops (Weak.freeze rfl 0 rfl rfl (fun i hi => rfl)) ?_
  simp only [go_sem, simprocAttr]
  refine kont_callM hb [] fn24 rfl ?_ q1 rfl fun d h hR => ?_
  · simp only [go_sem, simprocAttr]
  obtain ⟨rfl, rfl⟩ := hR
  simp only [go_sem, simprocAttr]
  refine kont_of_hx cx_ok hb 200 ?_
  simp only [go_sem, simprocAttr]
  refine kont_callM hb [] fn20 rfl ?_ c2 rfl fun d h hR => ?_
  · simp only [go_sem, simprocAttr]
  obtain ⟨rfl, rfl⟩ := hR
  simp only [go_sem, simprocAttr]
  refine kont_of_hx cx_ok hb 200 ?_
  simp only [go_sem, simprocAttr]
  refine kont_str cx_ok.L rfl rfl rfl rfl rfl s5 ⟨⟨rfl, by show 0 + 19 ≤ 19; omega⟩, rfl, fun i hi => ?_⟩ rfl ?_
  · have hi2 : i < 19 := hi
    match i, hi2 with
    | 0, _ => exact rfl
    | 1, _ => exact rfl
    | 2, _ => exact rfl
    | 3, _ => exact rfl
    | 4, _ => exact rfl
    | 5, _ => exact rfl
    | 6, _ => exact rfl
    | 7, _ => exact rfl
    | 8, _ => exact rfl
    | 9, _ => exact rfl
    | 10, _ => exact rfl
    | 11, _ => exact rfl
    | 12, _ => exact rfl
    | 13, _ => exact rfl
    | 14, _ => exact rfl
    | 15, _ => exact rfl
    | 16, _ => exact rfl
    | 17, _ => exact rfl
    | 18, _ => exact rfl
    | n + 19, h => exact absurd h (by omega)
  refine kont_of_hx cx_ok hb 200 ?_
  simp only [go_sem, simprocAttr]
  refine kont_callM hb [] fn22 rfl ?_ q3 rfl fun d h hR => ?_
  · simp only [go_sem, simprocAttr]
  obtain ⟨rfl, rfl⟩ := hR
  simp only [go_sem, simprocAttr]
  refine kont_of_hx cx_ok hb 200 ?_
  simp only [go_sem, simprocAttr]
end Go.Fg.X
/- What the reader of the program comes to is what the document's reader comes to. Plain. No conditions. -/
namespace Go.Fg.X
set_option linter.unusedSimpArgs false
set_option linter.unusedVariables false
open Go.Proofs Go.Fg
set_option maxRecDepth 100000
structure Rl (S : List Int) (s : DSt) (r : RIn) : Prop where
  str : r.s = S
  err : s.err = r.err
  v : r.err ≠ 0 → r.v = 0
  at_ : r.err = 0 → s.rest = S.drop r.at_ ∧ r.at_ ≤ S.length
theorem Rl.step {S : List Int} {s : DSt} {r : RIn} (h : Rl S s r) (n : Nat) (l m : Int) :
    Rl S (dstep s n l m).1 (r.next n l m) ∧ (dstep s n l m).2 = (r.next n l m).v ∧ ((r.next n l m).v = 0 ∨ (l ≤ (r.next n l m).v ∧ (r.next n l m).v ≤ m)) := by
  obtain ⟨h1, h2, h3, h4⟩ := h
  by_cases he : r.err = 0
  · obtain ⟨h5, h6⟩ := h4 he
    have hl : s.rest.length = S.length - r.at_ := by rw [h5, List.length_drop]
    rw [dstep, RIn.next, if_pos (h2.trans he), if_pos he, h1]
    dsimp only
    by_cases hs : s.rest.length < n
    · have hs2 : (S.length : Int) - r.at_ < n := by omega
      rw [if_pos hs, if_pos hs2]
      exact ⟨⟨rfl, rfl, fun _ => rfl, fun e => absurd e (by show ¬((3 : Int) = 0); decide)⟩, rfl, .inl rfl⟩
    · have hs2 : ¬ ((S.length : Int) - r.at_ < n) := by omega
      rw [if_neg hs, if_neg hs2, h5]
      by_cases hb : be ((S.drop r.at_).take n) < l ∨ m < be ((S.drop r.at_).take n)
      · rw [if_pos hb, if_pos hb]
        exact ⟨⟨rfl, rfl, fun _ => rfl, fun e => absurd e (by show ¬((4 : Int) = 0); decide)⟩, rfl, .inl rfl⟩
      · rw [if_neg hb, if_neg hb]
        refine ⟨⟨rfl, rfl, fun e => absurd rfl e, fun _ => ⟨?_, ?_⟩⟩, rfl, .inr ⟨by dsimp only; omega, by dsimp only; omega⟩⟩
        · simp only [List.drop_drop]
        · show r.at_ + n ≤ S.length; omega
  · rw [dstep, RIn.next, if_neg (by rw [h2]; exact he), if_neg he]
    exact ⟨⟨h1, h2, h3, h4⟩, (h3 he).symm, .inl (h3 he)⟩
theorem Rl.keep {S : List Int} {s : DSt} {r : RIn} (h : Rl S s r) (he : s.err ≠ 0) (n : Nat) (l m : Int) : dstep s n l m = (s, 0) := by rw [dstep, if_neg he]
theorem w64_id {n : Int} (h : 0 ≤ n) (h2 : n < 9223372036854775808) : w64 n = n := wrap64 (by omega) (by omega)
theorem w16_id {n : Int} (h : 0 ≤ n) (h2 : n < 65536) : w16 n = n := by rw [w16, IntKind.wrap_u16]; omega
variable {S : List Int} {s : decM.σ} {r : RIn}
theorem Rl.curve (h : Rl S s r) (x : Cv) : Rl S ((pcurve x).run decM s).1 r.curve.2 ∧ ((pcurve x).run decM s).2 = r.curve.1 := by
  obtain ⟨a, a2, _⟩ := h.step 4 0 4294967295
  obtain ⟨b, b2, _⟩ := a.step 4 0 1048576
  obtain ⟨c, c2, _⟩ := b.step 4 0 4294967295
  simp only [pcurve, Prog.run, decM, RIn.curve]
  exact ⟨c, by rw [a2, b2, c2]⟩
theorem Rl.head (h : Rl S s r) (x : Hd) : Rl S ((phead x).run decM s).1 r.head.2 ∧ ((phead x).run decM s).2 = r.head.1 := by
  obtain ⟨a, a2, a3⟩ := h.step 2 0 65535
  obtain ⟨b, b2, b3⟩ := a.step 2 0 65535
  obtain ⟨c, c2, c3⟩ := b.step 2 0 65535
  obtain ⟨d, d2, d3⟩ := c.step 2 0 65535
  simp only [phead, Prog.run, decM, RIn.head]
  refine ⟨d, ?_⟩
  rw [a2, b2, c2, d2, w16_id (by omega) (by omega), w16_id (by omega) (by omega), w16_id (by omega) (by omega), w16_id (by omega) (by omega)]
theorem Rl.change (h : Rl S s r) (x : Chg) : Rl S ((pchange x).run decM s).1 r.change.2 ∧ ((pchange x).run decM s).2 = r.change.1 := by
  obtain ⟨k, k2, k3⟩ := h.step 1 1 3
  obtain ⟨i, i2, i3⟩ := k.step 4 0 65536
  obtain ⟨p, p2, p3⟩ := i.step 4 0 65536
  obtain ⟨l, l2, l3⟩ := p.step 1 0 1
  obtain ⟨a, a2⟩ := l.curve x.cls.rt
  obtain ⟨b, b2⟩ := a.curve x.cls.ls
  obtain ⟨c, c2⟩ := b.curve x.cls.ul
  obtain ⟨d, d2, d3⟩ := c.step 1 0 64
  obtain ⟨e, e2, e3⟩ := d.step 4 0 1048576
  simp only [pchange, pclass, Prog.run, Prog.run_bind, RIn.change, show decM.step = fun s _ k l m => dstep s k l m from rfl]
  refine ⟨e, ?_⟩
  rw [k2, i2, p2, l2, a2, b2, c2, d2, e2, w64_id (by omega) (by omega), w64_id (by omega) (by omega), w64_id (by omega) (by omega), w64_id (by omega) (by omega), w64_id (by omega) (by omega)]
theorem Rl.rule (h : Rl S s r) (x : Rul) : Rl S ((prule x).run decM s).1 r.rule.2 ∧ ((prule x).run decM s).2 = r.rule.1 := by
  obtain ⟨a, a2⟩ := h.head ⟨x.mask0, x.mask1, x.mask2, x.mask3⟩
  obtain ⟨b, b2⟩ := a.head ⟨x.want0, x.want1, x.want2, x.want3⟩
  obtain ⟨c, c2, c3⟩ := b.step 4 0 65536
  simp only [prule, Prog.run, Prog.run_bind, RIn.rule, show decM.step = fun s _ k l m => dstep s k l m from rfl]
  refine ⟨c, ?_⟩
  rw [a2, b2, c2, w64_id (by omega) (by omega)]
theorem rloop_err {α : Type} {one : RIn → α × RIn} (h1 : ∀ x, x.err ≠ 0 → (one x).2 = x) : ∀ (n : Nat) (x : RIn) (out : List α), x.err ≠ 0 → (rloop one n x out).2 = x
  | 0, _, _, _ => rfl
  | n + 1, x, out, h => by rw [rloop, h1 x h]; exact rloop_err h1 n x _ h
theorem Rl.loop {α : Type} [Inhabited α] {p : α → Prog α} {one : RIn → α × RIn}
    (h1 : ∀ {s : decM.σ} {r} (x : α), Rl S s r → Rl S ((p x).run decM s).1 (one r).2 ∧ ((p x).run decM s).2 = (one r).1) (h2 : ∀ x, x.err ≠ 0 → (one x).2 = x) (l : List α) :
    ∀ (n i : Nat) (out : List α) {s : decM.σ} {r : RIn}, Rl S s r → Rl S ((ploop p l n i out).run decM s).1 (rloop one n r out).2 ∧ ((rloop one n r out).2.err = 0 → ((ploop p l n i out).run decM s).2 = (rloop one n r out).1)
  | 0, i, out, s, r, h => ⟨h, fun _ => rfl⟩
  | n + 1, i, out, s, r, h => by
    rw [run_ploop]
    by_cases he : (show DSt from s).err = 0
    · have e1 : (decM.err s != 0) = false := by show ((show DSt from s).err != 0) = false; rw [he]; rfl
      obtain ⟨a, a2⟩ := h1 (l.getD i default) h
      rw [e1, cond_false, rloop, a2]
      exact Rl.loop h1 h2 l n (i + 1) _ a
    · have e1 : (decM.err s != 0) = true := by show ((show DSt from s).err != 0) = true; simpa using he
      have he2 : r.err ≠ 0 := by rw [← h.err]; exact he
      rw [e1, cond_true, rloop_err h2 _ _ _ he2]
      exact ⟨h, fun e => absurd e he2⟩
theorem rnext_err {x : RIn} (h : x.err ≠ 0) (n : Nat) (l m : Int) : x.next n l m = x := by rw [RIn.next, if_neg h]
theorem rcurve_err {x : RIn} (h : x.err ≠ 0) : x.curve.2 = x := by simp only [RIn.curve, rnext_err h]
theorem rhead_err {x : RIn} (h : x.err ≠ 0) : x.head.2 = x := by simp only [RIn.head, rnext_err h]
theorem rchange_err {x : RIn} (h : x.err ≠ 0) : x.change.2 = x := by simp only [RIn.change, rnext_err h, rcurve_err h]
theorem rrule_err {x : RIn} (h : x.err ≠ 0) : x.rule.2 = x := by simp only [RIn.rule, rnext_err h, rhead_err h]
theorem Rl.changes (h : Rl S s r) (l : List Chg) : Rl S ((plist pchange l).run decM s).1 r.changes.2 ∧ (r.changes.2.err = 0 → ((plist pchange l).run decM s).2 = r.changes.1) := by
  obtain ⟨a, a2, _⟩ := h.step 1 0 32
  simp only [plist, Prog.run, RIn.changes, show decM.step = fun s _ k l m => dstep s k l m from rfl]
  rw [a2]
  exact Rl.loop (fun x h => h.change x) (fun x h => rchange_err h) l _ 0 [] a
theorem Rl.rules (h : Rl S s r) (l : List Rul) : Rl S ((plist prule l).run decM s).1 r.rules.2 ∧ (r.rules.2.err = 0 → ((plist prule l).run decM s).2 = r.rules.1) := by
  obtain ⟨a, a2, _⟩ := h.step 1 0 32
  simp only [plist, Prog.run, RIn.rules, show decM.step = fun s _ k l m => dstep s k l m from rfl]
  rw [a2]
  exact Rl.loop (fun x h => h.rule x) (fun x h => rrule_err h) l _ 0 [] a
theorem Rl.packet (h : Rl S s r) (x : Pk) : Rl S ((ppacket x).run decM s).1 (((r.next 8 0 18446744073709551615).next 2 1 16384).head).2 ∧
    ((ppacket x).run decM s).2 = ⟨(r.next 8 0 18446744073709551615).v, w64 ((r.next 8 0 18446744073709551615).next 2 1 16384).v, (((r.next 8 0 18446744073709551615).next 2 1 16384).head).1.a, (((r.next 8 0 18446744073709551615).next 2 1 16384).head).1.b, (((r.next 8 0 18446744073709551615).next 2 1 16384).head).1.c, (((r.next 8 0 18446744073709551615).next 2 1 16384).head).1.d⟩ := by
  obtain ⟨a, a2, a3⟩ := h.step 8 0 18446744073709551615
  obtain ⟨b, b2, b3⟩ := a.step 2 1 16384
  obtain ⟨c, c2⟩ := b.head ⟨x.head0, x.head1, x.head2, x.head3⟩
  simp only [ppacket, Prog.run, Prog.run_bind, show decM.step = fun s _ k l m => dstep s k l m from rfl]
  refine ⟨c, ?_⟩
  rw [a2, b2, c2, w64_id (by omega) (by omega)]
theorem Rl.op (h : Rl S s r) (he : r.err = 0) (x : Opn) : Rl S ((pop x).run decM s).1 r.op.2 ∧ (r.op.2.err = 0 → ((pop x).run decM s).2 = r.op.1) := by
  obtain ⟨a, a2, a3⟩ := h.step 1 1 4
  simp only [pop, Prog.run, RIn.op, show decM.step = fun s _ k l m => dstep s k l m from rfl]
  rw [a2]
  generalize hk : r.next 1 1 4 = k at *
  by_cases hke : k.err = 0
  · have hv := (RIn.next_ok (r := r) (n := 1) (l := 1) (m := 4) (by rw [hk]; exact hke)).2
    rw [hk] at hv
    rw [if_pos hke]
    have hc : k.v = 1 ∨ k.v = 2 ∨ k.v = 3 ∨ k.v = 4 := by omega
    rcases hc with e | e | e | e <;> rw [e]
    · rw [run_pop2_1, if_pos rfl]
      obtain ⟨b, b2⟩ := a.changes x.changes
      exact ⟨b, fun e => by simp only [b2 e]⟩
    · rw [run_pop2_2, if_neg (by decide), if_pos rfl]
      obtain ⟨b, b2⟩ := a.rules x.rules
      exact ⟨b, fun e => by simp only [b2 e]⟩
    · rw [run_pop2_3, if_neg (by decide), if_neg (by decide), if_pos rfl]
      obtain ⟨b, b2⟩ := a.packet x.packet
      exact ⟨b, fun e => by simp only [b2]⟩
    · rw [run_pop2_4, if_neg (by decide), if_neg (by decide), if_neg (by decide)]
      obtain ⟨b, b2, _⟩ := a.step 8 0 18446744073709551615
      exact ⟨b, fun e => by simp only [decM, b2]⟩
  · rw [if_neg hke, a.v hke, run_pop2_0]
    exact ⟨a, fun e => absurd e hke⟩
theorem Rl.ops (l : List Opn) : ∀ (n i : Nat) (out : List Opn) {s : decM.σ} {r : RIn}, Rl S s r → Rl S ((psloop l n i out).run decM s).1 (rdl n r out).2 ∧ ((rdl n r out).2.err = 0 → ((psloop l n i out).run decM s).2 = some (rdl n r out).1)
  | 0, i, out, s, r, h => ⟨h, fun _ => rfl⟩
  | n + 1, i, out, s, r, h => by
    rw [run_psloop, rdl]
    by_cases he : r.err = 0
    · have e1 : (decM.err s != 0) = false := by show ((show DSt from s).err != 0) = false; rw [h.err, he]; rfl
      rw [e1, cond_false, if_pos he]
      obtain ⟨a, a2⟩ := h.op he (l.getD i default)
      by_cases hf : r.op.2.err = 0
      · rw [a2 hf]
        exact Rl.ops l n (i + 1) _ a
      · cases n with
        | zero => exact ⟨a, fun e => absurd e hf⟩
        | succ n =>
          have e2 : (decM.err ((pop (l.getD i default)).run decM s).1 != 0) = true := by
            show ((show DSt from ((pop (l.getD i default)).run decM s).1).err != 0) = true
            rw [a.err]; simpa using hf
          rw [run_psloop, e2, cond_true, rdl, if_neg hf]
          exact ⟨a, fun e => absurd e hf⟩
    · have e1 : (decM.err s != 0) = true := by show ((show DSt from s).err != 0) = true; rw [h.err]; simpa using he
      rw [e1, cond_true, if_neg he]
      exact ⟨h, fun e => absurd e he⟩
def decVy (y : Scr) (bs : List Int) : Scr × Int :=
  let r := (pscript y).run decM (⟨bs, 0⟩ : DSt)
  if (show DSt from r.1).err = 0 then (if 0 < (show DSt from r.1).rest.length then (zscr, 2) else (r.2, 0)) else (zscr, (show DSt from r.1).err)
theorem decVy_eq (y : Scr) (bs : List Int) : decVy y bs = rdecV bs := by
  have h0 : Rl bs ⟨bs, 0⟩ ⟨bs, 0, 0, 0⟩ := ⟨rfl, rfl, fun e => absurd rfl e, fun _ => ⟨rfl, Nat.zero_le _⟩⟩
  obtain ⟨a, a2, a3⟩ := h0.step 4 1 65536
  obtain ⟨b, b2, b3⟩ := a.step 4 1 16384
  obtain ⟨c, c2, c3⟩ := b.step 2 0 1000
  simp only [decVy, rdecV, pscript, Prog.run, Prog.run_bind, show decM.step = fun s _ k l m => dstep s k l m from rfl]
  rw [a2, b2, c2, w64_id (n := ((((⟨bs, 0, 0, 0⟩ : RIn).next 4 1 65536).next 4 1 16384).next 2 0 1000).v) (by omega) (by omega), w64_id (by omega) (by omega), w64_id (by omega) (by omega)]
  obtain ⟨d, d2⟩ := Rl.ops y.ops ((((⟨bs, 0, 0, 0⟩ : RIn).next 4 1 65536).next 4 1 16384).next 2 0 1000).v.toNat 0 [] c
  generalize hP : (psloop y.ops ((((⟨bs, 0, 0, 0⟩ : RIn).next 4 1 65536).next 4 1 16384).next 2 0 1000).v.toNat 0 []).run decM _ = P
  have d' : Rl bs P.1 _ := hP ▸ d
  have d2' := d2
  rw [show Prog.run decM _ _ = P from hP] at d2'
  generalize rdl _ _ _ = R at *
  clear d d2
  rw [d'.err]
  by_cases he : R.2.err = 0
  · rw [if_pos he, if_pos he, d2' he]
    have h5 := d'.at_ he
    have hl : P.1.rest.length = bs.length - R.2.at_ := by rw [h5.1, List.length_drop]
    by_cases hr : R.2.at_ < bs.length
    · rw [if_pos (by omega), if_pos hr]; rfl
    · rw [if_neg (by omega), if_neg hr]; rfl
  · rw [if_neg he, if_neg he]; rfl
theorem decV_eq (bs : List Int) : decV bs = rdecV bs := decVy_eq zscr bs
end Go.Fg.X
/- ScriptDecodes, walked. No conditions. -/
namespace Go.Fg.X
set_option linter.unusedSimpArgs false
set_option linter.unusedVariables false
open Go.Proofs Go.Fg
set_option maxRecDepth 100000
theorem rloop_len {α : Type} {one : RIn → α × RIn} : ∀ (n : Nat) (x : RIn) (out : List α), (rloop one n x out).1.length = out.length + n
  | 0, _, _ => rfl
  | n + 1, x, out => by rw [rloop, rloop_len n]; simp; omega
def Opn.Small (o : Opn) : Prop := o.changes.length ≤ 32 ∧ o.rules.length ≤ 32
theorem rop_small (r : RIn) : r.op.1.Small := by
  have hv := fun (k : RIn) (he : k.err = 0) => RIn.next_v he 1 0 32
  simp only [RIn.op]
  split
  · rename_i he
    have h := hv _ he
    split
    · exact ⟨by simp only [RIn.changes, rloop_len, List.length_nil]; omega, by simp⟩
    split
    · exact ⟨by simp, by simp only [RIn.rules, rloop_len, List.length_nil]; omega⟩
    split
    · exact ⟨by simp, by simp⟩
    · exact ⟨by simp, by simp⟩
  · rw [opn_zero]; exact ⟨by simp, by simp⟩
theorem rdl_small : ∀ (n : Nat) (x : RIn) (out : List Opn), (∀ o ∈ out, o.Small) → (∀ o ∈ (rdl n x out).1, o.Small) ∧ (rdl n x out).1.length ≤ out.length + n
  | 0, x, out, h => ⟨h, Nat.le_refl _⟩
  | n + 1, x, out, h => by
    rw [rdl]
    split
    · obtain ⟨a, b⟩ := rdl_small n x.op.2 (out ++ [x.op.1]) (fun o ho => by
        rw [List.mem_append, List.mem_singleton] at ho
        rcases ho with ho | rfl
        · exact h o ho
        · exact rop_small x)
      exact ⟨a, by simp at b; omega⟩
    · exact ⟨h, by simp⟩
theorem rdecV_small (s : List Int) : (rdecV s).1.ops.length ≤ 1000 ∧ ∀ o ∈ (rdecV s).1.ops, o.Small := by
  have v1 := rnext_v2 (r := ⟨s, 0, 0, 0⟩) (n := 4) (l := 1) (m := 65536) (fun h => absurd rfl h)
  have v2 := rnext_v2 (n := 4) (l := 1) (m := 16384) v1.2
  have v3 := rnext_v2 (n := 2) (l := 0) (m := 1000) v2.2
  obtain ⟨a, b⟩ := rdl_small (w64 ((((⟨s, 0, 0, 0⟩ : RIn).next 4 1 65536).next 4 1 16384).next 2 0 1000).v).toNat ((((⟨s, 0, 0, 0⟩ : RIn).next 4 1 65536).next 4 1 16384).next 2 0 1000) [] (by simp)
  rw [w64_id (by omega) (by omega)] at a b
  simp only [rdecV]
  rw [w64_id (n := ((((⟨s, 0, 0, 0⟩ : RIn).next 4 1 65536).next 4 1 16384).next 2 0 1000).v) (by omega) (by omega)]
  split
  · split
    · exact ⟨by simp, by simp⟩
    · simp only [List.length_nil] at b
      exact ⟨by simp only; omega, a⟩
  · exact ⟨by simp, by simp⟩
theorem scriptDecodes_ok {s : List Int} (hby : Bytes s) : AFn Try.prog 6 [dstr s] (Ret (dbool true)) := by
  have hsz := bytesS_size s
  have b1 : ∀ n : Int, (n == n) = true := fun n => by simp
  by_cases hl : 20000 < s.length
  · have e1 : decide ((20000 : Int) < s.length) = true := decide_eq_true (by omega)
    refine AFn_hxk 0 cx_ok 200 Try.func6 rfl Try.ntmps6 Try.results6 rfl fun base w hb => ?_
    simp only [go_sem, simprocAttr]
    simp only [go_sem, simprocAttr, hsz, e1]
    refine kont_call hb fn19 rfl ?_ five_ok (Ret.flat rfl) rfl fun d h hR => ?_
    · simp only [go_sem, simprocAttr]
    obtain ⟨rfl, rfl⟩ := hR
    refine kont_of_hx cx_ok hb 200 ?_
    simp only [go_sem, simprocAttr]
  · have e1 : decide ((20000 : Int) < s.length) = false := decide_eq_false (by omega)
    have c1 := decode_ok hby (by simp only [maxLen]; omega)
    have c2 := rdecode_ok hby (by omega)
    rw [decV_eq] at c1
    obtain ⟨m1, m2⟩ := rdecV_small s
    have c3 := alike_ok (rdecV s).1 (by omega) (fun o ho => by have := m2 o ho; exact ⟨by have := this.1; omega, by have := this.2; omega⟩)
    generalize rdecV s = r at *
    refine AFn_hxk 0 cx_ok 200 Try.func6 rfl Try.ntmps6 Try.results6 rfl fun base w hb => ?_
    simp only [go_sem, simprocAttr]
    simp only [go_sem, simprocAttr, hsz, e1]
    refine kont_callM hb [] fn20 rfl ?_ c1 rfl fun d h hR => ?_
    · simp only [go_sem, simprocAttr]
    obtain ⟨rfl, rfl⟩ := hR
    simp only [go_sem, simprocAttr]
    refine kont_of_hx cx_ok hb 200 ?_
    simp only [go_sem, simprocAttr]
    refine kont_callM hb [] fn21 rfl ?_ c2 rfl fun d h hR => ?_
    · simp only [go_sem, simprocAttr]
    obtain ⟨rfl, rfl⟩ := hR
    simp only [go_sem, simprocAttr]
    refine kont_of_hx cx_ok hb 200 ?_
    simp only [go_sem, simprocAttr]
    refine kont_callM hb [] fn22 rfl ?_ c3 rfl fun d h hR => ?_
    · simp only [go_sem, simprocAttr]
    obtain ⟨rfl, rfl⟩ := hR
    simp only [go_sem, simprocAttr]
    refine kont_of_hx cx_ok hb 200 ?_
    simp only [go_sem, simprocAttr]
    refine kont_call hb fn19 rfl ?_ five_ok (Ret.flat rfl) rfl fun d h hR => ?_
    · simp only [go_sem, simprocAttr]
    obtain ⟨rfl, rfl⟩ := hR
    refine kont_of_hx cx_ok hb 200 ?_
    simp only [go_sem, simprocAttr]
end Go.Fg.X
/- A slice that a call built and hands back, told as a closed value. No conditions. -/
namespace Go.Fg.X
set_option linter.unusedSimpArgs false
set_option linter.unusedVariables false
open Go.Proofs Go.Fg
open Go.RowKit (Below)
set_option maxRecDepth 100000
theorem RelO.nil {Z : Nat → Prop} {base : Nat} {w : World} : RelO Z base [] [] w := ⟨rfl, fun l l' b q q' e1 e2 => by simp at e1, fun l o e => by simp at e, fun l o b q e => by simp at e⟩
/-- What a call built and hands back within something, told as a closed value. -/
theorem freezeG {P : Program} {f : FuncId} {args : List D} {R : D → List Ob → Prop} (d2 : D) (hu : d2.upto 0 = true)
    (hd : ∀ d hh, R d hh → ∃ g sz n row, hh = [⟨.arr, g, sz, n, row⟩] ∧ (∀ i, i < n → (row i).all D.cl1 = true) ∧ dLe 6 (D.fz 0 g n sz row d) d2) (h : AFn P f args R) : AFn P f args (Ret d2) := by
  intro Z base w pl vs h1 h2 h3 hl hc
  have hpl : pl = [] := by have := h3.len; simpa using this
  subst hpl
  refine (h Z base w [] vs h1 h2 h3 hl hc).mono fun e w' he => ?_
  obtain ⟨v, d, hh, pl', rfl, hR, hO, hV, hT, hB⟩ := he
  obtain ⟨g, sz, n, row, rfl, hcl, hle⟩ := hd _ _ hR
  have hlen : pl'.length = 1 := by have := hO.len; simpa using this
  obtain ⟨p, rfl⟩ : ∃ p, pl' = [p] := by
    match pl', hlen with
    | [p], _ => exact ⟨p, rfl⟩
  have hfz := hV.fz (l := 0) (o := ⟨.arr, g, sz, n, row⟩) (p := p) rfl rfl rfl (fun b q e => by
    subst e
    refine ⟨h2 b ?_, fun l' q' e' => ?_, (hO.at_ 0 _ b q rfl rfl).2.cells rfl⟩
    · rcases Nat.lt_or_ge b w.heap.size with hlt | hge
      · exact absurd rfl ((hT.old b (fun i q e => by simp at e) hlt).1 0 q)
      · exact hge
    · have := ltp_of_some e'; simp at this; exact this) hcl (h' := [Ob.gone ⟨.arr, g, sz, n, row⟩]) (fun l' o' hne e => by
    have := lt_of_some e
    simp at this; exact absurd this hne)
  have h5 := (dLe_rel 6 hle hfz).take hu
  exact ⟨v, _, [], [], rfl, ⟨rfl, rfl⟩, RelO.nil, h5, ⟨fun b hb hlt => ⟨hb, (hT.old b hb hlt).2⟩, fun l o p e => by simp at e, fun l o o' b q e => by simp at e⟩, hB⟩

/-- The same, of the slice alone. -/
theorem freezeR {P : Program} {f : FuncId} {args : List D} {sz n : Nat} {row : Nat → List D} (hcl : ∀ i, i < n → (row i).all D.cl1 = true)
    (h : AFn P f args (fun d hh => ∃ g row', d = .ref 0 g 0 n ∧ hh = [⟨.arr, g, sz, n, row'⟩] ∧ ∀ i, i < n → row' i = row i)) : AFn P f args (Ret (.imm sz n row)) := by
  refine freezeG _ rfl ?_ h
  rintro d hh ⟨g, row', rfl, rfl, hr⟩
  refine ⟨g, sz, _, row', rfl, fun i hi => by rw [hr i hi]; exact hcl i hi, ?_⟩
  have e1 : D.fz 0 g n sz row' (.ref 0 g 0 n) = .imm sz n (rowFrom 0 row') := by simp [D.fz, nat_ble]
  rw [e1, dLe_imm]
  refine ⟨rfl, rfl, fun i hi => ?_⟩
  rw [rowFrom_at, Nat.zero_add, hr i hi]
  exact lLeOf_refl (dLe_refl _) _
end Go.Fg.X
/- The document's fields of numbers, curves and headers, walked. No conditions. -/
namespace Go.Fg.X
set_option linter.unusedSimpArgs false
set_option linter.unusedVariables false
open Go.Proofs Go.Fg
set_option maxRecDepth 100000
structure Fd where
  v : Int
  k : Int
  l : Int
  m : Int
instance : Inhabited Fd := ⟨⟨0, 0, 0, 0⟩⟩
@[go_sem] def Fd.cells (x : Fd) : List D := [.raw (.int .u64 x.v), .raw (.int .i64 x.k), .raw (.int .u64 x.l), .raw (.int .u64 x.m)]
def Fd.rows (l : List Fd) : Nat → List D := fun i => (l.getD i default).cells
@[go_sem] theorem Fd.rows_at (l : List Fd) (i : Nat) : Fd.rows l i = (l.getD i default).cells := rfl
theorem Fd.rows_cl (l : List Fd) (i : Nat) (_ : i < l.length) : (Fd.rows l i).all D.cl1 = true := rfl
def u64 (n : Int) : Int := IntKind.u64.wrap n
def fnum (v k l m : Int) : Fd := ⟨IntKind.u64.wrap v, k, l, m⟩
def fcurve (c : Cv) : List Fd := [⟨c.m1, 4, 0, 4294967295⟩, ⟨c.d, 4, 0, 1048576⟩, ⟨c.m2, 4, 0, 4294967295⟩]
def fhead (h : Hd) : List Fd := [⟨h.a, 2, 0, 65535⟩, ⟨h.b, 2, 0, 65535⟩, ⟨h.c, 2, 0, 65535⟩, ⟨h.d, 2, 0, 65535⟩]
theorem fnum_ok {v k l m : Int} (hl : 0 ≤ l) (hl2 : l < 9223372036854775808) (hm : 0 ≤ m) (hm2 : m < 9223372036854775808) : AFn Try.prog 87 [dint v, dint k, dint l, dint m] (Ret (.agg (fnum v k l m).cells)) := by
  have e1 := wrapu_id hl (by omega)
  have e2 := wrapu_id hm (by omega)
  refine AFn_hxk 0 cx_ok 200 Try.func87 rfl Try.ntmps87 Try.results87 rfl fun base w hb => ?_
  simp only [go_sem, simprocAttr]
  simp only [go_sem, simprocAttr, fnum, e1, e2]
theorem fcurve_ok (c : Cv) : AFn Try.prog 126 [.agg c.cells] (Ret (.imm 4 3 (Fd.rows (fcurve c)))) := by
  refine freezeR (Fd.rows_cl (fcurve c)) ?_
  refine AFn_hxs [1] rfl cx_ok 200 Try.func126 rfl Try.ntmps126 Try.results126 rfl fun base w hb => ?_
  simp only [go_sem, simprocAttr]
  refine ⟨?_, 0, _, rfl, rfl, ?_⟩
  all_goals
    intro i hi
    obtain rfl | rfl | rfl : i = 0 ∨ i = 1 ∨ i = 2 := by omega
    all_goals rfl
theorem fhead_own {h : Hd} (hx : Hd.Ok h) : AFn Try.prog 120 [.agg h.cells] (fun d hh => ∃ g row, d = .ref 0 g 0 4 ∧ hh = [⟨.arr, g, 4, 4, row⟩] ∧ ∀ i, i < 4 → row i = Fd.rows (fhead h) i) := by
  obtain ⟨a1, a2⟩ := u16_wf hx.1
  obtain ⟨b1, b2⟩ := u16_wf hx.2.1
  obtain ⟨c1, c2⟩ := u16_wf hx.2.2.1
  obtain ⟨d1, d2⟩ := u16_wf hx.2.2.2
  have e1 := wrapu_id a1 (by omega)
  have e2 := wrapu_id b1 (by omega)
  have e3 := wrapu_id c1 (by omega)
  have e4 := wrapu_id d1 (by omega)
  refine AFn_hxs [2] rfl cx_ok 200 Try.func120 rfl Try.ntmps120 Try.results120 rfl fun base w hb => ?_
  simp only [go_sem, simprocAttr]
  refine kont_turns 4 ?_
  refine kont_of_hx cx_ok hb 200 ?_
  simp only [go_sem, simprocAttr, e1, e2, e3, e4]
  refine kont_of_hx cx_ok hb 200 ?_
  simp only [go_sem, simprocAttr, e1, e2, e3, e4]
  refine kont_of_hx cx_ok hb 200 ?_
  simp only [go_sem, simprocAttr, e1, e2, e3, e4]
  refine kont_of_hx cx_ok hb 200 ?_
  simp only [go_sem, simprocAttr, e1, e2, e3, e4]
  refine kont_of_hx cx_ok hb 200 ?_
  simp only [go_sem, simprocAttr]
  refine kont_of_hx cx_ok hb 200 ?_
  simp only [go_sem, simprocAttr]
  refine ⟨?_, 3, _, rfl, rfl, ?_⟩
  all_goals
    intro i hi
    obtain rfl | rfl | rfl | rfl : i = 0 ∨ i = 1 ∨ i = 2 ∨ i = 3 := by omega
    all_goals rfl
theorem fhead_ok {h : Hd} (hx : Hd.Ok h) : AFn Try.prog 120 [.agg h.cells] (Ret (.imm 4 4 (Fd.rows (fhead h)))) := freezeR (Fd.rows_cl (fhead h)) (fhead_own hx)
end Go.Fg.X
/- An object's rows told in other words. No conditions. -/
namespace Go.Fg
set_option linter.unusedSimpArgs false
set_option linter.unusedVariables false
theorem Kd.like_self (k : Kd) : k.like k := by cases k <;> simp [Kd.like, Kd.ty]
theorem obLe_self (o : Ob) : obLe o o := ⟨rfl, rfl, rfl, Kd.like_self _, fun _ _ => rfl⟩
theorem obsLe_self : ∀ h : List Ob, obsLe h h
  | [] => trivial
  | o :: r => ⟨obLe_self o, obsLe_self r⟩
theorem obsLe_set : ∀ {h : List Ob} {l : Nat} {o : Ob} (row' : Nat → List D), h[l]? = some o → (∀ i, i < o.n → o.row i = row' i) → obsLe h (h.set l ⟨o.kd, o.gen, o.sz, o.n, row'⟩)
  | [], l, o, row', e, _ => by simp at e
  | x :: r, 0, o, row', e, he => by
    simp only [List.getElem?_cons_zero, Option.some.injEq] at e
    subst e
    exact ⟨⟨rfl, rfl, rfl, Kd.like_self _, fun i hi => (he i hi).symm⟩, obsLe_self r⟩
  | x :: r, l + 1, o, row', e, he => ⟨obLe_self x, obsLe_set (h := r) row' (by simpa using e) he⟩
theorem Weak.rows {w0 : Start} {fr : List (Nat × D)} {h : List Ob} (l : Nat) {o : Ob} (row' : Nat → List D) (ho : h[l]? = some o) (he : ∀ i, i < o.n → o.row i = row' i) : Weak w0 ⟨fr, h⟩ ⟨fr, h.set l ⟨o.kd, o.gen, o.sz, o.n, row'⟩⟩ := (Wk.obs (obsLe_set row' ho he)).up
end Go.Fg
/- The document's fields of changes and rules, walked. No conditions. -/
namespace Go.Fg.X
set_option linter.unusedSimpArgs false
set_option linter.unusedVariables false
open Go.Proofs Go.Fg
set_option maxRecDepth 100000
def fchange (x : Chg) : List Fd := [fnum x.kind 1 1 3, fnum x.cls.iD 4 0 65536, fnum x.cls.parent 4 0 65536, fnum (leafI x.cls.leaf) 1 0 1] ++ fcurve x.cls.rt ++ fcurve x.cls.ls ++ fcurve x.cls.ul ++ [fnum x.cls.pkts 1 0 64, fnum x.cls.bytes 4 0 1048576]
def frule (x : Rul) : List Fd := fhead ⟨x.mask0, x.mask1, x.mask2, x.mask3⟩ ++ fhead ⟨x.want0, x.want1, x.want2, x.want3⟩ ++ [fnum x.cls 4 0 65536]
theorem fchange_ok (x : Chg) : AFn Try.prog 118 [.agg x.cells] (Ret (.imm 4 15 (Fd.rows (fchange x)))) := by
  have n0 := fnum_ok (v := x.kind) (l := 1) (m := 3) (k := 1) (by decide) (by decide) (by decide) (by decide)
  have n1 := fnum_ok (v := x.cls.iD) (l := 0) (m := 65536) (k := 4) (by decide) (by decide) (by decide) (by decide)
  have n2 := fnum_ok (v := x.cls.parent) (l := 0) (m := 65536) (k := 4) (by decide) (by decide) (by decide) (by decide)
  have n3 := fnum_ok (v := leafI x.cls.leaf) (l := 0) (m := 1) (k := 1) (by decide) (by decide) (by decide) (by decide)
  have n4 := fnum_ok (v := x.cls.pkts) (l := 0) (m := 64) (k := 1) (by decide) (by decide) (by decide) (by decide)
  have n5 := fnum_ok (v := x.cls.bytes) (l := 0) (m := 1048576) (k := 4) (by decide) (by decide) (by decide) (by decide)
  have c1 := fcurve_ok x.cls.rt
  have c2 := fcurve_ok x.cls.ls
  have c3 := fcurve_ok x.cls.ul
  refine freezeR (Fd.rows_cl (fchange x)) ?_
  have hl : x.cls.leaf = true ∨ x.cls.leaf = false := by cases x.cls.leaf <;> simp
  refine AFn_hxs [1] rfl cx_ok 200 Try.func118 rfl Try.ntmps118 Try.results118 rfl fun base w hb => ?_
  simp only [go_sem, simprocAttr]
  refine hite_intro (fun e => ?_) (fun e => ?_)
  all_goals
    simp only [e, leafI, cond_true, cond_false] at n3
    simp only [go_sem, simprocAttr, e]
    refine kont_hax cx_ok hb 200 mixed [(0, true), (1, true), (3, true), (4, true), (5, true), (7, true), (8, true), (9, true), (11, true), (2, false), (6, false), (10, false), (12, false), (13, false), (14, true)] (by kernel_rfl) (by kernel_rfl) ?_
    simp only [go_sem, simprocAttr, e]
    refine AX_call hb fn87 rfl ?_ n0 (Ret.flat rfl) rfl fun d h hR => ?_
    · simp only [go_sem, simprocAttr]
    obtain ⟨rfl, rfl⟩ := hR
    refine AX_of_hax cx_ok hb ?_
    simp only [go_sem, simprocAttr]
    refine AX_call hb fn87 rfl ?_ n1 (Ret.flat rfl) rfl fun d h hR => ?_
    · simp only [go_sem, simprocAttr]
    obtain ⟨rfl, rfl⟩ := hR
    refine AX_of_hax cx_ok hb ?_
    simp only [go_sem, simprocAttr]
    refine AX_call hb fn87 rfl ?_ n2 (Ret.flat rfl) rfl fun d h hR => ?_
    · simp only [go_sem, simprocAttr]
    obtain ⟨rfl, rfl⟩ := hR
    refine AX_of_hax cx_ok hb ?_
    simp only [go_sem, simprocAttr]
    refine AX_call hb fn87 rfl ?_ n3 (Ret.flat rfl) rfl fun d h hR => ?_
    · simp only [go_sem, simprocAttr]
    obtain ⟨rfl, rfl⟩ := hR
    refine AX_of_hax cx_ok hb ?_
    simp only [go_sem, simprocAttr]
    refine kont_callM hb [] fn126 rfl ?_ c1 rfl fun d h hR => ?_
    · simp only [go_sem, simprocAttr]
    obtain ⟨rfl, rfl⟩ := hR
    simp only [go_sem, simprocAttr]
    refine kont_of_hx cx_ok hb 200 ?_
    simp only [go_sem, simprocAttr]
    refine kont_callM hb [] fn126 rfl ?_ c2 rfl fun d h hR => ?_
    · simp only [go_sem, simprocAttr]
    obtain ⟨rfl, rfl⟩ := hR
    simp only [go_sem, simprocAttr]
    refine kont_of_hx cx_ok hb 200 ?_
    simp only [go_sem, simprocAttr]
    refine kont_callM hb [] fn126 rfl ?_ c3 rfl fun d h hR => ?_
    · simp only [go_sem, simprocAttr]
    obtain ⟨rfl, rfl⟩ := hR
    simp only [go_sem, simprocAttr]
    refine kont_of_hx cx_ok hb 200 ?_
    simp only [go_sem, simprocAttr]
    refine kont_hax cx_ok hb 200 mixed [(0, true), (1, true), (2, true), (3, true), (5, true), (6, true), (7, true), (4, false), (8, false), (9, false), (10, false), (11, true)] (by kernel_rfl) (by kernel_rfl) ?_
    simp only [go_sem, simprocAttr]
    refine AX_call hb fn87 rfl ?_ n4 (Ret.flat rfl) rfl fun d h hR => ?_
    · simp only [go_sem, simprocAttr]
    obtain ⟨rfl, rfl⟩ := hR
    refine AX_of_hax cx_ok hb ?_
    simp only [go_sem, simprocAttr]
    refine AX_call hb fn87 rfl ?_ n5 (Ret.flat rfl) rfl fun d h hR => ?_
    · simp only [go_sem, simprocAttr]
    obtain ⟨rfl, rfl⟩ := hR
    refine AX_of_hax cx_ok hb ?_
    simp only [go_sem, simprocAttr]
    refine ⟨?_, ?_, _, _, rfl, rfl, ?_⟩
    · exact fun i hi => match i, hi with | 0, _ => rfl | 1, _ => rfl | i + 2, h => absurd (show i + 2 < 2 from h) (by omega)
    · exact fun i hi => match i, hi with | 0, _ => rfl | 1, _ => rfl | 2, _ => rfl | 3, _ => rfl | 4, _ => rfl | 5, _ => rfl | 6, _ => rfl | 7, _ => rfl | 8, _ => rfl | 9, _ => rfl | 10, _ => rfl | 11, _ => rfl | 12, _ => rfl | 13, _ => rfl | 14, _ => rfl | i + 15, h => absurd (show i + 15 < 15 from h) (by omega)
    · simp only [fchange, e, leafI, cond_true, cond_false]
      exact fun i hi => match i, hi with | 0, _ => rfl | 1, _ => rfl | 2, _ => rfl | 3, _ => rfl | 4, _ => rfl | 5, _ => rfl | 6, _ => rfl | 7, _ => rfl | 8, _ => rfl | 9, _ => rfl | 10, _ => rfl | 11, _ => rfl | 12, _ => rfl | 13, _ => rfl | 14, _ => rfl | i + 15, h => absurd (show i + 15 < 15 from h) (by omega)
theorem frule_ok {x : Rul} (hx : Rul.Ok x) : AFn Try.prog 119 [.agg x.cells] (Ret (.imm 4 9 (Fd.rows (frule x)))) := by
  have c1 := fhead_own (h := ⟨x.mask0, x.mask1, x.mask2, x.mask3⟩) ⟨hx.1, hx.2.1, hx.2.2.1, hx.2.2.2.1⟩
  have c2 := fhead_ok (h := ⟨x.want0, x.want1, x.want2, x.want3⟩) ⟨hx.2.2.2.2.1, hx.2.2.2.2.2.1, hx.2.2.2.2.2.2.1, hx.2.2.2.2.2.2.2.1⟩
  have n0 := fnum_ok (v := x.cls) (l := 0) (m := 65536) (k := 4) (by decide) (by decide) (by decide) (by decide)
  refine freezeR (Fd.rows_cl (frule x)) ?_
  refine AFn_hxs [1] rfl cx_ok 200 Try.func119 rfl Try.ntmps119 Try.results119 rfl fun base w hb => ?_
  simp only [go_sem, simprocAttr]
  refine kont_callM hb [] fn120 rfl ?_ c1 rfl fun d h hR => ?_
  · simp only [go_sem, simprocAttr]
  obtain ⟨g, row, rfl, rfl, hr⟩ := hR
  simp only [go_sem, simprocAttr]
  refine kont_weak_ops (Weak.rows 1 (Fd.rows (fhead ⟨x.mask0, x.mask1, x.mask2, x.mask3⟩)) (by exact rfl) ?_) ?_
  · intro i hi; dsimp only at hi ⊢; rw [hr i hi]; rfl
  simp only [go_sem, simprocAttr]
  refine kont_of_hx cx_ok hb 200 ?_
  simp only [go_sem, simprocAttr]
  refine kont_callM hb [] fn120 rfl ?_ c2 rfl fun d h hR => ?_
  · simp only [go_sem, simprocAttr]
  obtain ⟨rfl, rfl⟩ := hR
  simp only [go_sem, simprocAttr]
  refine kont_of_hx cx_ok hb 200 ?_
  simp only [go_sem, simprocAttr]
  refine kont_call hb fn87 rfl ?_ n0 (Ret.flat rfl) rfl fun d h hR => ?_
  · simp only [go_sem, simprocAttr]
  obtain ⟨rfl, rfl⟩ := hR
  refine kont_of_hx cx_ok hb 200 ?_
  simp only [go_sem, simprocAttr]
  refine ⟨?_, _, _, rfl, rfl, ?_⟩
  · exact fun i hi => match i, hi with | 0, _ => rfl | 1, _ => rfl | 2, _ => rfl | 3, _ => rfl | 4, _ => rfl | 5, _ => rfl | 6, _ => rfl | 7, _ => rfl | 8, _ => rfl | i + 9, h => absurd (show i + 9 < 9 from h) (by omega)
  · exact fun i hi => match i, hi with | 0, _ => rfl | 1, _ => rfl | 2, _ => rfl | 3, _ => rfl | 4, _ => rfl | 5, _ => rfl | 6, _ => rfl | 7, _ => rfl | 8, _ => rfl | i + 9, h => absurd (show i + 9 < 9 from h) (by omega)
end Go.Fg.X
namespace Go.Fg.X
open Go.Proofs Go.Fg
set_option maxRecDepth 100000
set_option maxHeartbeats 4000000
set_option linter.unusedSimpArgs false
set_option linter.unusedVariables false
def fewO (o : Opn) : Bool := decide (o.changes.length ≤ 40) && decide (o.rules.length ≤ 40)
def few (x : Scr) (m : Nat) : Bool := decide (x.ops.length ≤ m) && x.ops.all fewO
theorem all_getD {α : Type} (l : List α) (d : α) (f : α → Bool) : l.all f = true ↔ ∀ j, j < l.length → f (l.getD j d) = true := by
  rw [List.all_eq_true]
  constructor
  · intro h j hj; exact h _ (getD_mem l d j hj)
  · intro h a ha
    obtain ⟨i, hi, rfl⟩ := List.getElem_of_mem ha
    have := h i hi
    simpa [List.getD_eq_getElem?_getD, hi] using this
theorem ints_self (l : List Int) (hl : l.length < 2147483648) : AFn Try.prog 35 [ints l, ints l] (Ret (dbool true)) := by
  refine AFn_hxk 0 cx_ok 200 Try.func35 rfl Try.ntmps35 Try.results35 rfl fun base w hb => ?_
  simp only [go_sem, simprocAttr]
  simp only [go_sem, simprocAttr, bne_self_eq_false]
  refine kont_forF (G := Nat) [0, 1, 11, 12] (fun k => True) (fun k γ => [(13, dint k)]) (fun k γ => []) (l.length) (0) rfl (Weak.to 0 (by (simp only [go_sem, simprocAttr]) <;> simp)) trivial ?_
  intro k γ hk _
  refine kont_of_hx cx_ok hb 200 ?_
  simp only [go_sem, simprocAttr]
  have hwr := wrap_succ (show k < 4611686018427387904 by omega)
  first | refine hite_lt hk (fun hk1 => ?_) (fun hk1 => ?_) | refine hite_ltI hk (fun hk1 => ?_) (fun hk1 => ?_)
  · simp only [go_sem, simprocAttr, hk1]
    refine kont_hax cx_ok hb 200 mixed [(0, true), (1, true), (2, true), (3, true), (4, true), (5, true), (6, true), (7, true), (8, true)] (by kernel_rfl) (by kernel_rfl) ?_
    simp only [go_sem, simprocAttr, hk1, bne_self_eq_false]
    repeat (refine And.intro (by first | assumption | omega) ?_)
    refine ⟨_, Weak.to 0 (by (simp only [go_sem, simprocAttr, hwr]) <;> simp), ForS.mk (γ) (trivial)⟩
  · simp only [go_sem, simprocAttr]
    refine kont_of_hx cx_ok hb 200 ?_
    simp only [go_sem, simprocAttr]
theorem few_ok (x : Scr) (m : Nat) (hm : m < 1000000) : AFn Try.prog 46 [.agg x.cells, dint m] (Ret (dbool (few x m))) := by
  refine AFn_hxk 0 cx_ok 200 Try.func46 rfl Try.ntmps46 Try.results46 rfl fun base w hb => ?_
  simp only [go_sem, simprocAttr]
  by_cases h1 : m < x.ops.length
  · simp only [go_sem, simprocAttr, h1, decide_true]
    have : few x m = false := by simp [few]; omega
    rw [this]
  · have h1' : decide (m < x.ops.length) = false := by simp; omega
    simp only [go_sem, simprocAttr, h1']
    refine kont_forF (G := Nat) [13, 14] (fun k => ∀ j, j < k → fewO (x.ops.getD j default) = true) (fun k γ => [(15, dint k)]) (fun k γ => []) (x.ops.length) (0) rfl (Weak.to 0 (by (simp only [go_sem, simprocAttr]) <;> simp)) ?_ ?_
    · intro j hj; omega
    intro k γ hk hall
    refine kont_of_hx cx_ok hb 200 ?_
    simp only [go_sem, simprocAttr]
    have hwr := wrap_succ (show k < 4611686018427387904 by omega)
    first | refine hite_lt hk (fun hk1 => ?_) (fun hk1 => ?_) | refine hite_ltI hk (fun hk1 => ?_) (fun hk1 => ?_)
    · simp only [go_sem, simprocAttr, hk1]
      have ff : ¬ (∀ j, j < x.ops.length → fewO (x.ops.getD j default) = true) → few x m = false := fun hn => by
        rw [Bool.eq_false_iff]; intro hf
        simp only [few, Bool.and_eq_true] at hf
        exact hn ((all_getD _ default _).1 hf.2)
      first | refine hite_dec (fun h2 => ?_) (fun h2 => ?_) | refine hite_beq (fun h2 => ?_) (fun h2 => ?_) | refine hite_bne (fun h2 => ?_) (fun h2 => ?_) | refine hite_intro (fun h2 => ?_) (fun h2 => ?_) | refine hite_decA (fun h2 => ?_) (fun h2 => ?_) | refine hite_beqA (fun h2 => ?_) (fun h2 => ?_) | refine hite_bneA (fun h2 => ?_) (fun h2 => ?_) | refine hite_intro' (fun h2 => ?_) (fun h2 => ?_)
      · simp only [go_sem, simprocAttr]
        rw [ff (fun hn => by have := hn k hk1; simp only [fewO, Bool.and_eq_true, decide_eq_true_eq] at this; omega)]
      · simp only [go_sem, simprocAttr]
        first | refine hite_dec (fun h3 => ?_) (fun h3 => ?_) | refine hite_beq (fun h3 => ?_) (fun h3 => ?_) | refine hite_bne (fun h3 => ?_) (fun h3 => ?_) | refine hite_intro (fun h3 => ?_) (fun h3 => ?_) | refine hite_decA (fun h3 => ?_) (fun h3 => ?_) | refine hite_beqA (fun h3 => ?_) (fun h3 => ?_) | refine hite_bneA (fun h3 => ?_) (fun h3 => ?_) | refine hite_intro' (fun h3 => ?_) (fun h3 => ?_)
        · simp only [go_sem, simprocAttr]
          rw [ff (fun hn => by have := hn k hk1; simp only [fewO, Bool.and_eq_true, decide_eq_true_eq] at this; omega)]
        · simp only [go_sem, simprocAttr]
          repeat (refine And.intro (by first | assumption | omega) ?_)
          refine ⟨_, Weak.to 0 (by (simp only [go_sem, simprocAttr, hwr]) <;> simp), ForS.mk (0) (?_)⟩
          intro j hj
          rcases Nat.lt_succ_iff_lt_or_eq.1 hj with h | rfl
          · exact hall j h
          · simp only [fewO, Bool.and_eq_true, decide_eq_true_eq]; omega
    · simp only [go_sem, simprocAttr]
      refine kont_of_hx cx_ok hb 200 ?_
      simp only [go_sem, simprocAttr]
      subst hk1
      have : few x m = true := by
        simp only [few, Bool.and_eq_true]
        exact ⟨by simp; omega, (all_getD _ default _).2 hall⟩
      rw [this]
def plainO (o : Opn) : Opn :=
  if o.kind = 1 then ⟨1, o.changes, [], ⟨0, 0, 0, 0, 0, 0⟩, 0⟩ else if o.kind = 2 then ⟨2, [], o.rules, ⟨0, 0, 0, 0, 0, 0⟩, 0⟩ else
  if o.kind = 3 then ⟨3, [], [], o.packet, 0⟩ else if o.kind = 4 then ⟨4, [], [], ⟨0, 0, 0, 0, 0, 0⟩, o.ticks⟩ else ⟨o.kind, [], [], ⟨0, 0, 0, 0, 0, 0⟩, 0⟩
theorem rplain_ok (o : Opn) : AFn Try.prog 28 [.agg o.cells] (Ret (.agg (plainO o).cells)) := by
  refine AFn.tell ?_
  refine AFn_hxk 0 cx_ok 200 Try.func28 rfl Try.ntmps28 Try.results28 rfl fun base w hb => ?_
  simp only [go_sem, simprocAttr]
  by_cases c1 : o.kind = 1
  · simp only [go_sem, simprocAttr, beqT c1]
    exact ⟨_, (by (simp only [go_sem, simprocAttr, plainO, c1, if_true]) <;> simp), rfl, rfl⟩
  by_cases c2 : o.kind = 2
  · simp only [go_sem, simprocAttr, beqF c1, beqT c2]
    exact ⟨_, (by (simp only [go_sem, simprocAttr, plainO, c1, c2, if_true, if_false]) <;> simp), rfl, rfl⟩
  by_cases c3 : o.kind = 3
  · simp only [go_sem, simprocAttr, beqF c1, beqF c2, beqT c3]
    exact ⟨_, (by (simp only [go_sem, simprocAttr, plainO, c1, c2, c3, if_true, if_false]) <;> simp), rfl, rfl⟩
  by_cases c4 : o.kind = 4
  · simp only [go_sem, simprocAttr, beqF c1, beqF c2, beqF c3, beqT c4]
    exact ⟨_, (by (simp only [go_sem, simprocAttr, plainO, c1, c2, c3, c4, if_true, if_false]) <;> simp), rfl, rfl⟩
  · simp only [go_sem, simprocAttr, beqF c1, beqF c2, beqF c3, beqF c4]
    exact ⟨_, (by (simp only [go_sem, simprocAttr, plainO, c1, c2, c3, c4, if_true, if_false]) <;> simp), rfl, rfl⟩
end Go.Fg.X
namespace Go.Fg.X
open Go.Proofs Go.Fg
set_option maxRecDepth 100000
set_option maxHeartbeats 4000000
set_option linter.unusedSimpArgs false
set_option linter.unusedVariables false
theorem same_self (o : Opn) (h1 : o.changes.length < 2147483648) (h2 : o.rules.length < 2147483648) : AFn Try.prog 27 [.agg o.cells, .agg o.cells] (Ret (dbool true)) := by
  refine AFn_hxk 0 cx_ok 300 Try.func27 rfl Try.ntmps27 Try.results27 rfl fun base w hb => ?_
  simp only [go_sem, simprocAttr]
  simp only [go_sem, simprocAttr, bne_self_eq_false]
  refine kont_forF (G := Nat) [2, 3, 47, 48] (fun k => True) (fun k γ => [(49, dint k)]) (fun k γ => [⟨.one, 0, 10, 1, fun _ => o.cells⟩, ⟨.one, 0, 10, 1, fun _ => o.cells⟩]) (o.changes.length) (0) rfl (Weak.to 2 (by (simp only [go_sem, simprocAttr]) <;> simp)) trivial ?_
  intro k γ hk _
  refine kont_of_hx cx_ok hb 200 ?_
  simp only [go_sem, simprocAttr]
  have hwr := wrap_succ (show k < 4611686018427387904 by omega)
  first | refine hite_lt hk (fun hk1 => ?_) (fun hk1 => ?_) | refine hite_ltI hk (fun hk1 => ?_) (fun hk1 => ?_)
  · simp only [go_sem, simprocAttr, hk1]
    refine kont_hax cx_ok hb 200 mixed [(0, true), (1, true), (2, true), (3, true), (4, true), (5, true), (6, true)] (by kernel_rfl) (by kernel_rfl) ?_
    simp only [go_sem, simprocAttr, hk1, bne_self_eq_false]
    repeat (refine And.intro (by first | assumption | omega) ?_)
    refine ⟨_, Weak.to 2 (by (simp only [go_sem, simprocAttr, hwr]) <;> simp), ForS.mk (γ) (trivial)⟩
  · simp only [go_sem, simprocAttr]
    refine kont_of_hx cx_ok hb 200 ?_
    simp only [go_sem, simprocAttr]
    refine kont_forF (G := Nat) [2, 3, 63, 64] (fun k => True) (fun k γ => [(65, dint k)]) (fun k γ => [⟨.one, 0, 10, 1, fun _ => o.cells⟩, ⟨.one, 0, 10, 1, fun _ => o.cells⟩]) (o.rules.length) (0) rfl (Weak.to 2 (by (simp only [go_sem, simprocAttr]) <;> simp)) trivial ?_
    intro k γ hk _
    refine kont_of_hx cx_ok hb 200 ?_
    simp only [go_sem, simprocAttr]
    have hwr := wrap_succ (show k < 4611686018427387904 by omega)
    first | refine hite_lt hk (fun hk1 => ?_) (fun hk1 => ?_) | refine hite_ltI hk (fun hk1 => ?_) (fun hk1 => ?_)
    · simp only [go_sem, simprocAttr, hk1]
      refine kont_hax cx_ok hb 200 mixed [(0, true), (1, true), (2, true), (3, true), (4, true), (5, true), (6, true)] (by kernel_rfl) (by kernel_rfl) ?_
      simp only [go_sem, simprocAttr, hk1, bne_self_eq_false]
      repeat (refine And.intro (by first | assumption | omega) ?_)
      refine ⟨_, Weak.to 2 (by (simp only [go_sem, simprocAttr, hwr]) <;> simp), ForS.mk (γ) (trivial)⟩
    · simp only [go_sem, simprocAttr]
      refine kont_of_hx cx_ok hb 200 ?_
      simp only [go_sem, simprocAttr]
theorem alike_self (x : Scr) (h : x.ops.length < 2147483648) (ho : ∀ o ∈ x.ops, o.changes.length < 2147483648 ∧ o.rules.length < 2147483648) : AFn Try.prog 22 [.agg x.cells, .agg x.cells] (Ret (dbool true)) := by
  refine AFn_hxk 0 cx_ok 300 Try.func22 rfl Try.ntmps22 Try.results22 rfl fun base w hb => ?_
  simp only [go_sem, simprocAttr]
  simp only [go_sem, simprocAttr, bne_self_eq_false]
  refine kont_forF (G := Nat) [3, 22, 23] (fun k => True) (fun k γ => [(24, dint k)]) (fun k γ => [⟨.one, 0, 3, 1, fun _ => x.cells⟩, ⟨.one, 0, 3, 1, fun _ => x.cells⟩]) (x.ops.length) (0) rfl (Weak.to 2 (by (simp only [go_sem, simprocAttr]) <;> simp)) trivial ?_
  intro k γ hk _
  refine kont_of_hx cx_ok hb 200 ?_
  simp only [go_sem, simprocAttr]
  have hwr := wrap_succ (show k < 4611686018427387904 by omega)
  first | refine hite_lt hk (fun hk1 => ?_) (fun hk1 => ?_) | refine hite_ltI hk (fun hk1 => ?_) (fun hk1 => ?_)
  · simp only [go_sem, simprocAttr, hk1]
    have hh := ho _ (getD_mem x.ops default k hk1)
    refine kont_hax cx_ok hb 200 mixed [(0, true), (1, true), (2, true), (3, true), (4, true), (5, true), (6, false), (7, true)] (by kernel_rfl) (by kernel_rfl) ?_
    simp only [go_sem, simprocAttr, hk1]
    refine AX_call hb fn27 rfl ?_ (same_self (x.ops.getD k default) hh.1 hh.2) (Ret.flat rfl) rfl fun d h hR => ?_
    · simp only [go_sem, simprocAttr]
    obtain ⟨rfl, rfl⟩ := hR
    refine AX_of_hax cx_ok hb ?_
    simp only [go_sem, simprocAttr]
    repeat (refine And.intro (by first | assumption | omega) ?_)
    refine ⟨_, Weak.to 2 (by (simp only [go_sem, simprocAttr, hwr]) <;> simp), ForS.mk (γ) (trivial)⟩
  · simp only [go_sem, simprocAttr]
    refine kont_of_hx cx_ok hb 200 ?_
    simp only [go_sem, simprocAttr]
end Go.Fg.X
namespace Go.Fg.X
open Go.Proofs Go.Fg
set_option maxRecDepth 100000
set_option maxHeartbeats 4000000
set_option linter.unusedSimpArgs false
set_option linter.unusedVariables false
def plainS (x : Scr) : Scr := ⟨x.config, x.ops.map plainO⟩
theorem splain_ok (x : Scr) (h : x.ops.length < 2147483648) (ho : ∀ o ∈ x.ops, o.changes.length < 2147483648 ∧ o.rules.length < 2147483648) : AFn Try.prog 26 [.agg x.cells] (Ret (.agg (plainS x).cells)) := by
  refine AFn_hxk 0 cx_ok 300 Try.func26 rfl Try.ntmps26 Try.results26 rfl fun base w hb => ?_
  simp only [go_sem, simprocAttr]
  refine kont_weak_code (Weak.phantomOb 2 2 10 (Opn.rows (x.ops.map plainO)) rfl rfl rfl rfl) ?_
  simp only [go_sem, simprocAttr]
  refine kont_forF (G := Nat) [2, 3, 11, 12] (fun k => True) (fun k γ => [(13, dint k)]) (fun k γ => [⟨.one, 0, 3, 1, fun _ => x.cells⟩, ⟨.one, 0, 3, 1, fun _ => [.raw (.int .i64 0), .raw (.int .i64 0), .nil]⟩, ⟨.one, 0, 3, 1, fun _ => [.raw (.int .i64 x.config.t), .raw (.int .i64 x.config.lmax), .ref 3 γ 0 k]⟩, ⟨.arr, γ, 10, k, Opn.rows (x.ops.map plainO)⟩]) (x.ops.length) (0) rfl (Weak.to 4 (by (simp only [go_sem, simprocAttr]) <;> simp)) trivial ?_
  intro k γ hk _
  refine kont_of_hx cx_ok hb 200 ?_
  simp only [go_sem, simprocAttr]
  have hwr := wrap_succ (show k < 4611686018427387904 by omega)
  first | refine hite_lt hk (fun hk1 => ?_) (fun hk1 => ?_) | refine hite_ltI hk (fun hk1 => ?_) (fun hk1 => ?_)
  · have hm := getD_map plainO x.ops default default k hk1
    have hh := ho _ (getD_mem x.ops default k hk1)
    generalize hoe : x.ops.getD k default = o at *
    simp only [go_sem, simprocAttr, hk1, hoe]
    first | refine hite_dec (fun c1 => ?_) (fun c1 => ?_) | refine hite_beq (fun c1 => ?_) (fun c1 => ?_) | refine hite_bne (fun c1 => ?_) (fun c1 => ?_) | refine hite_intro (fun c1 => ?_) (fun c1 => ?_) | refine hite_decA (fun c1 => ?_) (fun c1 => ?_) | refine hite_beqA (fun c1 => ?_) (fun c1 => ?_) | refine hite_bneA (fun c1 => ?_) (fun c1 => ?_) | refine hite_intro' (fun c1 => ?_) (fun c1 => ?_)
    · simp only [go_sem, simprocAttr]
      repeat (refine And.intro (by first | assumption | omega) ?_)
      refine ⟨_, Weak.trans (Weak.freeze rfl 6 rfl rfl (fun i hi => by simp only [go_sem, simprocAttr])) (Weak.toT 4 ?_), ForS.mk (γ + 1) trivial⟩
      simp only [go_sem, simprocAttr, hwr]
      intro i hi
      rcases Nat.lt_succ_iff_lt_or_eq.1 hi with hlt | rfl
      · simp only [hlt, decide_true, cond_true, lLe_self]
      · (simp only [Nat.lt_irrefl, decide_false, cond_false, go_sem, simprocAttr, hm, plainO, c1, if_true]) <;> simp
    simp only [go_sem, simprocAttr]
    first | refine hite_dec (fun c2 => ?_) (fun c2 => ?_) | refine hite_beq (fun c2 => ?_) (fun c2 => ?_) | refine hite_bne (fun c2 => ?_) (fun c2 => ?_) | refine hite_intro (fun c2 => ?_) (fun c2 => ?_) | refine hite_decA (fun c2 => ?_) (fun c2 => ?_) | refine hite_beqA (fun c2 => ?_) (fun c2 => ?_) | refine hite_bneA (fun c2 => ?_) (fun c2 => ?_) | refine hite_intro' (fun c2 => ?_) (fun c2 => ?_)
    · simp only [go_sem, simprocAttr]
      repeat (refine And.intro (by first | assumption | omega) ?_)
      refine ⟨_, Weak.trans (Weak.freeze rfl 6 rfl rfl (fun i hi => by simp only [go_sem, simprocAttr])) (Weak.toT 4 ?_), ForS.mk (γ + 1) trivial⟩
      simp only [go_sem, simprocAttr, hwr]
      intro i hi
      rcases Nat.lt_succ_iff_lt_or_eq.1 hi with hlt | rfl
      · simp only [hlt, decide_true, cond_true, lLe_self]
      · (simp only [Nat.lt_irrefl, decide_false, cond_false, go_sem, simprocAttr, hm, plainO, c1, c2, if_true, if_false]) <;> simp
    simp only [go_sem, simprocAttr]
    first | refine hite_dec (fun c3 => ?_) (fun c3 => ?_) | refine hite_beq (fun c3 => ?_) (fun c3 => ?_) | refine hite_bne (fun c3 => ?_) (fun c3 => ?_) | refine hite_intro (fun c3 => ?_) (fun c3 => ?_) | refine hite_decA (fun c3 => ?_) (fun c3 => ?_) | refine hite_beqA (fun c3 => ?_) (fun c3 => ?_) | refine hite_bneA (fun c3 => ?_) (fun c3 => ?_) | refine hite_intro' (fun c3 => ?_) (fun c3 => ?_)
    · simp only [go_sem, simprocAttr]
      repeat (refine And.intro (by first | assumption | omega) ?_)
      refine ⟨_, Weak.toT 4 ?_, ForS.mk (γ + 1) trivial⟩
      simp only [go_sem, simprocAttr, hwr]
      intro i hi
      rcases Nat.lt_succ_iff_lt_or_eq.1 hi with hlt | rfl
      · simp only [hlt, decide_true, cond_true, lLe_self]
      · (simp only [Nat.lt_irrefl, decide_false, cond_false, go_sem, simprocAttr, hm, plainO, c1, c2, c3, if_true, if_false]) <;> simp
    simp only [go_sem, simprocAttr]
    first | refine hite_dec (fun c4 => ?_) (fun c4 => ?_) | refine hite_beq (fun c4 => ?_) (fun c4 => ?_) | refine hite_bne (fun c4 => ?_) (fun c4 => ?_) | refine hite_intro (fun c4 => ?_) (fun c4 => ?_) | refine hite_decA (fun c4 => ?_) (fun c4 => ?_) | refine hite_beqA (fun c4 => ?_) (fun c4 => ?_) | refine hite_bneA (fun c4 => ?_) (fun c4 => ?_) | refine hite_intro' (fun c4 => ?_) (fun c4 => ?_)
    · simp only [go_sem, simprocAttr]
      repeat (refine And.intro (by first | assumption | omega) ?_)
      refine ⟨_, Weak.toT 4 ?_, ForS.mk (γ + 1) trivial⟩
      simp only [go_sem, simprocAttr, hwr]
      intro i hi
      rcases Nat.lt_succ_iff_lt_or_eq.1 hi with hlt | rfl
      · simp only [hlt, decide_true, cond_true, lLe_self]
      · (simp only [Nat.lt_irrefl, decide_false, cond_false, go_sem, simprocAttr, hm, plainO, c1, c2, c3, c4, if_true, if_false]) <;> simp
    · simp only [go_sem, simprocAttr]
      repeat (refine And.intro (by first | assumption | omega) ?_)
      refine ⟨_, Weak.toT 4 ?_, ForS.mk (γ + 1) trivial⟩
      simp only [go_sem, simprocAttr, hwr]
      intro i hi
      rcases Nat.lt_succ_iff_lt_or_eq.1 hi with hlt | rfl
      · simp only [hlt, decide_true, cond_true, lLe_self]
      · (simp only [Nat.lt_irrefl, decide_false, cond_false, go_sem, simprocAttr, hm, plainO, c1, c2, c3, c4, if_true, if_false]) <;> simp
  · simp only [go_sem, simprocAttr]
    subst hk1
    have hrow : ∀ i, i < x.ops.length → (Opn.rows (x.ops.map plainO) i).all D.cl1 = true := fun i hi => by simp only [go_sem, simprocAttr]
    refine kont_weak_code (Weak.freeze rfl 3 rfl rfl hrow) ?_
    simp only [go_sem, simprocAttr]
    refine kont_of_hx cx_ok hb 200 ?_
    simp only [go_sem, simprocAttr]
    simp only [go_sem, simprocAttr, plainS, List.length_map]
end Go.Fg.X
/- What is written is read as it was; what is cut off is short; what is read is written as it was. Plain laws. No conditions. -/
namespace Go.Fg.X
set_option linter.unusedVariables false
open Go.Proofs Go.Fg
set_option maxRecDepth 100000
set_option linter.unusedSimpArgs false
def Prog.out {α : Type} : Prog α → Option (List Int × α)
  | .ret a => some ([], a)
  | .fld v k l m c => if v < l ∨ m < v then none else match (c v).out with
    | some r => some (beN k v ++ r.1, r.2)
    | none => none
  | .chk c => (c false).out
def bindO {α β : Type} (o : Option (List Int × α)) (f : α → Option (List Int × β)) : Option (List Int × β) := match o with
  | some r => (match f r.2 with
    | some q => some (r.1 ++ q.1, q.2)
    | none => none)
  | none => none
theorem Prog.out_bind {α β : Type} (f : α → Prog β) : ∀ p : Prog α, (p.bind f).out = bindO p.out fun a => (f a).out
  | .ret a => by
    simp only [Prog.bind, Prog.out, bindO]
    cases (f a).out <;> rfl
  | .fld v k l m c => by
    simp only [Prog.bind, Prog.out]
    split
    · rfl
    · rw [Prog.out_bind f (c v)]
      cases (c v).out with
      | none => rfl
      | some r => simp only [bindO]; cases (f r.2).out <;> simp
  | .chk c => by simp only [Prog.bind, Prog.out]; exact Prog.out_bind f (c false)
theorem estepB_bad (s : ESt) {v : Int} (k : Nat) {l m : Int} (h : v < l ∨ m < v) : estepB s v k l m = (⟨s.g, 4, s.out⟩, 0) := if_pos h
theorem estepB_ok {s : ESt} {v : Int} (k : Nat) {l m : Int} (h : ¬ (v < l ∨ m < v)) (e : s.err = 0) : estepB s v k l m = (⟨s.g + k, 0, s.out ++ beN k v⟩, v) := (if_neg h).trans (if_pos e)
theorem estepB_err {s : ESt} {v : Int} (k : Nat) {l m : Int} (h : ¬ (v < l ∨ m < v)) (e : s.err ≠ 0) : estepB s v k l m = (s, 0) := (if_neg h).trans (if_neg e)
theorem enc_err {α : Type} : ∀ (p : Prog α) (s : encM.σ), (show ESt from s).err ≠ 0 → (show ESt from (p.run encM s).1).err ≠ 0
  | .ret _, s, h => h
  | .fld v k l m c, s, h => by
    rw [Prog.run_fld]
    refine enc_err _ _ ?_
    by_cases hb : v < l ∨ m < v
    · rw [show encM.step s v k l m = _ from estepB_bad s k hb]; show (4 : Int) ≠ 0; decide
    · rw [show encM.step s v k l m = _ from estepB_err k hb h]; exact h
  | .chk c, s, h => by rw [Prog.run_chk]; exact enc_err _ _ h
theorem enc_run {α : Type} : ∀ (p : Prog α) (s : encM.σ), (show ESt from s).err = 0 → (match p.out with
    | some r => (show ESt from (p.run encM s).1).err = 0 ∧ (show ESt from (p.run encM s).1).out = (show ESt from s).out ++ r.1
    | none => (show ESt from (p.run encM s).1).err ≠ 0)
  | .ret _, s, h => ⟨h, by simp [Prog.run_ret]⟩
  | .fld v k l m c, s, h => by
    simp only [Prog.out, Prog.run_fld]
    by_cases hb : v < l ∨ m < v
    · rw [if_pos hb]
      refine enc_err _ _ ?_
      rw [show encM.step s v k l m = _ from estepB_bad s k hb]; show (4 : Int) ≠ 0; decide
    · rw [if_neg hb, show encM.step s v k l m = _ from estepB_ok k hb h]
      have ih := enc_run (c v) (⟨(show ESt from s).g + k, 0, (show ESt from s).out ++ beN k v⟩ : ESt) rfl
      cases hc : (c v).out with
      | none => rw [hc] at ih; exact ih
      | some r =>
        rw [hc] at ih
        exact ⟨ih.1, ih.2.trans (List.append_assoc _ _ _)⟩
  | .chk c, s, h => by
    have e : (encM.err s != 0) = false := by show ((show ESt from s).err != 0) = false; rw [h]; rfl
    simp only [Prog.out, Prog.run_chk, e]
    exact enc_run (c false) s h
theorem encV_of {x : Scr} : (match (pscript x).out with
    | some r => encV x = (r.1, 0)
    | none => (encV x).2 ≠ 0 ∧ (encV x).1 = []) := by
  have h := enc_run (pscript x) (⟨0, 0, []⟩ : ESt) rfl
  simp only [encV]
  cases hc : (pscript x).out with
  | none =>
    rw [hc] at h
    rw [if_neg h]; exact ⟨h, rfl⟩
  | some r =>
    rw [hc] at h
    simp only
    rw [if_pos h.1, h.2]; rfl
theorem beN_succ (n : Nat) (v : Int) : beN (n + 1) v = beN n (v / 256) ++ [v % 256] := by
  simp only [beN, List.range_succ, List.map_append, List.map_cons, List.map_nil]
  congr 1
  · apply List.map_congr_left
    intro i hi
    rw [List.mem_range] at hi
    rw [Int.ediv_ediv_of_nonneg (by decide), show n + 1 - 1 - i = (n - 1 - i) + 1 by omega, Int.pow_succ, Int.mul_comm]
  · rw [show n + 1 - 1 - n = 0 by omega]; simp
theorem be_beN : ∀ (n : Nat) (v : Int), 0 ≤ v → v < 256 ^ n → be (beN n v) = v
  | 0, v, h, h2 => by rw [show v = 0 by simp at h2; omega]; rfl
  | n + 1, v, h, h2 => by
    rw [beN_succ, be_snoc, be_beN n (v / 256) (by omega) (by rw [Int.pow_succ] at h2; generalize (256 : Int) ^ n = p at *; omega)]
    omega
theorem beN_rev : ∀ (r : List Int), Bytes r.reverse → beN r.length (be r.reverse) = r.reverse
  | [], _ => rfl
  | b :: r, h => by
    rw [List.reverse_cons] at h ⊢
    obtain ⟨h3, h4⟩ := h b (by simp)
    rw [be_snoc, List.length_cons, beN_succ, show (be r.reverse * 256 + b) / 256 = be r.reverse by omega, show (be r.reverse * 256 + b) % 256 = b by omega,
      beN_rev r (fun x hx => h x (by simp at hx ⊢; exact .inl hx))]
theorem beN_be {l : List Int} (h : Bytes l) : beN l.length (be l) = l := by
  have := beN_rev l.reverse (by rw [List.reverse_reverse]; exact h)
  rwa [List.reverse_reverse, List.length_reverse] at this
def Prog.Wf {α : Type} : Prog α → Prop
  | .ret _ => True
  | .fld _ k l m c => 0 ≤ l ∧ m < 256 ^ k ∧ 0 < k ∧ ∀ v, (c v).Wf
  | .chk c => ∀ b, (c b).Wf
theorem Prog.wf_bind {α β : Type} (f : α → Prog β) (hf : ∀ a, (f a).Wf) : ∀ p : Prog α, p.Wf → (p.bind f).Wf
  | .ret a, _ => hf a
  | .fld _ _ _ _ c, h => ⟨h.1, h.2.1, h.2.2.1, fun v => Prog.wf_bind f hf (c v) (h.2.2.2 v)⟩
  | .chk c, h => fun b => Prog.wf_bind f hf (c b) (h b)
def dS (l : List Int) (e : Int) : decM.σ := (⟨l, e⟩ : DSt)
theorem dec_err {α : Type} : ∀ (p : Prog α) (s : decM.σ), (show DSt from s).err ≠ 0 → (p.run decM s).1 = s
  | .ret _, s, h => rfl
  | .fld v k l m c, s, h => by
    have e : decM.step s v k l m = (s, 0) := if_neg (c := (show DSt from s).err = 0) h
    rw [Prog.run_fld, e]; exact dec_err _ _ h
  | .chk c, s, h => by rw [Prog.run_chk]; exact dec_err _ _ h
theorem dec_run {α : Type} : ∀ (p : Prog α), p.Wf → ∀ (r : List Int × α) (rest : List Int), p.out = some r → p.run decM (dS (r.1 ++ rest) 0) = (dS rest 0, r.2)
  | .ret a, _, r, rest, h => by simp only [Prog.out, Option.some.injEq] at h; subst h; rfl
  | .fld v k l m c, w, r, rest, h => by
    simp only [Prog.out] at h
    split at h
    · cases h
    · rename_i hb
      cases hc : (c v).out with
      | none => rw [hc] at h; cases h
      | some q =>
        rw [hc] at h
        simp only [Option.some.injEq] at h
        subst h
        have hlen := beN_len k v
        have hv := be_beN k v (by have := w.1; omega) (by have := w.2.1; omega)
        have e : decM.step (dS ((beN k v ++ q.1) ++ rest) 0) v k l m = (dS (q.1 ++ rest) 0, v) := by
          show dstep ⟨(beN k v ++ q.1) ++ rest, 0⟩ k l m = _
          have e1 : ((beN k v ++ q.1) ++ rest).take k = beN k v := by rw [List.append_assoc, List.take_append_of_le_length (by omega), List.take_of_length_le (by omega)]
          have e2 : ((beN k v ++ q.1) ++ rest).drop k = q.1 ++ rest := by
            rw [List.append_assoc, List.drop_append_of_le_length (by omega), List.drop_of_length_le (by omega), List.nil_append]
          have e3 : ¬ ((beN k v ++ q.1) ++ rest).length < k := by simp only [List.length_append]; omega
          simp only [dstep, if_true, if_neg e3, e1, e2, hv, if_neg hb]; rfl
        rw [Prog.run_fld, e]
        exact dec_run (c v) (w.2.2.2 v) q rest hc
  | .chk c, w, r, rest, h => by
    rw [Prog.run_chk]
    exact dec_run (c false) (w false) r rest h
theorem dec_cut {α : Type} : ∀ (p : Prog α), p.Wf → ∀ (r : List Int × α) (n : Nat), p.out = some r → n < r.1.length → ∃ x, (p.run decM (dS (r.1.take n) 0)).1 = dS x 3
  | .ret a, _, r, n, h, hn => by simp only [Prog.out, Option.some.injEq] at h; subst h; simp at hn
  | .fld v k l m c, w, r, n, h, hn => by
    simp only [Prog.out] at h
    split at h
    · cases h
    · rename_i hb
      cases hc : (c v).out with
      | none => rw [hc] at h; cases h
      | some q =>
        rw [hc] at h
        simp only [Option.some.injEq] at h
        subst h
        have hlen := beN_len k v
        simp only [List.length_append] at hn
        by_cases hk : n < k
        · have e : decM.step (dS ((beN k v ++ q.1).take n) 0) v k l m = (dS ((beN k v ++ q.1).take n) 3, 0) := by
            show dstep ⟨(beN k v ++ q.1).take n, 0⟩ k l m = _
            have e3 : ((beN k v ++ q.1).take n).length < k := by simp only [List.length_take, List.length_append]; omega
            simp only [dstep, if_true, if_pos e3]; rfl
          rw [Prog.run_fld, e, dec_err _ _ (by show (3 : Int) ≠ 0; decide)]; exact ⟨_, rfl⟩
        · have hv := be_beN k v (by have := w.1; omega) (by have := w.2.1; omega)
          have e0 : (beN k v ++ q.1).take n = beN k v ++ q.1.take (n - k) := by
            rw [List.take_append, List.take_of_length_le (by omega), hlen]
          have e : decM.step (dS ((beN k v ++ q.1).take n) 0) v k l m = (dS (q.1.take (n - k)) 0, v) := by
            show dstep ⟨(beN k v ++ q.1).take n, 0⟩ k l m = _
            rw [e0]
            have e1 : (beN k v ++ q.1.take (n - k)).take k = beN k v := by rw [List.take_append_of_le_length (by omega), List.take_of_length_le (by omega)]
            have e2 : (beN k v ++ q.1.take (n - k)).drop k = q.1.take (n - k) := by
              rw [List.drop_append_of_le_length (by omega), List.drop_of_length_le (by omega), List.nil_append]
            have e3 : ¬ (beN k v ++ q.1.take (n - k)).length < k := by simp only [List.length_append]; omega
            simp only [dstep, if_true, if_neg e3, e1, e2, hv, if_neg hb]; rfl
          rw [Prog.run_fld, e]
          exact dec_cut (c v) (w.2.2.2 v) q (n - k) hc (by omega)
  | .chk c, w, r, n, h, hn => by
    rw [Prog.run_chk]
    exact dec_cut (c false) (w false) r n h hn
end Go.Fg.X
/- What is read is written as it was: coder by coder. Plain laws. No conditions. -/
namespace Go.Fg.X
set_option linter.unusedVariables false
open Go.Proofs Go.Fg
set_option maxRecDepth 100000
set_option linter.unusedSimpArgs false
def dE (s : decM.σ) : Int := DSt.err s
def dR (s : decM.σ) : List Int := DSt.rest s
theorem dE_start {α : Type} {p : Prog α} {s : decM.σ} (h : dE (p.run decM s).1 = 0) : dE s = 0 := by
  by_cases he : dE s = 0
  · exact he
  · rw [dec_err p s he] at h; exact h
theorem fldb {α : Type} {v : Int} {k : Nat} {l m : Int} {c : Int → Prog α} {s : decM.σ} (h : Bytes (dR s)) (he : dE ((Prog.fld v k l m c).run decM s).1 = 0) :
    ∃ x t, (Prog.fld v k l m c).run decM s = (c x).run decM t ∧ Bytes (dR t) ∧ dE s = 0 ∧ l ≤ x ∧ x ≤ m ∧ 0 ≤ x ∧ dR s = beN k x ++ dR t := by
  have e0 : (Prog.fld v k l m c).run decM s = (c (decM.step s v k l m).2).run decM (decM.step s v k l m).1 := Prog.run_fld decM v k l m c s
  have hs : dE s = 0 := dE_start he
  rw [e0] at he
  have ht : dE (decM.step s v k l m).1 = 0 := dE_start he
  refine ⟨_, _, e0, ?_, hs, ?_⟩
  · show Bytes (dstep s k l m).1.rest
    simp only [dstep]
    split
    · split
      · exact h
      · split <;> exact bytes_drop h _
    · exact h
  · have ht2 : (dstep s k l m).1.err = 0 := ht
    show l ≤ (dstep s k l m).2 ∧ (dstep s k l m).2 ≤ m ∧ 0 ≤ (dstep s k l m).2 ∧ dR s = beN k (dstep s k l m).2 ++ (dstep s k l m).1.rest
    have hs2 : DSt.err s = 0 := hs
    by_cases h1 : (dR s).length < k
    · rw [show dstep s k l m = (⟨dR s, 3⟩, 0) from (if_pos hs2).trans (if_pos h1)] at ht2
      exact absurd ht2 (by show ¬(3 : Int) = 0; decide)
    by_cases h2 : be ((dR s).take k) < l ∨ m < be ((dR s).take k)
    · rw [show dstep s k l m = (⟨(dR s).drop k, 4⟩, 0) from (if_pos hs2).trans ((if_neg h1).trans (if_pos h2))] at ht2
      exact absurd ht2 (by show ¬(4 : Int) = 0; decide)
    rw [show dstep s k l m = (⟨(dR s).drop k, 0⟩, be ((dR s).take k)) from (if_pos hs2).trans ((if_neg h1).trans (if_neg h2))]
    have hb := be_lt (bytes_take h k)
    have hn := beN_be (bytes_take h k)
    rw [List.length_take, Nat.min_eq_left (show k ≤ (dR s).length by omega)] at hn
    refine ⟨by dsimp only; omega, by dsimp only; omega, hb.1, ?_⟩
    show dR s = beN k (be ((dR s).take k)) ++ (dR s).drop k
    rw [hn, List.take_append_drop]
theorem out_fld {α : Type} {v : Int} {k : Nat} {l m : Int} {c : Int → Prog α} {b : List Int} {a : α} (h1 : l ≤ v) (h2 : v ≤ m) (hc : (c v).out = some (b, a)) : (Prog.fld v k l m c).out = some (beN k v ++ b, a) := by
  rw [Prog.out, if_neg (by omega), hc]
theorem out_fldw {α : Type} {v x : Int} {k : Nat} {l m : Int} {c : Int → Prog α} {b : List Int} {a : α} (e : v = x) (h1 : l ≤ x) (h2 : x ≤ m) (hc : (c x).out = some (b, a)) : (Prog.fld v k l m c).out = some (beN k x ++ b, a) := by
  subst e; exact out_fld h1 h2 hc
theorem out_bind' {α β : Type} {p : Prog α} {f : α → Prog β} {b : List Int} {a : α} {b2 : List Int} {a2 : β} (hp : p.out = some (b, a)) (hf : (f a).out = some (b2, a2)) : (p.bind f).out = some (b ++ b2, a2) := by
  rw [Prog.out_bind, hp]; simp only [bindO, hf]
theorem fld_out {α : Type} {v : Int} {k : Nat} {l m : Int} {c : Int → Prog α} {r : List Int × α} (h : (Prog.fld v k l m c).out = some r) : l ≤ v ∧ v ≤ m ∧ ∃ q, (c v).out = some q ∧ r.2 = q.2 := by
  rw [Prog.out] at h
  split at h
  · cases h
  · cases hc : (c v).out with
    | none => rw [hc] at h; cases h
    | some q => rw [hc] at h; cases h; exact ⟨by omega, by omega, q, rfl, rfl⟩
theorem bind_out {α β : Type} {p : Prog α} {f : α → Prog β} {r : List Int × β} (h : (p.bind f).out = some r) : ∃ q, p.out = some q ∧ ∃ q2, (f q.2).out = some q2 ∧ r.2 = q2.2 := by
  rw [Prog.out_bind] at h
  simp only [bindO] at h
  cases hp : p.out with
  | none => rw [hp] at h; cases h
  | some q =>
    rw [hp] at h
    simp only at h
    cases hf : (f q.2).out with
    | none => rw [hf] at h; cases h
    | some q2 => rw [hf] at h; cases h; exact ⟨q, rfl, q2, hf, rfl⟩
/-- What is read is written as it was. -/
def Rb {α : Type} (p : α → Prog α) : Prop := ∀ (x : α) (s : decM.σ), Bytes (dR s) → dE ((p x).run decM s).1 = 0 →
  dE s = 0 ∧ Bytes (dR ((p x).run decM s).1) ∧ ∃ b, (p ((p x).run decM s).2).out = some (b, ((p x).run decM s).2) ∧ dR s = b ++ dR ((p x).run decM s).1
/-- What is written comes to itself. -/
def Vl {α : Type} (p : α → Prog α) (f : α → α) (ok : α → Prop) : Prop := ∀ (x : α) (r : List Int × α), ok x → (p x).out = some r → r.2 = f x
theorem bindb {α β : Type} {p : α → Prog α} (hp : Rb p) {x : α} {f : α → Prog β} {s : decM.σ} (h : Bytes (dR s)) (he : dE (((p x).bind f).run decM s).1 = 0) :
    ∃ a t b, ((p x).bind f).run decM s = (f a).run decM t ∧ Bytes (dR t) ∧ dE s = 0 ∧ (p a).out = some (b, a) ∧ dR s = b ++ dR t := by
  have e0 : ((p x).bind f).run decM s = (f ((p x).run decM s).2).run decM ((p x).run decM s).1 := Prog.run_bind decM f (p x) s
  rw [e0] at he
  obtain ⟨h1, h2, b, h3, h4⟩ := hp x s h (dE_start he)
  exact ⟨_, _, b, e0, h2, h1, h3, h4⟩
theorem wf_fld {α : Type} {v : Int} {k : Nat} {l m : Int} {c : Int → Prog α} (h1 : 0 ≤ l) (h2 : m < 256 ^ k) (h3 : 0 < k) (hc : ∀ v, (c v).Wf) : (Prog.fld v k l m c).Wf := ⟨h1, h2, h3, hc⟩
theorem wf_bind {α β : Type} {p : Prog α} {f : α → Prog β} (hp : p.Wf) (hf : ∀ a, (f a).Wf) : (p.bind f).Wf := Prog.wf_bind f hf p hp
theorem wf_ret {α : Type} (a : α) : (Prog.ret a).Wf := trivial
theorem pcurve_wf (x : Cv) : (pcurve x).Wf := by
  unfold pcurve
  repeat' first | exact wf_ret _ | refine wf_fld (by decide) (by decide) (by decide) fun _ => ?_ | refine wf_bind ?_ fun _ => ?_
theorem phead_wf (x : Hd) : (phead x).Wf := by
  unfold phead
  repeat' first | exact wf_ret _ | refine wf_fld (by decide) (by decide) (by decide) fun _ => ?_ | refine wf_bind ?_ fun _ => ?_
theorem ppacket_wf (x : Pk) : (ppacket x).Wf := by
  unfold ppacket
  repeat' first | exact wf_ret _ | exact phead_wf _ | refine wf_fld (by decide) (by decide) (by decide) fun _ => ?_ | refine wf_bind ?_ fun _ => ?_
theorem prule_wf (x : Rul) : (prule x).Wf := by
  unfold prule
  repeat' first | exact wf_ret _ | exact phead_wf _ | refine wf_fld (by decide) (by decide) (by decide) fun _ => ?_ | refine wf_bind ?_ fun _ => ?_
theorem pclass_wf (x : Kls) : (pclass x).Wf := by
  unfold pclass
  repeat' first | exact wf_ret _ | exact pcurve_wf _ | refine wf_fld (by decide) (by decide) (by decide) fun _ => ?_ | refine wf_bind ?_ fun _ => ?_
theorem pchange_wf (x : Chg) : (pchange x).Wf := by
  unfold pchange
  repeat' first | exact wf_ret _ | exact pclass_wf _ | refine wf_fld (by decide) (by decide) (by decide) fun _ => ?_ | refine wf_bind ?_ fun _ => ?_
theorem ploop_wf {α : Type} [Inhabited α] {one : α → Prog α} (h : ∀ x, (one x).Wf) (l : List α) : ∀ (n i : Nat) (out : List α), (ploop one l n i out).Wf
  | 0, _, _ => trivial
  | n + 1, i, out => fun b => by
    cases b
    · exact wf_bind (h _) (fun y => ploop_wf h l n _ _)
    · trivial
theorem plist_wf {α : Type} [Inhabited α] {one : α → Prog α} (h : ∀ x, (one x).Wf) (l : List α) : (plist one l).Wf := wf_fld (by decide) (by decide) (by decide) fun n => ploop_wf h l _ _ _
theorem pop2_wf (x : Opn) (k : Int) : (pop2 x k).Wf := by
  unfold pop2
  split
  · exact wf_bind (plist_wf pchange_wf _) fun _ => trivial
  split
  · exact wf_bind (plist_wf prule_wf _) fun _ => trivial
  split
  · exact wf_bind (ppacket_wf _) fun _ => trivial
  split
  · exact wf_fld (by decide) (by decide) (by decide) fun _ => trivial
  · trivial
theorem pop_wf (x : Opn) : (pop x).Wf := wf_fld (by decide) (by decide) (by decide) fun k => pop2_wf x k
theorem psloop_wf (l : List Opn) : ∀ (n i : Nat) (out : List Opn), (psloop l n i out).Wf
  | 0, _, _ => trivial
  | n + 1, i, out => fun b => by
    cases b
    · exact wf_bind (pop_wf _) (fun y => psloop_wf l n _ _)
    · trivial
theorem pscript_wf (x : Scr) : (pscript x).Wf := by
  unfold pscript
  repeat' first | exact wf_ret _ | exact psloop_wf _ _ _ _ | refine wf_fld (by decide) (by decide) (by decide) fun _ => ?_ | refine wf_bind ?_ fun _ => ?_
-- what is read is written as it was
theorem pcurve_rb : Rb pcurve := by
  intro x s h he
  obtain ⟨a, t1, e1, h1, d0, la, ma, _, r1⟩ := fldb h he
  simp only [pcurve, e1] at he ⊢
  obtain ⟨b, t2, e2, h2, _, lb, mb, _, r2⟩ := fldb h1 he
  simp only [e2] at he ⊢
  obtain ⟨c, t3, e3, h3, _, lc, mc, _, r3⟩ := fldb h2 he
  simp only [e3, Prog.run_ret]
  refine ⟨d0, h3, _, out_fld la ma (out_fld lb mb (out_fld lc mc rfl)), ?_⟩
  rw [r1, r2, r3]; simp
theorem phead_rb : Rb phead := by
  intro x s h he
  obtain ⟨a, t1, e1, h1, d0, la, ma, _, r1⟩ := fldb h he
  simp only [phead, e1] at he ⊢
  obtain ⟨b, t2, e2, h2, _, lb, mb, _, r2⟩ := fldb h1 he
  simp only [e2] at he ⊢
  obtain ⟨c, t3, e3, h3, _, lc, mc, _, r3⟩ := fldb h2 he
  simp only [e3] at he ⊢
  obtain ⟨d, t4, e4, h4, _, ld, md, _, r4⟩ := fldb h3 he
  simp only [e4, Prog.run_ret]
  refine ⟨d0, h4, _, out_fld la ma (out_fld lb mb (out_fld lc mc (out_fld ld md rfl))), ?_⟩
  rw [r1, r2, r3, r4]; simp
theorem ppacket_rb : Rb ppacket := by
  intro x s h he
  obtain ⟨a, t1, e1, h1, d0, la, ma, _, r1⟩ := fldb h he
  simp only [ppacket, e1] at he ⊢
  obtain ⟨b, t2, e2, h2, _, lb, mb, _, r2⟩ := fldb h1 he
  simp only [e2] at he ⊢
  obtain ⟨c, t3, bb, e3, h3, _, o3, r3⟩ := bindb phead_rb h2 he
  simp only [e3, Prog.run_ret]
  have wb := wrapu_id (n := b) (by omega) (by omega)
  refine ⟨d0, h3, _, out_fld la ma (out_fldw wb lb mb (out_bind' o3 rfl)), ?_⟩
  rw [r1, r2, r3]; simp
theorem prule_rb : Rb prule := by
  intro x s h he
  obtain ⟨a, t1, b1, e1, h1, d0, o1, r1⟩ := bindb phead_rb h he
  simp only [prule, e1] at he ⊢
  obtain ⟨b, t2, b2, e2, h2, _, o2, r2⟩ := bindb phead_rb h1 he
  simp only [e2] at he ⊢
  obtain ⟨c, t3, e3, h3, _, lc, mc, _, r3⟩ := fldb h2 he
  simp only [e3, Prog.run_ret]
  have wb := wrapu_id (n := c) (by omega) (by omega)
  refine ⟨d0, h3, _, out_bind' o1 (out_bind' o2 (out_fldw wb lc mc rfl)), ?_⟩
  rw [r1, r2, r3]; simp
theorem leafI_eq {c : Int} (h : 0 ≤ c) (h2 : c ≤ 1) : leafI (c == 1) = c := by
  have : c = 0 ∨ c = 1 := by omega
  rcases this with rfl | rfl <;> rfl
theorem pclass_rb : Rb pclass := by
  intro x s h he
  obtain ⟨a, t1, e1, h1, d0, la, ma, _, r1⟩ := fldb h he
  simp only [pclass, e1] at he ⊢
  obtain ⟨b, t2, e2, h2, _, lb, mb, _, r2⟩ := fldb h1 he
  simp only [e2] at he ⊢
  obtain ⟨c, t3, e3, h3, _, lc, mc, _, r3⟩ := fldb h2 he
  simp only [e3] at he ⊢
  obtain ⟨d, t4, b4, e4, h4, _, o4, r4⟩ := bindb pcurve_rb h3 he
  simp only [e4] at he ⊢
  obtain ⟨e, t5, b5, e5, h5, _, o5, r5⟩ := bindb pcurve_rb h4 he
  simp only [e5] at he ⊢
  obtain ⟨f, t6, b6, e6, h6, _, o6, r6⟩ := bindb pcurve_rb h5 he
  simp only [e6] at he ⊢
  obtain ⟨p, t7, e7, h7, _, lp, mp, _, r7⟩ := fldb h6 he
  simp only [e7] at he ⊢
  obtain ⟨q, t8, e8, h8, _, lq, mq, _, r8⟩ := fldb h7 he
  simp only [e8, Prog.run_ret]
  have wa := wrapu_id (n := a) (by omega) (by omega)
  have wb := wrapu_id (n := b) (by omega) (by omega)
  have wc := leafI_eq lc mc
  have wp := wrapu_id (n := p) (by omega) (by omega)
  have wq := wrapu_id (n := q) (by omega) (by omega)
  refine ⟨d0, h8, _, out_fldw wa la ma (out_fldw wb lb mb (out_fldw wc lc mc
    (out_bind' o4 (out_bind' o5 (out_bind' o6 (out_fldw wp lp mp (out_fldw wq lq mq rfl))))))), ?_⟩
  rw [r1, r2, r3, r4, r5, r6, r7, r8]; simp
theorem pchange_rb : Rb pchange := by
  intro x s h he
  obtain ⟨a, t1, e1, h1, d0, la, ma, _, r1⟩ := fldb h he
  simp only [pchange, e1] at he ⊢
  obtain ⟨b, t2, b2, e2, h2, _, o2, r2⟩ := bindb pclass_rb h1 he
  simp only [e2, Prog.run_ret]
  have wa := wrapu_id (n := a) (by omega) (by omega)
  refine ⟨d0, h2, _, out_fldw wa la ma (out_bind' o2 rfl), ?_⟩
  rw [r1, r2]; simp
end Go.Fg.X
