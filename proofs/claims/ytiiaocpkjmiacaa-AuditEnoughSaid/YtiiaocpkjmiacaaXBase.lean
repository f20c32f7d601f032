/- Walks of the functions that the statement reaches. No conditions: contracts and laws. -/
import Derived.Test.YtiiaocpkjmiacaaXT
namespace Go.Fg.X
open Go.Proofs Go.Fg
set_option maxRecDepth 100000
@[go_sem] def dint (n : Int) : D := .raw (.int .i64 n)
@[go_sem] def dbool (b : Bool) : D := .raw (.bool b)
@[go_sem] def ints (l : List Int) : D := .imm 1 l.length (rowsI .i64 l)
structure Ev where
  op : Int
  inn : Bool
  real : Bool
  at_ : Int
  done : Int
  cls : Int
  id : Int
  len : Int
  h0 : Int
  h1 : Int
  h2 : Int
  h3 : Int
instance : Inhabited Ev := ⟨⟨0, false, false, 0, 0, 0, 0, 0, 0, 0, 0, 0⟩⟩
@[go_sem] def Ev.cells (e : Ev) : List D := [.raw (.int .i64 e.op), .raw (.bool e.inn), .raw (.bool e.real), .raw (.int .u64 e.at_), .raw (.int .u64 e.done), .raw (.int .i64 e.cls), .raw (.int .u64 e.id), .raw (.int .i64 e.len), .raw (.int .u16 e.h0), .raw (.int .u16 e.h1), .raw (.int .u16 e.h2), .raw (.int .u16 e.h3)]
def Ev.Ok (x : Ev) : Prop := (Lit.int .i64 x.op).wf = true ∧ (Lit.int .u64 x.at_).wf = true ∧ (Lit.int .u64 x.done).wf = true ∧ (Lit.int .i64 x.cls).wf = true ∧ (Lit.int .u64 x.id).wf = true ∧ (Lit.int .i64 x.len).wf = true ∧ (Lit.int .u16 x.h0).wf = true ∧ (Lit.int .u16 x.h1).wf = true ∧ (Lit.int .u16 x.h2).wf = true ∧ (Lit.int .u16 x.h3).wf = true
theorem rdEv : Rd Try.prog 45 Ev.Ok Ev.cells :=
  Rd.map (Rd.struct (tot := 12) Try.underlying45 (by kernel_rfl) (RdF.cons (Rd.int .i64 Try.underlying3) (RdF.cons (Rd.bool Try.underlying4) (RdF.cons (Rd.bool Try.underlying4) (RdF.cons (Rd.int .u64 Try.underlying38) (RdF.cons (Rd.int .u64 Try.underlying38) (RdF.cons (Rd.int .i64 Try.underlying3) (RdF.cons rdPk RdF.nil rfl (by kernel_rfl) (by decide)) rfl (by kernel_rfl) (by decide)) rfl (by kernel_rfl) (by decide)) rfl (by kernel_rfl) (by decide)) rfl (by kernel_rfl) (by decide)) rfl (by kernel_rfl) (by decide)) rfl (by kernel_rfl) (by decide)))
    (fun p => ⟨p.1, p.2.1, p.2.2.1, p.2.2.2.1, p.2.2.2.2.1, p.2.2.2.2.2.1, p.2.2.2.2.2.2.1.iD, p.2.2.2.2.2.2.1.len, p.2.2.2.2.2.2.1.head0, p.2.2.2.2.2.2.1.head1, p.2.2.2.2.2.2.1.head2, p.2.2.2.2.2.2.1.head3⟩) (fun _ => rfl) (fun _ h => ⟨h.1, h.2.2.2.1, h.2.2.2.2.1, h.2.2.2.2.2.1, h.2.2.2.2.2.2.1.1, h.2.2.2.2.2.2.1.2.1, h.2.2.2.2.2.2.1.2.2.1, h.2.2.2.2.2.2.1.2.2.2.1, h.2.2.2.2.2.2.1.2.2.2.2.1, h.2.2.2.2.2.2.1.2.2.2.2.2.1⟩)
def Ev.rows (l : List Ev) : Nat → List D := fun i => (l.getD i default).cells
@[go_sem] theorem Ev.rows_at (l : List Ev) (i : Nat) : Ev.rows l i = (l.getD i default).cells := rfl
@[go_sem] def evs (l : List Ev) : D := .imm 12 l.length (Ev.rows l)
theorem wrap64 {n : Int} (h1 : -9223372036854775808 ≤ n) (h2 : n ≤ 9223372036854775807) : IntKind.i64.wrap n = n := by
  rw [IntKind.wrap_i64]; omega
theorem wrap_succ {k : Nat} (h : k < 4611686018427387904) : IntKind.i64.wrap ((k : Int) + 1) = ((k + 1 : Nat) : Int) := by
  rw [wrap64 (by omega) (by omega)]; rfl
theorem bz {n : Nat} (h : n = 0) : ((n : Int) == 0) = true := by simp [h]
theorem bnz {n : Nat} (h : n ≠ 0) : ((n : Int) == 0) = false := by simp [h]
theorem dp {n : Nat} (h : n ≠ 0) : decide ((0 : Int) < n) = true := by simp; omega
theorem dnp {n : Nat} (h : n = 0) : decide ((0 : Int) < n) = false := by simp [h]
theorem getD_app {α : Type} (l : List α) (x d : α) (i : Nat) (hi : i < l.length + 1) : (l ++ [x]).getD i d = bif decide (i < l.length) then l.getD i d else x := by
  by_cases h : i < l.length
  · simp [h, List.getElem?_append_left h]
  · have : i = l.length := by omega
    subst this
    simp
set_option linter.unusedSimpArgs false
set_option linter.unusedVariables false
def Ret (d : D) : D → List Ob → Prop := fun d' h => d' = d ∧ h = []
attribute [go_sem] Ret
theorem Ret.flat {d : D} (hd : d.flat = true) : ∀ d' h, Ret d d' h → d'.flat = true ∧ ∀ o ∈ h, o.flat := by
  rintro d' h ⟨rfl, rfl⟩; exact ⟨hd, by simp⟩

theorem getD_take {α : Type} (l : List α) (d : α) (k : Nat) (h : k < l.length) : l.take (k + 1) = l.take k ++ [l.getD k d] := by
  rw [List.take_add_one, List.getElem?_eq_getElem h]; simp [List.getD_eq_getElem?_getD, List.getElem?_eq_getElem h]

theorem mixed : Try.prog.follows .mixedOrders = true := by kernel_rfl
theorem getD_lt {α : Type} (l : List α) (x d : α) (i : Nat) (h : i < l.length) : (l ++ [x]).getD i d = l.getD i d := by simp [List.getElem?_append_left h]
theorem getD_end {α : Type} (l : List α) (x d : α) : (l ++ [x]).getD l.length d = x := by simp
theorem getD_set_eq {α : Type} (l : List α) (x d : α) (i : Nat) (h : i < l.length) : (l.set i x).getD i d = x := by simp [h]
theorem getD_set_ne' {α : Type} (l : List α) (x d : α) (i j : Nat) (h : j ≠ i) : (l.set j x).getD i d = l.getD i d := by simp [List.getElem?_set_ne h]
theorem getD_map {α β : Type} (f : α → β) (l : List α) (d : α) (e : β) (i : Nat) (h : i < l.length) : (l.map f).getD i e = f (l.getD i d) := by simp [List.getD_eq_getElem?_getD, h]
theorem getD_mem {α : Type} (l : List α) (d : α) (i : Nat) (h : i < l.length) : l.getD i d ∈ l := by simp [List.getD_eq_getElem?_getD, h]
/-- Rows of which one more is as it should be. -/
theorem wf_i64 {n : Int} (h : (Lit.int .i64 n).wf = true) : -9223372036854775808 ≤ n ∧ n ≤ 9223372036854775807 := by
  simp only [Lit.wf, Bool.and_eq_true, decide_eq_true_eq] at h
  exact h
theorem wf_u64 {n : Int} (h : (Lit.int .u64 n).wf = true) : 0 ≤ n ∧ n ≤ 18446744073709551615 := by
  simp only [Lit.wf, Bool.and_eq_true, decide_eq_true_eq] at h
  exact h
theorem wf_u16 {n : Int} (h : (Lit.int .u16 n).wf = true) : 0 ≤ n ∧ n ≤ 65535 := by
  simp only [Lit.wf, Bool.and_eq_true, decide_eq_true_eq] at h
  exact h
theorem wrapu {n : Int} (h1 : 0 ≤ n) (h2 : n ≤ 18446744073709551615) : IntKind.u64.wrap n = n := by rw [IntKind.wrap_u64]; omega
@[go_sem] theorem cast0 : ((0 : Nat) : Int) = 0 := rfl
@[go_sem] theorem cast1 : ((1 : Nat) : Int) = 1 := rfl
@[go_sem] theorem cast2 : ((2 : Nat) : Int) = 2 := rfl
@[go_sem] theorem cast3 : ((3 : Nat) : Int) = 3 := rfl
@[go_sem] theorem cast4 : ((4 : Nat) : Int) = 4 := rfl
@[go_sem] theorem cast5 : ((5 : Nat) : Int) = 5 := rfl
@[go_sem] theorem cast6 : ((6 : Nat) : Int) = 6 := rfl
@[go_sem] theorem cast7 : ((7 : Nat) : Int) = 7 := rfl
@[go_sem] theorem cast8 : ((8 : Nat) : Int) = 8 := rfl
@[go_sem] theorem cast9 : ((9 : Nat) : Int) = 9 := rfl
@[go_sem] theorem cast10 : ((10 : Nat) : Int) = 10 := rfl
theorem beqT {a b : Int} (h : a = b) : (a == b) = true := by simp [h]
theorem beqF {a b : Int} (h : a ≠ b) : (a == b) = false := by simp [h]
theorem bneF {a b : Int} (h : a = b) : (a != b) = false := by simp [h]
theorem bneT {a b : Int} (h : a ≠ b) : (a != b) = true := by simp [h]
end Go.Fg.X
