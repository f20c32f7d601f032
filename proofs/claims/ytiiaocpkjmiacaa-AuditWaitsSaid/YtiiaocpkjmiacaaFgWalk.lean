/- Rules for loops whose frame is told by the slots that change. No conditions: laws. -/
import Derived.Test.YtiiaocpkjmiacaaFgSel
namespace Go.Fg
set_option linter.unusedSimpArgs false
set_option linter.unusedVariables false
/-- These slots of a frame. -/
def pickFr (fr : List (Nat × D)) : List Nat → List (Nat × D)
  | [] => []
  | t :: r => (t, get fr t) :: pickFr fr r
attribute [go_sem] pickFr
/-- A loop's states: the slots V, the slots that stay, the objects H; G: what is free in it. -/
def ForS {G : Type} (R : Nat → Prop) (V : Nat → G → List (Nat × D)) (H : Nat → G → List Ob) (rest : List (Nat × D)) (i : Nat) (s : St) : Prop := R i ∧ ∃ γ, s = ⟨V i γ ++ rest, H i γ⟩
theorem ForS.mk {G : Type} {R : Nat → Prop} {V : Nat → G → List (Nat × D)} {H : Nat → G → List Ob} {rest : List (Nat × D)} {i : Nat} (γ : G) (h : R i) : ForS R V H rest i ⟨V i γ ++ rest, H i γ⟩ := ⟨h, γ, rfl⟩
section
variable {P : Program} {base nt : Nat} {w0 : Start} {Q : Exit → St → Prop} {k : List Item}
theorem kont_forF {G : Type} (keep : List Nat) (R : Nat → Prop) (V : Nat → G → List (Nat × D)) (H : Nat → G → List Ob) (N : Nat) (γ0 : G) {c : Code} {fr : List (Nat × D)} {h : List Ob} {rest : List (Nat × D)} (hr : pickFr fr keep = rest)
    (hw : Weak w0 ⟨fr, h⟩ ⟨V 0 γ0 ++ rest, H 0 γ0⟩) (hR : R 0)
    (round : ∀ i γ, i ≤ N → R i → kont P base nt w0 (ForQ P base nt w0 Q k (ForS R V H rest) N i) [.code c] .normal ⟨V i γ ++ rest, H i γ⟩) : kont P base nt w0 Q (.code (.loop c) :: k) .normal ⟨fr, h⟩ :=
  kont_for (ForS R V H rest) N hw ⟨hR, γ0, rfl⟩ fun i s hi ⟨hRi, γ, e⟩ => by subst e; exact round i γ hi hRi
end
section
variable {P : Program} {base : Nat} {w0 : Start} {Q : Exit → St → Prop} {X : Cx} {nt n : Nat} {k k' : List Item} {s s' : St}
theorem hite_lt {i N : Nat} (hi : i ≤ N) (h1 : i < N → hx P base w0 Q X nt n k s) (h2 : i = N → hx P base w0 Q X nt n k' s') : hite (decide (i < N)) (hz P base w0 Q X nt n k s) (hz P base w0 Q X nt n k' s') :=
  ⟨fun h => h1 (by simpa using h), fun h => h2 (by simp at h; omega)⟩
theorem hite_ltI {i N : Nat} (hi : i ≤ N) (h1 : i < N → hx P base w0 Q X nt n k s) (h2 : i = N → hx P base w0 Q X nt n k' s') : hite (decide ((i : Int) < (N : Int))) (hz P base w0 Q X nt n k s) (hz P base w0 Q X nt n k' s') :=
  ⟨fun h => h1 (by simpa using h), fun h => h2 (by simp at h; omega)⟩
/-- A test that compares numbers. -/
theorem hite_dec {p : Prop} [Decidable p] (h1 : p → hx P base w0 Q X nt n k s) (h2 : ¬ p → hx P base w0 Q X nt n k' s') : hite (decide p) (hz P base w0 Q X nt n k s) (hz P base w0 Q X nt n k' s') :=
  ⟨fun h => h1 (of_decide_eq_true h), fun h => h2 (of_decide_eq_false h)⟩
theorem hite_beq {α : Type} [BEq α] [LawfulBEq α] {a b : α} (h1 : a = b → hx P base w0 Q X nt n k s) (h2 : a ≠ b → hx P base w0 Q X nt n k' s') : hite (a == b) (hz P base w0 Q X nt n k s) (hz P base w0 Q X nt n k' s') :=
  ⟨fun h => h1 (by simpa using h), fun h => h2 (by simpa using h)⟩
theorem hite_bne {α : Type} [BEq α] [LawfulBEq α] {a b : α} (h1 : a ≠ b → hx P base w0 Q X nt n k s) (h2 : a = b → hx P base w0 Q X nt n k' s') : hite (a != b) (hz P base w0 Q X nt n k s) (hz P base w0 Q X nt n k' s') :=
  ⟨fun h => h1 (by simpa using h), fun h => h2 (by simpa using h)⟩
theorem hite_decA {K K' : St → Prop} {l l' : List (Bool × Oper × G)} {p : Prop} [Decidable p] (h1 : p → hax P base w0 X nt K l s) (h2 : ¬ p → hax P base w0 X nt K' l' s') : hite (decide p) (haz P base w0 X nt K l s) (haz P base w0 X nt K' l' s') :=
  ⟨fun h => h1 (of_decide_eq_true h), fun h => h2 (of_decide_eq_false h)⟩
theorem hite_beqA {K K' : St → Prop} {l l' : List (Bool × Oper × G)} {α : Type} [BEq α] [LawfulBEq α] {a b : α} (h1 : a = b → hax P base w0 X nt K l s) (h2 : a ≠ b → hax P base w0 X nt K' l' s') : hite (a == b) (haz P base w0 X nt K l s) (haz P base w0 X nt K' l' s') :=
  ⟨fun h => h1 (by simpa using h), fun h => h2 (by simpa using h)⟩
theorem hite_bneA {K K' : St → Prop} {l l' : List (Bool × Oper × G)} {α : Type} [BEq α] [LawfulBEq α] {a b : α} (h1 : a ≠ b → hax P base w0 X nt K l s) (h2 : a = b → hax P base w0 X nt K' l' s') : hite (a != b) (haz P base w0 X nt K l s) (haz P base w0 X nt K' l' s') :=
  ⟨fun h => h1 (by simpa using h), fun h => h2 (by simpa using h)⟩
end
end Go.Fg
