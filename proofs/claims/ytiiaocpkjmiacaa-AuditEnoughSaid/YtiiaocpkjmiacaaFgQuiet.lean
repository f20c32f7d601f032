/- Sequences of steps that look at no world. No conditions: laws. -/
import Derived.Test.YtiiaocpkjmiacaaFgMore
namespace Go.Fg
set_option linter.unusedSimpArgs false
set_option linter.unusedVariables false
/-- What looks at no world. -/
def Quiet (P : Program) {α : Type} (m : Sem α) : Prop := ∀ w x w1, m.run P w = .ok x w1 → w1 = w ∧ ∀ w', m.run P w' = .ok x w'
section
variable {P : Program} {α β : Type}
theorem Quiet.pure (a : α) : Quiet P (pure a : Sem α) := fun w x w1 h => by
  simp at h; obtain ⟨rfl, rfl⟩ := h; exact ⟨rfl, fun w' => by simp⟩
theorem Quiet.never {m : Sem α} (hh : ∀ w x w1, m.run P w ≠ .ok x w1) : Quiet P m := fun w x w1 h => absurd h (hh w x w1)
theorem Quiet.bind {m : Sem α} {k : α → Sem β} (h1 : Quiet P m) (h2 : ∀ a, Quiet P (k a)) : Quiet P (m >>= k) := fun w x w1 h => by
  rw [Sem.run_bind] at h
  cases hm : m.run P w with
  | halt e w2 => rw [hm] at h; cases h
  | ok a w2 =>
    rw [hm] at h
    simp only [Result.andThen_ok] at h
    obtain ⟨rfl, h3⟩ := h1 w a w2 hm
    obtain ⟨rfl, h4⟩ := h2 a _ x w1 h
    exact ⟨rfl, fun w' => by rw [Sem.run_bind, h3 w']; simp only [Result.andThen_ok]; exact h4 w'⟩
theorem Quiet.stuck (s : String) : Quiet P (Go.stuck s : Sem α) := Quiet.never fun w x w1 h => by cases h
theorem Quiet.halt (e : Halt) : Quiet P (.halt e : Sem α) := Quiet.never fun w x w1 h => by cases h
theorem Quiet.program : Quiet P program := fun w x w1 h => by
  simp at h; obtain ⟨rfl, rfl⟩ := h; exact ⟨rfl, fun w' => by simp⟩
theorem Quiet.typeInfo (t : TypeId) : Quiet P (typeInfo t) := .bind .program fun p => by
  split
  · exact .pure _
  · exact .stuck _
theorem Quiet.underlying (t : TypeId) : Quiet P (underlying t) := .bind .program fun p => by
  split
  · exact .pure _
  · exact .stuck _
theorem Quiet.panic : Quiet P (runtimePanic .nilDeref : Sem α) := .bind .program fun p => .halt _
theorem Quiet.sizeOf (t : TypeId) : Quiet P (sizeOf t) := .bind (.typeInfo t) fun _ => .pure _
theorem Quiet.isAgg (t : TypeId) : Quiet P (isAgg t) := .bind (.underlying t) fun d => by
  split <;> exact .pure _
theorem Quiet.part (t : TypeId) (cs : Array Value) (i : Nat) : Quiet P (part t cs i) := by
  unfold Go.part
  repeat' (first | exact .pure _ | exact .stuck _ | refine .bind (.isAgg _) fun _ => ?_ | refine .bind (.sizeOf _) fun _ => ?_ | refine .bind (.typeInfo _) fun _ => ?_ | refine .bind (.underlying _) fun _ => ?_ | split)
theorem Quiet.blind : ∀ (l : List FieldStep) (t : TypeId) (x : Option Value), Quiet P (Go.followBlind l t x)
  | [], _, _ => .pure _
  | s :: r, t, x => by
    unfold Go.followBlind
    repeat' (first | exact .pure _ | exact .stuck _ | exact Quiet.blind r _ _ | refine .bind (.part _ _ _) fun _ => ?_ | refine .bind (.underlying _) fun _ => ?_ | split)
theorem Quiet.nilAhead : ∀ (n : Nat) (t : TypeId) (v : Value) (name : String), Quiet P (Go.nilAhead n t v name)
  | 0, _, _, _ => .pure _
  | n + 1, t, v, name => by
    unfold Go.nilAhead
    repeat' (first | exact .pure _ | exact .stuck _ | exact Quiet.nilAhead n _ _ _ | refine .bind (.blind _ _ _) fun _ => ?_ | refine .bind (.typeInfo _) fun _ => ?_ | refine .bind (.underlying _) fun _ => ?_ | split)
theorem Quiet.nilCheck {o : Oper} {x : Operand} (ho : o.op = .nilCheck x) (ρ : Operand → Value) : Quiet P (execOp ρ o) := by
  simp only [execOp, ho]
  repeat' (first | exact .pure _ | exact .stuck _ | exact .panic | exact .halt _ | (refine .bind (.halt _) fun _ => ?_) | refine .bind (.nilAhead _ _ _ _) fun _ => ?_ | refine .bind .program fun _ => ?_ | split)
end
end Go.Fg
