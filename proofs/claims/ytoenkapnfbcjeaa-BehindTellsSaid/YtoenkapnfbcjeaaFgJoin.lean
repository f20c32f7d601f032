/- Rules that bring several ways together again: what stands behind a piece of code is walked once. No conditions: laws. -/
import Derived.Test.YtoenkapnfbcjeaaFgWalk
namespace Go.Fg
set_option linter.unusedSimpArgs false
set_option linter.unusedVariables false
theorem oper_mono {P : Program} {o : Oper} {a : Act} {w : World} {K K' : Act → World → Prop} {Q Q' : Exit → Act → World → Prop} (hk : ∀ a w, K a w → K' a w) (hq : ∀ e a w, Q e a w → Q' e a w) (h : o.wp P a w K Q) : o.wp P a w K' Q' := by
  unfold Oper.wp at *
  generalize (execOp a.eval o).run P w = r at *
  cases r with
  | ok x w' =>
    cases x <;> simp only [Oper.upon] at h ⊢ <;> first | exact hk _ _ h | exact h | skip
    · exact h.mono fun e w'' he => by
        cases e with
        | returned v => exact hk _ _ he
        | panicked c => exact hq _ _ _ he
        | outgrown => obtain ⟨a, w, h⟩ := he; exact ⟨a, w, hq _ _ _ h⟩
    · exact h.mono fun v w'' he => hk _ _ he
  | halt x w' => cases x <;> first | exact h | exact hq _ _ _ h
theorem wpG_mono {P : Program} {Q Q' : Exit → Act → World → Prop} (hq : ∀ e a w, Q e a w → Q' e a w) : ∀ (l : List (Oper × G)) (a : Act) (w : World), wpG P Q l a w → wpG P Q' l a w
  | [], a, w, h => hq _ _ _ h
  | (o, g) :: r, a, w, h => by
    simp only [wpG] at h ⊢
    split at h
    · rename_i hw
      rw [if_pos hw]
      exact oper_mono (fun a w => wpG_mono hq r a w) hq h
    · rename_i hw
      rw [if_neg hw]
      exact wpG_mono hq r _ _ h
section
variable {P : Program} {base nt : Nat} {w0 : Start} {Q : Exit → St → Prop} {k : List Item} {s s1 : St}
def JoinQ (P : Program) (base nt : Nat) (w0 : Start) (Q : Exit → St → Prop) (k : List Item) (s1 : St) : Exit → St → Prop
  | .normal, s => Weak w0 s s1
  | e, s => kont P base nt w0 Q k e s
@[go_sem] theorem JoinQ_normal : JoinQ P base nt w0 Q k s1 .normal s = Weak w0 s s1 := eqOf rfl
@[go_sem] theorem JoinQ_exit {j : Nat} : JoinQ P base nt w0 Q k s1 (.exit j) s = kont P base nt w0 Q k (.exit j) s := eqOf rfl
@[go_sem] theorem JoinQ_ret : JoinQ P base nt w0 Q k s1 .ret s = kont P base nt w0 Q k .ret s := eqOf rfl
/-- Behind the first piece all ways stand alike. -/
theorem kont_join {x : Item} {c : Code} (s1 : St) (h1 : kont P base nt w0 (JoinQ P base nt w0 Q (.code c :: k) s1) [x] .normal s) (h2 : kont P base nt w0 Q (.code c :: k) .normal s1) : kont P base nt w0 Q (x :: .code c :: k) .normal s := by
  cases x with
  | code x =>
    simp only [kont] at h1
    show A P base nt w0 x _ s
    refine h1.mono fun e s' he => ?_
    cases e with
    | normal => exact kont_weak_code he h2
    | _ => exact he
  | ops l =>
    simp only [kont] at h1
    show AG P base nt w0 l _ s
    intro Z z pl a w r b
    refine wpG_mono (fun e a' w' ⟨s', pl', hs, r', b'⟩ => ⟨s', pl', ?_, r', b'⟩) _ _ _ (h1 Z z pl a w r b)
    cases e with
    | normal => exact kont_weak_code hs h2
    | _ => exact hs
  | inBlock id => simp only [kont] at h1 ⊢; exact kont_weak_code h1 h2
  | inScope => simp only [kont] at h1 ⊢; exact kont_weak_code h1 h2
/-- The same: the slots V are told anew, those of 'keep' stay, the others are forgotten. -/
theorem kont_joinF {x : Item} {c : Code} (keep : List Nat) (V : List (Nat × D)) {fr : List (Nat × D)} {h : List Ob} {rest : List (Nat × D)} (hr : pickFr fr keep = rest)
    (h1 : kont P base nt w0 (JoinQ P base nt w0 Q (.code c :: k) ⟨V ++ rest, h⟩) [x] .normal ⟨fr, h⟩) (h2 : kont P base nt w0 Q (.code c :: k) .normal ⟨V ++ rest, h⟩) : kont P base nt w0 Q (x :: .code c :: k) .normal ⟨fr, h⟩ := kont_join _ h1 h2
@[go_sem] theorem hx_zero {X : Cx} : hx P base w0 Q X nt 0 k s = kont P base nt w0 Q k .normal s := by cases k <;> exact eqOf rfl
end
end Go.Fg
