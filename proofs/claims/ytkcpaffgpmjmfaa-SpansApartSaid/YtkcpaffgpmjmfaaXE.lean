/- The statement SpansApart is proved. No conditions. -/
import Derived.Test.YtkcpaffgpmjmfaaXD
import Derived.Test.YtkcpaffgpmjmfaaFgLaw
import Derived.Test.YtkcpaffgpmjmfaaRows
import Derived.ProofKit
import Derived.OpenShut
import Derived.ChangeOld
import Derived.Below
namespace Go.Fg.X
open Go.Proofs Go.Fg Go.Proofs.Ytkcpaffgpmjmfaa
open Go.ChangeShapes Go.WideShapes Go.ChangeAt Go.RowKit
set_option linter.unusedVariables false
theorem own : ownKnob Try.prog.godebug = none := by kernel_rfl
theorem laidOut : laidOutB Try.prog = true := by kernel_rfl
def evK : List K := [.int .i64, .bool, .bool, .int .u64, .int .u64, .int .i64, .int .u64, .int .i64, .int .u16, .int .u16, .int .u16, .int .u16]
theorem okL_cons {k : K} {ks : List K} {cs : List Value} (h : okL (k :: ks) cs) : ∃ c r, cs = c :: r ∧ k.ok c ∧ okL ks r := by
  cases cs with
  | nil => exact h.elim
  | cons c r => exact ⟨c, r, rfl, h.1, h.2⟩
theorem okL_nil {cs : List Value} (h : okL [] cs) : cs = [] := by
  cases cs with
  | nil => rfl
  | cons c r => exact h.elim
theorem ev_dec (cs : List Value) (h : okL evK cs) : ∃ a : Ev, True ∧ a.cells = cs.map D.raw := by
  obtain ⟨_, _, rfl, ⟨n0, rfl, _⟩, h1⟩ := okL_cons h
  obtain ⟨_, _, rfl, ⟨b1, rfl⟩, h2⟩ := okL_cons h1
  obtain ⟨_, _, rfl, ⟨b2, rfl⟩, h3⟩ := okL_cons h2
  obtain ⟨_, _, rfl, ⟨n3, rfl, _⟩, h4⟩ := okL_cons h3
  obtain ⟨_, _, rfl, ⟨n4, rfl, _⟩, h5⟩ := okL_cons h4
  obtain ⟨_, _, rfl, ⟨n5, rfl, _⟩, h6⟩ := okL_cons h5
  obtain ⟨_, _, rfl, ⟨n6, rfl, _⟩, h7⟩ := okL_cons h6
  obtain ⟨_, _, rfl, ⟨n7, rfl, _⟩, h8⟩ := okL_cons h7
  obtain ⟨_, _, rfl, ⟨n8, rfl, _⟩, h9⟩ := okL_cons h8
  obtain ⟨_, _, rfl, ⟨n9, rfl, _⟩, h10⟩ := okL_cons h9
  obtain ⟨_, _, rfl, ⟨n10, rfl, _⟩, h11⟩ := okL_cons h10
  obtain ⟨_, _, rfl, ⟨n11, rfl, _⟩, h12⟩ := okL_cons h11
  obtain rfl := okL_nil h12
  exact ⟨⟨n0, b1, b2, n3, n4, n5, n6, n7, n8, n9, n10, n11⟩, trivial, rfl⟩
theorem int_dec (cs : List Value) (h : okL [.int .i64] cs) : ∃ a : Int, True ∧ [dint a] = cs.map D.raw := by
  obtain ⟨_, _, rfl, ⟨n0, rfl, _⟩, h1⟩ := okL_cons h
  obtain rfl := okL_nil h1
  exact ⟨n0, trivial, rfl⟩
set_option maxRecDepth 100000 in
theorem evs_in {H : Type} {enc : TypeId × Value → H} {w : World} {base : Nat} {held : Bool} {v : Value} {d : DataW H} {ps : List MemPlace} (h : DataW.Trod enc Try.prog w base (fun _ => true) held 22 v d ps) (hv : v.cells.toList = [v]) : ∃ l : List Ev, Cl (fun _ => True) w (evs l) v := by
  obtain ⟨l, _, _, h⟩ := slice_in (ok := fun _ : Ev => True) (cells := Ev.cells) (n := 4) (ks := evK) Try.underlying22 (by kernel_rfl) (by kernel_rfl) (by decide) ev_dec h hv
  exact ⟨l, h⟩
set_option maxRecDepth 100000 in
theorem ints_in {H : Type} {enc : TypeId × Value → H} {w : World} {base : Nat} {held : Bool} {v : Value} {d : DataW H} {ps : List MemPlace} (h : DataW.Trod enc Try.prog w base (fun _ => true) held 23 v d ps) (hv : v.cells.toList = [v]) : ∃ l : List Int, Cl (fun _ => True) w (ints l) v := by
  obtain ⟨l, _, _, h⟩ := slice_in (ok := fun _ : Int => True) (cells := fun n => [dint n]) (n := 1) (ks := [.int .i64]) Try.underlying23 (by kernel_rfl) (by kernel_rfl) (by decide) int_dec h hv
  exact ⟨l, h⟩
theorem one_slice (a : Option Addr) (l c : Nat) : (Value.slice a l c).cells.toList = [Value.slice a l c] := by simp [Value.cells]
theorem walkApart (v0 v1 : Value) (W : World) (l : List Ev) (lv : List Int) (h0 : Cl (fun _ => True) W (evs l) v0) (h1 : Cl (fun _ => True) W (ints lv) v1) : Calls Try.prog 3 #[v0, v1] W fun e W' => e = .returned (.bool true) ∧ Below W.heap.size W W' := by
  refine (apart_ok l lv (fun _ => True) W [v0, v1] rfl (fun i hi => ?_)).mono fun e W' he => ?_
  · match i, hi with
    | 0, _ => exact h0
    | 1, _ => exact h1
  · obtain ⟨v, d, h, pl, rfl, ⟨rfl, rfl⟩, _, hv, hb⟩ := he
    rw [inv_raw hv]
    exact ⟨rfl, hb⟩
set_option maxRecDepth 100000 in
theorem lifted (os : Os) (started : os.Started) (H : Type) (enc : TypeId × Value → H) :
    ReturnsInHanded {} Try.checked os 3 .any (Rows.spansApartSpec.pre6 enc Try.prog Try.f3 Rows.spansApartRow.domain false) (Rows.spansApartSpec.post enc Try.prog Try.f3 false true false false) := by
  refine returnsInHanded_of_change (C := Try.checked) own started (by kernel_rfl) Try.func3
    (ChangeSpec.witness6 (enc := enc) (C := Try.checked) false ⟨#[], #[.slice none 0 0, .slice none 0 0], []⟩ 8 (by kernel_rfl) (by kernel_rfl) (by kernel_rfl) (by kernel_rfl)) ?_
  intro W base args ds gs before hval0 hW hcnd _
  have hval : ∀ (j : Nat) t v, Try.f3.params[j]? = some t → args[j]? = some v → Value.okWide Try.prog W .any base t v := hval0
  have hW' := hW
  obtain ⟨p, q, hA0, hV, rfl, hfz, hnd⟩ := hW
  have hA : DataW.TrodAll enc Try.prog W 0 (fun _ => true) true Try.f3.params.toList args.toList ds p := hA0
  rw [Try.params3] at hA hval
  obtain ⟨v0, vs0, d0, ds0, p0, q0, hargs, rfl, rfl, h0, r0⟩ := trodAll_cons hA
  obtain ⟨v1, vs1, d1, ds1, p1, q1, rfl, rfl, rfl, h1, r1⟩ := trodAll_cons r0
  obtain ⟨rfl, rfl, rfl⟩ := trodAll_nil r1
  obtain rfl : args = #[v0, v1] := by cases args; simp_all
  obtain ⟨rfl, rfl⟩ := trodVars_none hV
  obtain ⟨a0, len0, cap0, rfl⟩ := okWide_slice Try.underlying22 (hval 0 22 v0 rfl rfl)
  obtain ⟨a1, len1, cap1, rfl⟩ := okWide_slice Try.underlying23 (hval 1 23 v1 rfl rfl)
  have k0 := h0
  have k1 := h1
  have lt0 : ∀ x ∈ p0, x.block < W.heap.size := by obtain ⟨m, hm⟩ := k0; exact DataW.trod_lt m _ _ _ hm
  have lt1 : ∀ x ∈ p1, x.block < W.heap.size := by obtain ⟨m, hm⟩ := k1; exact DataW.trod_lt m _ _ _ hm
  obtain ⟨l, c0⟩ := evs_in h0 (one_slice _ _ _)
  obtain ⟨lv, c1⟩ := ints_in h1 (one_slice _ _ _)
  clear hA0 hval0
  refine (walkApart _ _ W l lv c0 c1).mono fun e W' ⟨he, bel⟩ => ?_
  subst he
  exact ⟨_, rfl, _, _, _, [], _, [], hW', trodAll_mk1 (shut_bool Try.underlying4 _), (trodAll_cons_mk (Below.trod laidOut (by kernel_rfl) (of_decide_eq_true (by kernel_rfl)) k0 bel lt0) (trodAll_cons_mk (Below.trod laidOut (by kernel_rfl) (of_decide_eq_true (by kernel_rfl)) k1 bel lt1) trodAll_mk0)), rfl, bel.frame _, fun h => by cases h⟩
theorem over : Rows.spansApartRow.holds Try.pinned (OpenSpec.ofChange Rows.spansApartSpec) :=
  OpenClaim.holds_of_wide 3 Try.f3 rfl rfl rfl rfl rfl rfl rfl ⟨rfl, rfl, rfl, rfl, rfl⟩ rfl rfl rfl rfl rfl (by kernel_rfl) Try.func3 (by kernel_rfl)
    (of_decide_eq_true (by kernel_rfl)) (by unfold Func.isWrapper; first | (rw [if_pos (by decide +kernel)]; kernel_rfl) | (rw [if_neg (by decide +kernel)]; exact ⟨rfl, rfl⟩))
    (fun os started H enc _ => lifted os started H enc)
theorem proved : Rows.SpansApartSaid := over
end Go.Fg.X
namespace Go.Proofs.Ytkcpaffgpmjmfaa
theorem spansApart_done : Rows.SpansApartSaid := Go.Fg.X.proved
end Go.Proofs.Ytkcpaffgpmjmfaa
