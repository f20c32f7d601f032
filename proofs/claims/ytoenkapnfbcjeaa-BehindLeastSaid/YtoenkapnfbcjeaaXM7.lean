/- Walks of the functions that the statement reaches. No conditions: contracts and laws. -/
import Derived.Test.YtoenkapnfbcjeaaXM6
namespace Go.Fg.X
open Go.Proofs Go.Fg
set_option maxRecDepth 100000
set_option maxHeartbeats 4000000
set_option linter.unusedSimpArgs false
set_option linter.unusedVariables false
theorem okWide_arrayM {P : Program} {w : World} {r : Reach} {base : Nat} {t e : TypeId} {n : Nat} {v : Value} (ht : P.underlying t = some (.array n e)) (h : Value.okWide P w r base t v) : ∃ cs, v = .agg cs ∧ cs.size = P.cellsOf t := by
  simp only [Value.okWide, ht] at h
  obtain ⟨cs, h1, h2, _⟩ := h
  exact ⟨cs, h1, h2⟩
theorem okWide_array {P : Program} {w : World} {r : Reach} {base : Nat} {t e : TypeId} {n : Nat} {v : Value} (ht : P.underlying t = some (.array n e)) (h : Value.okWide P w r base t v) : ∃ cs, v = .agg cs ∧ cs.size = P.cellsOf t := okWide_arrayM ht h
theorem u64_natM {n : Int} (h : (Lit.int .u64 n).wf = true) : ∃ k : Nat, n = (k : Int) ∧ k < 18446744073709551616 := by
  have := wf_u64 h
  exact ⟨n.toNat, by omega, by omega⟩
theorem nats_of (l : List Int) (h : ∀ a ∈ l, (Lit.int .u64 a).wf = true) : ∃ L : List Nat, l.length = L.length ∧ ∀ i, l.getD i default = ((L.getD i default : Nat) : Int) := by
  induction l with
  | nil => exact ⟨[], rfl, fun i => rfl⟩
  | cons a l ih =>
    obtain ⟨L, h1, h2⟩ := ih (fun b hb => h b (List.mem_cons_of_mem _ hb))
    obtain ⟨k, hk, _⟩ := u64_natM (h a (List.mem_cons_self ..))
    refine ⟨k :: L, by simp [h1], fun i => ?_⟩
    cases i with
    | zero => simpa using hk
    | succ i => simpa using h2 i
theorem behindLeast_ok (x0 : Int) (x1 : List Int) (x2 : Int × Int × Unit) (k0 : (Lit.int .u64 x0).wf = true) (k1 : x1.length ≤ maxLen ∧ ∀ a ∈ x1, (Lit.int .u64 a).wf = true) (k2 : (Lit.int .u64 x2.1).wf = true ∧ (Lit.int .u64 x2.2.1).wf = true ∧ True) :
    AFn Try.prog 9 [.raw (.int .u64 x0), .imm 1 x1.length fun i => [.raw (.int .u64 (x1.getD i default))], .agg [.raw (.int .u64 x2.1), .raw (.int .u64 x2.2.1)]] (Ret (dbool true)) := by
  obtain ⟨m, rfl, hm⟩ := u64_natM k0
  obtain ⟨q, p, _⟩ := x2
  obtain ⟨q, rfl, hq⟩ := u64_natM k2.1
  obtain ⟨p, rfl, hp⟩ := u64_natM k2.2.1
  obtain ⟨L, h1, h2⟩ := nats_of x1 k1.2
  have := behindLeastN_ok m L q p hm hq hp
  have e : (.imm 1 x1.length fun i => [.raw (.int .u64 (x1.getD i default))] : D) = us L := by
    rw [h1]
    show D.imm 1 L.length _ = D.imm 1 L.length (uRows L)
    congr 1
    funext i
    rw [h2 i]; rfl
  rw [e]; exact this
end Go.Fg.X
