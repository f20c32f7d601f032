/- Walks of the functions that the statement reaches. No conditions: contracts and laws. -/
import Derived.Test.YtoenkapnfbcjeaaXK5
namespace Go.Fg.X
open Go.Proofs Go.Fg
set_option maxRecDepth 100000
set_option linter.unusedSimpArgs false
set_option linter.unusedVariables false
theorem okWide_array {P : Program} {w : World} {r : Reach} {base : Nat} {t e : TypeId} {n : Nat} {v : Value} (ht : P.underlying t = some (.array n e)) (h : Value.okWide P w r base t v) : ∃ cs, v = .agg cs ∧ cs.size = P.cellsOf t := by
  simp only [Value.okWide, ht] at h
  obtain ⟨cs, h1, h2, _⟩ := h
  exact ⟨cs, h1, h2⟩
theorem u64_nat {n : Int} (h : (Lit.int .u64 n).wf = true) : ∃ k : Nat, n = (k : Int) ∧ k < 18446744073709551616 := by
  have := wf_u64 h
  exact ⟨n.toNat, by omega, by omega⟩
theorem conformBound_ok (x0 : Cf) (x1 : Cv) (x2 : Int × Int × Unit) (k0 : x0.Ok) (k1 : x1.Ok) (k2 : (Lit.int .u64 x2.1).wf = true ∧ (Lit.int .u64 x2.2.1).wf = true ∧ True) :
    AFn Try.prog 7 [.agg x0.cells, .agg x1.cells, .agg [.raw (.int .u64 x2.1), .raw (.int .u64 x2.2.1)]] (Ret (dbool true)) := by
  obtain ⟨T, L⟩ := x0
  obtain ⟨a, d, b⟩ := x1
  obtain ⟨q, r, _⟩ := x2
  obtain ⟨a, rfl, ha⟩ := u64_nat k1.1
  obtain ⟨d, rfl, hd⟩ := u64_nat k1.2.1
  obtain ⟨b, rfl, hb⟩ := u64_nat k1.2.2.1
  obtain ⟨q, rfl, hq⟩ := u64_nat k2.1
  obtain ⟨r, rfl, hr⟩ := u64_nat k2.2.1
  exact conformBoundN_ok T L a d b q r (wf_i64 k0.1) (wf_i64 k0.2.1) hb hq hr
end Go.Fg.X
