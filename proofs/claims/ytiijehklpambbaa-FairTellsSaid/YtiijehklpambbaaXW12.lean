/- Walks of the functions that the statement reaches. No conditions: contracts and laws. -/
import Derived.Test.YtiijehklpambbaaXW11
namespace Go.Fg.X
open Go.Proofs Go.Fg
set_option maxRecDepth 100000
theorem u64_nat {n : Int} (h : (Lit.int .u64 n).wf = true) : ∃ k : Nat, n = (k : Int) ∧ k < 18446744073709551616 := by
  have := wf_u64 h
  exact ⟨n.toNat, by omega, by omega⟩
theorem fairTells_ok (a b : Got) (q : Asked33) (ka : a.Ok) (kb : b.Ok) (kq : q.Ok) : AFn Try.prog 11 [.agg a.cells, .agg b.cells, .agg q.cells] (Ret (dbool true)) := by
  obtain ⟨m, hm, hm'⟩ := u64_nat ka.1
  obtain ⟨v, hv, hv'⟩ := u64_nat ka.2.1
  obtain ⟨n, hn, hn'⟩ := u64_nat kb.1
  obtain ⟨t, ht, ht'⟩ := u64_nat kb.2.1
  obtain ⟨l, hl, hl'⟩ := u64_nat kq.2.1
  have := fairT_ok m v n t q.lmax l hm' hn' hv' ht' hl'
  simpa only [got, u64, dint, Got.cells, Asked33.cells, hm, hv, hn, ht, hl] using this
end Go.Fg.X
