/- Walks of the functions that the statement reaches. No conditions: contracts and laws. -/
import Derived.Test.YtiiaocpkjmiacaaYP2
import Derived.Test.YtiiaocpkjmiacaaYK1
/- Lists, operations and scripts: what is read is written as it was; what is written comes to the plain script. Plain laws. No conditions. -/
namespace Go.Fg.X
set_option linter.unusedVariables false
open Go.Proofs Go.Fg
set_option maxRecDepth 100000
set_option linter.unusedSimpArgs false
theorem chk_run {α : Type} {c : Bool → Prog α} {s : decM.σ} (h : dE s = 0) : (Prog.chk c).run decM s = (c false).run decM s := by
  have e : (decM.err s != 0) = false := by show (dE s != 0) = false; rw [h]; rfl
  rw [Prog.run_chk, e]
theorem getD_mid {α : Type} (l m : List α) (y d : α) : (l ++ y :: m).getD l.length d = y := by simp [List.getD_eq_getElem?_getD]
theorem ploop_rb {α : Type} [Inhabited α] {one : α → Prog α} (h1 : Rb one) (l : List α) : ∀ (n : Nat) (out : List α) (s : decM.σ), Bytes (dR s) → dE ((ploop one l n out.length out).run decM s).1 = 0 →
    Bytes (dR ((ploop one l n out.length out).run decM s).1) ∧ ∃ more b, ((ploop one l n out.length out).run decM s).2 = out ++ more ∧ more.length = n ∧ dR s = b ++ dR ((ploop one l n out.length out).run decM s).1 ∧
      (ploop one (out ++ more) n out.length out).out = some (b, out ++ more)
  | 0, out, s, h, he => ⟨h, [], [], by simp [ploop, Prog.run_ret], rfl, by simp [ploop, Prog.run_ret], by simp [ploop, Prog.out]⟩
  | n + 1, out, s, h, he => by
    have hs := dE_start he
    simp only [ploop] at he ⊢
    rw [chk_run hs] at he ⊢
    simp only [cond_false] at he ⊢
    obtain ⟨y, t, b1, e1, h2, _, o1, r1⟩ := bindb h1 h he
    rw [e1] at he ⊢
    rw [show out.length + 1 = (out ++ [y]).length by simp] at he ⊢
    obtain ⟨h3, more, b, e2, e3, e4, e5⟩ := ploop_rb h1 l n (out ++ [y]) t h2 he
    refine ⟨h3, y :: more, b1 ++ b, by rw [e2]; simp, by simp [e3], by rw [r1, e4]; simp, ?_⟩
    simp only [Prog.out, cond_false]
    refine out_bind' (a := y) (by rw [getD_mid]; exact o1) ?_
    rw [List.append_assoc] at e5
    exact e5
theorem plist_rb {α : Type} [Inhabited α] {one : α → Prog α} (h1 : Rb one) : Rb (plist one) := by
  intro l s h he
  obtain ⟨n, t1, e1, h2, d0, la, ma, n0, r1⟩ := fldb h he
  simp only [plist, e1] at he ⊢
  obtain ⟨h3, more, b, e2, e3, e4, e5⟩ := ploop_rb h1 l n.toNat [] t1 h2 he
  simp only [List.length_nil, List.nil_append] at e2 e4 e5 h3
  rw [e2]
  refine ⟨d0, h3, beN 1 n ++ b, ?_, by rw [r1, e4]; simp⟩
  exact out_fldw (x := n) (by rw [e3]; omega) la ma e5
theorem pop_rb : Rb pop := by
  intro x s h he
  obtain ⟨k, t1, e1, h1, d0, la, ma, _, r1⟩ := fldb h he
  simp only [pop, e1] at he ⊢
  have hk : k = 1 ∨ k = 2 ∨ k = 3 ∨ k = 4 := by omega
  rcases hk with rfl | rfl | rfl | rfl
  · rw [run_pop2_1] at he ⊢
    obtain ⟨_, h2, b, o2, r2⟩ := plist_rb pchange_rb x.changes t1 h1 he
    refine ⟨d0, h2, beN 1 1 ++ (b ++ []), out_fldw (x := 1) (show IntKind.u64.wrap 1 = 1 by decide) la ma ?_, by rw [r1, r2]; simp⟩
    exact out_bind' o2 rfl
  · rw [run_pop2_2] at he ⊢
    obtain ⟨_, h2, b, o2, r2⟩ := plist_rb prule_rb x.rules t1 h1 he
    refine ⟨d0, h2, beN 1 2 ++ (b ++ []), out_fldw (x := 2) (show IntKind.u64.wrap 2 = 2 by decide) la ma ?_, by rw [r1, r2]; simp⟩
    exact out_bind' o2 rfl
  · rw [run_pop2_3] at he ⊢
    obtain ⟨_, h2, b, o2, r2⟩ := ppacket_rb x.packet t1 h1 he
    refine ⟨d0, h2, beN 1 3 ++ (b ++ []), out_fldw (x := 3) (show IntKind.u64.wrap 3 = 3 by decide) la ma ?_, by rw [r1, r2]; simp⟩
    exact out_bind' o2 rfl
  · obtain ⟨a, t2, e2, h2, _, l2, m2, _, r2⟩ := fldb (c := fun t => Prog.ret (⟨4, [], [], default, t⟩ : Opn)) (v := x.ticks) (k := 8) (l := 0) (m := 18446744073709551615) h1 he
    have e3 : (pop2 x 4) = Prog.fld x.ticks 8 0 18446744073709551615 fun t => Prog.ret (⟨4, [], [], default, t⟩ : Opn) := rfl
    rw [e3, e2, Prog.run_ret] at he ⊢
    refine ⟨d0, h2, beN 1 4 ++ (beN 8 a ++ []), out_fldw (x := 4) (show IntKind.u64.wrap 4 = 4 by decide) la ma ?_, by rw [r1, r2]; simp⟩
    exact out_fld (c := fun t => Prog.ret (⟨4, [], [], default, t⟩ : Opn)) l2 m2 rfl
theorem psloop_rb (l : List Opn) : ∀ (n : Nat) (out : List Opn) (s : decM.σ), Bytes (dR s) → dE ((psloop l n out.length out).run decM s).1 = 0 →
    Bytes (dR ((psloop l n out.length out).run decM s).1) ∧ ∃ more b, ((psloop l n out.length out).run decM s).2 = some (out ++ more) ∧ more.length = n ∧ dR s = b ++ dR ((psloop l n out.length out).run decM s).1 ∧
      (psloop (out ++ more) n out.length out).out = some (b, some (out ++ more))
  | 0, out, s, h, he => ⟨h, [], [], by simp [psloop, Prog.run_ret], rfl, by simp [psloop, Prog.run_ret], by simp [psloop, Prog.out]⟩
  | n + 1, out, s, h, he => by
    have hs := dE_start he
    simp only [psloop] at he ⊢
    rw [chk_run hs] at he ⊢
    simp only [cond_false] at he ⊢
    obtain ⟨y, t, b1, e1, h2, _, o1, r1⟩ := bindb pop_rb h he
    rw [e1] at he ⊢
    rw [show out.length + 1 = (out ++ [y]).length by simp] at he ⊢
    obtain ⟨h3, more, b, e2, e3, e4, e5⟩ := psloop_rb l n (out ++ [y]) t h2 he
    refine ⟨h3, y :: more, b1 ++ b, by rw [e2]; simp, by simp [e3], by rw [r1, e4]; simp, ?_⟩
    simp only [Prog.out, cond_false]
    refine out_bind' (a := y) (by rw [getD_mid]; exact o1) ?_
    rw [List.append_assoc] at e5
    exact e5
theorem pscript_rb : Rb pscript := by
  intro x s h he
  obtain ⟨a, t1, e1, h1, d0, la, ma, _, r1⟩ := fldb h he
  simp only [pscript, e1] at he ⊢
  obtain ⟨b, t2, e2, h2, _, lb, mb, _, r2⟩ := fldb h1 he
  simp only [e2] at he ⊢
  obtain ⟨n, t3, e3, h3, _, lc, mc, _, r3⟩ := fldb h2 he
  simp only [e3, Prog.run_bind, Prog.run_ret] at he ⊢
  obtain ⟨h4, more, bb, e4, e5, e6, e7⟩ := psloop_rb x.ops n.toNat [] t3 h3 he
  simp only [List.length_nil, List.nil_append] at e4 e6 e7 h4
  rw [e4]
  have wa := wrapu_id (n := a) (by omega) (by omega)
  have wb := wrapu_id (n := b) (by omega) (by omega)
  refine ⟨d0, h4, _, out_fldw (x := a) wa la ma (out_fldw (x := b) wb lb mb (out_fldw (x := n) (show ((more.length : Nat) : Int) = n by omega) lc mc (out_bind' e7 rfl))), ?_⟩
  rw [r1, r2, r3, e6]; simp
-- what is written comes to itself
theorem pcurve_val {x : Cv} {r : List Int × Cv} (h : (pcurve x).out = some r) : r.2 = x := by
  obtain ⟨_, _, q, h, e⟩ := fld_out h
  obtain ⟨_, _, q2, h, e2⟩ := fld_out h
  obtain ⟨_, _, q3, h, e3⟩ := fld_out h
  simp only [Prog.out, Option.some.injEq] at h
  rw [e, e2, e3, ← h]
theorem phead_val {x : Hd} {r : List Int × Hd} (h : (phead x).out = some r) : r.2 = x := by
  obtain ⟨_, _, q, h, e⟩ := fld_out h
  obtain ⟨_, _, q2, h, e2⟩ := fld_out h
  obtain ⟨_, _, q3, h, e3⟩ := fld_out h
  obtain ⟨_, _, q4, h, e4⟩ := fld_out h
  simp only [Prog.out, Option.some.injEq] at h
  rw [e, e2, e3, e4, ← h]
def I64 (n : Int) : Prop := -9223372036854775808 ≤ n ∧ n < 9223372036854775808
theorem i64_wf {n : Int} (h : (Lit.int .i64 n).wf = true) : I64 n := by
  have := (by simpa [Lit.wf] using h : IntKind.i64.min ≤ n ∧ n ≤ IntKind.i64.max)
  simp only [show IntKind.i64.min = -9223372036854775808 from by decide, show IntKind.i64.max = 9223372036854775807 from by decide] at this
  exact ⟨this.1, by omega⟩
theorem wrap_back {n l m : Int} (h : I64 n) (hm : m < 9223372036854775808) (h1 : l ≤ IntKind.u64.wrap n) (h2 : IntKind.u64.wrap n ≤ m) : IntKind.u64.wrap n = n := by
  obtain ⟨a, b⟩ := h
  rw [IntKind.wrap_u64] at *; omega
theorem ppacket_val {x : Pk} (hx : I64 x.len) {r : List Int × Pk} (h : (ppacket x).out = some r) : r.2 = x := by
  obtain ⟨_, _, q, h, e⟩ := fld_out h
  obtain ⟨l2, m2, q2, h, e2⟩ := fld_out h
  obtain ⟨q3, h3, q4, h, e4⟩ := bind_out h
  have e3 := phead_val h3
  simp only [Prog.out, Option.some.injEq] at h
  rw [e, e2, e4, ← h, e3, wrap_back hx (by decide) l2 m2]
theorem prule_val {x : Rul} (hx : I64 x.cls) {r : List Int × Rul} (h : (prule x).out = some r) : r.2 = x := by
  obtain ⟨q1, h1, q, h, e⟩ := bind_out h
  obtain ⟨q3, h3, q4, h, e4⟩ := bind_out h
  obtain ⟨l2, m2, q2, h, e2⟩ := fld_out h
  simp only [Prog.out, Option.some.injEq] at h
  rw [e, e4, e2, ← h, phead_val h1, phead_val h3, wrap_back hx (by decide) l2 m2]
theorem leafI_back (b : Bool) : (leafI b == 1) = b := by cases b <;> rfl
theorem pclass_val {x : Kls} (hx : I64 x.iD ∧ I64 x.parent ∧ I64 x.pkts ∧ I64 x.bytes) {r : List Int × Kls} (h : (pclass x).out = some r) : r.2 = x := by
  obtain ⟨l1, m1, q1, h, e1⟩ := fld_out h
  obtain ⟨l2, m2, q2, h, e2⟩ := fld_out h
  obtain ⟨l3, m3, q3, h, e3⟩ := fld_out h
  obtain ⟨q4, h4, p4, h, e4⟩ := bind_out h
  obtain ⟨q5, h5, p5, h, e5⟩ := bind_out h
  obtain ⟨q6, h6, p6, h, e6⟩ := bind_out h
  obtain ⟨l7, m7, q7, h, e7⟩ := fld_out h
  obtain ⟨l8, m8, q8, h, e8⟩ := fld_out h
  simp only [Prog.out, Option.some.injEq] at h
  rw [e1, e2, e3, e4, e5, e6, e7, e8, ← h, pcurve_val h4, pcurve_val h5, pcurve_val h6, wrap_back hx.1 (by decide) l1 m1, wrap_back hx.2.1 (by decide) l2 m2, leafI_back,
    wrap_back hx.2.2.1 (by decide) l7 m7, wrap_back hx.2.2.2 (by decide) l8 m8]
def Chg.I (x : Chg) : Prop := I64 x.kind ∧ I64 x.cls.iD ∧ I64 x.cls.parent ∧ I64 x.cls.pkts ∧ I64 x.cls.bytes
theorem pchange_val {x : Chg} (hx : x.I) {r : List Int × Chg} (h : (pchange x).out = some r) : r.2 = x := by
  obtain ⟨l1, m1, q1, h, e1⟩ := fld_out h
  obtain ⟨q4, h4, p4, h, e4⟩ := bind_out h
  simp only [Prog.out, Option.some.injEq] at h
  rw [e1, e4, ← h, pclass_val hx.2 h4, wrap_back hx.1 (by decide) l1 m1]
theorem ploop_val {α : Type} [Inhabited α] {one : α → Prog α} (l : List α) (h1 : ∀ x ∈ l, ∀ q, (one x).out = some q → q.2 = x) : ∀ (n i : Nat) (out : List α) {r : List Int × List α}, i + n ≤ l.length → (ploop one l n i out).out = some r → r.2 = out ++ (l.drop i).take n
  | 0, i, out, r, hn, h => by simp only [ploop, Prog.out, Option.some.injEq] at h; rw [← h]; simp
  | n + 1, i, out, r, hn, h => by
    simp only [ploop, Prog.out, cond_false] at h
    obtain ⟨q, hq, p, hp, e⟩ := bind_out h
    have hi : i < l.length := by omega
    rw [h1 _ (getD_mem l default i hi) q hq] at hp
    rw [e, ploop_val l h1 n (i + 1) _ (by omega) hp]
    have hd : l.drop i = l.getD i default :: l.drop (i + 1) := by
      rw [List.drop_eq_getElem_cons hi]; simp [List.getD_eq_getElem?_getD, hi]
    rw [hd, List.take_succ_cons]; simp
theorem plist_val {α : Type} [Inhabited α] {one : α → Prog α} (l : List α) (h1 : ∀ x ∈ l, ∀ q, (one x).out = some q → q.2 = x) {r : List Int × List α} (h : (plist one l).out = some r) : r.2 = l := by
  obtain ⟨l1, m1, q1, h, e1⟩ := fld_out h
  rw [Int.toNat_natCast] at h
  rw [e1, ploop_val l h1 _ 0 [] (by omega) h]; simp
def Opn.I (x : Opn) : Prop := I64 x.kind ∧ (∀ c ∈ x.changes, Chg.I c) ∧ (∀ c ∈ x.rules, I64 c.cls) ∧ I64 x.packet.len
theorem pop_val {x : Opn} (hx : x.I) {r : List Int × Opn} (h : (pop x).out = some r) : r.2 = plainO x := by
  obtain ⟨l1, m1, q1, h, e1⟩ := fld_out h
  have hk := wrap_back hx.1 (by decide) l1 m1
  rw [hk] at h l1 m1
  have hc : x.kind = 1 ∨ x.kind = 2 ∨ x.kind = 3 ∨ x.kind = 4 := by omega
  rw [e1, plainO]
  rcases hc with e | e | e | e
  · rw [e] at h ⊢
    obtain ⟨q4, h4, p4, h, e4⟩ := bind_out (show ((plist pchange x.changes).bind fun l => Prog.ret (⟨1, l, [], default, 0⟩ : Opn)).out = some q1 from h)
    simp only [Prog.out, Option.some.injEq] at h
    rw [e4, ← h, plist_val _ (fun c hc q hq => pchange_val (hx.2.1 c hc) hq) h4, if_pos rfl]; rfl
  · rw [e] at h ⊢
    obtain ⟨q4, h4, p4, h, e4⟩ := bind_out (show ((plist prule x.rules).bind fun l => Prog.ret (⟨2, [], l, default, 0⟩ : Opn)).out = some q1 from h)
    simp only [Prog.out, Option.some.injEq] at h
    rw [e4, ← h, plist_val _ (fun c hc q hq => prule_val (hx.2.2.1 c hc) hq) h4, if_neg (by decide), if_pos rfl]; rfl
  · rw [e] at h ⊢
    obtain ⟨q4, h4, p4, h, e4⟩ := bind_out (show ((ppacket x.packet).bind fun p => Prog.ret (⟨3, [], [], p, 0⟩ : Opn)).out = some q1 from h)
    simp only [Prog.out, Option.some.injEq] at h
    rw [e4, ← h, ppacket_val hx.2.2.2 h4, if_neg (by decide), if_neg (by decide), if_pos rfl]
  · rw [e] at h ⊢
    obtain ⟨l4, m4, q4, h, e4⟩ := fld_out (show (Prog.fld x.ticks 8 0 18446744073709551615 fun t => Prog.ret (⟨4, [], [], default, t⟩ : Opn)).out = some q1 from h)
    simp only [Prog.out, Option.some.injEq] at h
    rw [e4, ← h, if_neg (by decide), if_neg (by decide), if_neg (by decide), if_pos rfl]; rfl
theorem psloop_val (l : List Opn) (h1 : ∀ x ∈ l, Opn.I x) : ∀ (n i : Nat) (out : List Opn) {r : List Int × Option (List Opn)}, i + n ≤ l.length → (psloop l n i out).out = some r → r.2 = some (out ++ ((l.drop i).take n).map plainO)
  | 0, i, out, r, hn, h => by simp only [psloop, Prog.out, Option.some.injEq] at h; rw [← h]; simp
  | n + 1, i, out, r, hn, h => by
    simp only [psloop, Prog.out, cond_false] at h
    obtain ⟨q, hq, p, hp, e⟩ := bind_out h
    have hi : i < l.length := by omega
    rw [pop_val (h1 _ (getD_mem l default i hi)) hq] at hp
    rw [e, psloop_val l h1 n (i + 1) _ (by omega) hp]
    have hd : l.drop i = l.getD i default :: l.drop (i + 1) := by
      rw [List.drop_eq_getElem_cons hi]; simp [List.getD_eq_getElem?_getD, hi]
    rw [hd, List.take_succ_cons]; simp
def Scr.I (x : Scr) : Prop := I64 x.config.t ∧ I64 x.config.lmax ∧ ∀ o ∈ x.ops, Opn.I o
theorem pscript_val {x : Scr} (hx : x.I) {r : List Int × Scr} (h : (pscript x).out = some r) : r.2 = plainS x ∧ x.ops.length ≤ 1000 := by
  obtain ⟨l1, m1, q1, h, e1⟩ := fld_out h
  obtain ⟨l2, m2, q2, h, e2⟩ := fld_out h
  obtain ⟨l3, m3, q3, h, e3⟩ := fld_out h
  obtain ⟨q4, h4, p4, h, e4⟩ := bind_out h
  rw [Int.toNat_natCast] at h4
  simp only [Prog.out, Option.some.injEq] at h
  rw [e1, e2, e3, e4, ← h, psloop_val x.ops hx.2.2 _ 0 [] (by omega) h4, wrap_back hx.1 (by decide) l1 m1, wrap_back hx.2.1 (by decide) l2 m2]
  exact ⟨by simp [psend, plainS], by omega⟩
end Go.Fg.X
/- What is read may be; back and forth. Plain laws. No conditions. -/
namespace Go.Fg.X
set_option linter.unusedVariables false
open Go.Proofs Go.Fg
set_option maxRecDepth 100000
set_option linter.unusedSimpArgs false
theorem mk_u64 {n : Int} (h : 0 ≤ n) (h2 : n < 18446744073709551616) : (Lit.int .u64 n).wf = true := by
  have : IntKind.u64.min ≤ n ∧ n ≤ IntKind.u64.max := by
    simp only [show IntKind.u64.min = 0 from by decide, show IntKind.u64.max = 18446744073709551615 from by decide]; omega
  simpa [Lit.wf] using this
theorem mk_u16 {n : Int} (h : 0 ≤ n) (h2 : n < 65536) : (Lit.int .u16 n).wf = true := by
  have : IntKind.u16.min ≤ n ∧ n ≤ IntKind.u16.max := by
    simp only [show IntKind.u16.min = 0 from by decide, show IntKind.u16.max = 65535 from by decide]; omega
  simpa [Lit.wf] using this
theorem mk_i64 {n : Int} (h : I64 n) : (Lit.int .i64 n).wf = true := by
  have : IntKind.i64.min ≤ n ∧ n ≤ IntKind.i64.max := by
    obtain ⟨a, b⟩ := h
    simp only [show IntKind.i64.min = -9223372036854775808 from by decide, show IntKind.i64.max = 9223372036854775807 from by decide]; omega
  simpa [Lit.wf] using this
theorem rg_u64 {x l m : Int} (h : x = 0 ∨ (l ≤ x ∧ x ≤ m)) (hl : 0 ≤ l) (hm : m < 18446744073709551616) : (Lit.int .u64 x).wf = true := mk_u64 (by omega) (by omega)
theorem rg_u16 {x l m : Int} (h : x = 0 ∨ (l ≤ x ∧ x ≤ m)) (hl : 0 ≤ l) (hm : m < 65536) : (Lit.int .u16 x).wf = true := mk_u16 (by omega) (by omega)
theorem rg_i64 {x l m : Int} (h : x = 0 ∨ (l ≤ x ∧ x ≤ m)) (hl : 0 ≤ l) (hm : m < 9223372036854775808) : (Lit.int .i64 x).wf = true := mk_i64 ⟨by omega, by omega⟩
variable (M : Med)
theorem pcurve_res (x : Cv) (s : M.σ) : Cv.Ok ((pcurve x).run M s).2 := by
  simp only [pcurve, Prog.run]
  exact ⟨rg_u64 (M.rng _ _ _ _ _) (by decide) (by decide), rg_u64 (M.rng _ _ _ _ _) (by decide) (by decide), rg_u64 (M.rng _ _ _ _ _) (by decide) (by decide), trivial⟩
theorem phead_res (x : Hd) (s : M.σ) : Hd.Ok ((phead x).run M s).2 := by
  simp only [phead, Prog.run]
  exact ⟨rg_u16 (M.rng _ _ _ _ _) (by decide) (by decide), rg_u16 (M.rng _ _ _ _ _) (by decide) (by decide), rg_u16 (M.rng _ _ _ _ _) (by decide) (by decide), rg_u16 (M.rng _ _ _ _ _) (by decide) (by decide)⟩
theorem ppacket_res (x : Pk) (s : M.σ) : Pk.Ok ((ppacket x).run M s).2 := by
  simp only [ppacket, Prog.run, Prog.run_bind]
  obtain ⟨a, b, c, d⟩ := phead_res M ⟨x.head0, x.head1, x.head2, x.head3⟩ (M.step (M.step s x.iD 8 0 18446744073709551615).1 (IntKind.u64.wrap x.len) 2 1 16384).1
  exact ⟨rg_u64 (M.rng _ _ _ _ _) (by decide) (by decide), rg_i64 (M.rng _ _ _ _ _) (by decide) (by decide), a, b, c, d, trivial⟩
theorem prule_res (x : Rul) (s : M.σ) : Rul.Ok ((prule x).run M s).2 := by
  simp only [prule, Prog.run, Prog.run_bind]
  obtain ⟨a, b, c, d⟩ := phead_res M ⟨x.mask0, x.mask1, x.mask2, x.mask3⟩ s
  obtain ⟨a', b', c', d'⟩ := phead_res M ⟨x.want0, x.want1, x.want2, x.want3⟩ ((phead ⟨x.mask0, x.mask1, x.mask2, x.mask3⟩).run M s).1
  exact ⟨a, b, c, d, a', b', c', d', rg_i64 (M.rng _ _ _ _ _) (by decide) (by decide), trivial⟩
theorem pclass_res (x : Kls) (s : M.σ) : Kls.Ok ((pclass x).run M s).2 := by
  simp only [pclass, Prog.run, Prog.run_bind]
  exact ⟨rg_i64 (M.rng _ _ _ _ _) (by decide) (by decide), rg_i64 (M.rng _ _ _ _ _) (by decide) (by decide), trivial, pcurve_res M _ _, pcurve_res M _ _, pcurve_res M _ _, rg_i64 (M.rng _ _ _ _ _) (by decide) (by decide), rg_i64 (M.rng _ _ _ _ _) (by decide) (by decide), trivial⟩
theorem pchange_res (x : Chg) (s : M.σ) : Chg.Ok ((pchange x).run M s).2 := by
  simp only [pchange, Prog.run, Prog.run_bind]
  exact ⟨rg_i64 (M.rng _ _ _ _ _) (by decide) (by decide), pclass_res M _ _, trivial⟩
theorem ploop_res {α : Type} [Inhabited α] {one : α → Prog α} {ok : α → Prop} (h1 : ∀ x s, ok ((one x).run M s).2) (l : List α) : ∀ (n i : Nat) (out : List α) (s : M.σ), (∀ a ∈ out, ok a) → (∀ a ∈ ((ploop one l n i out).run M s).2, ok a) ∧ ((ploop one l n i out).run M s).2.length ≤ out.length + n
  | 0, i, out, s, h => ⟨h, Nat.le_refl _⟩
  | n + 1, i, out, s, h => by
    rw [run_ploop]
    cases M.err s != 0 with
    | true => simp
    | false =>
      obtain ⟨a, b⟩ := ploop_res h1 l n (i + 1) (out ++ [((one (l.getD i default)).run M s).2]) ((one (l.getD i default)).run M s).1 (fun a ha => by
        rw [List.mem_append, List.mem_singleton] at ha
        rcases ha with ha | rfl
        · exact h a ha
        · exact h1 _ _)
      exact ⟨a, by simp at b ⊢; omega⟩
theorem plist_res {α : Type} [Inhabited α] {one : α → Prog α} {ok : α → Prop} (h1 : ∀ x s, ok ((one x).run M s).2) (l : List α) (s : M.σ) : (∀ a ∈ ((plist one l).run M s).2, ok a) ∧ ((plist one l).run M s).2.length ≤ 32 := by
  have h := M.rng s (l.length : Int) 1 0 32
  simp only [plist, Prog.run]
  obtain ⟨a, b⟩ := ploop_res M h1 l (M.step s (l.length : Int) 1 0 32).2.toNat 0 [] (M.step s (l.length : Int) 1 0 32).1 (by simp)
  exact ⟨a, by simp at b; omega⟩
theorem pk_ok0 : Pk.Ok default := ⟨by decide, by decide, by decide, by decide, by decide, by decide, trivial⟩
def Opn.Fine (x : Opn) : Prop := Opn.Ok x ∧ x.changes.length ≤ 32 ∧ x.rules.length ≤ 32
theorem pop_res (x : Opn) (s : M.σ) : Opn.Fine ((pop x).run M s).2 := by
  have hs : (32 : Nat) ≤ maxLen := by decide
  have hm : ∀ n, n ≤ 32 → n ≤ maxLen := fun n h => Nat.le_trans h hs
  simp only [pop, Prog.run]
  generalize (M.step s (IntKind.u64.wrap x.kind) 1 1 4).1 = t
  generalize (M.step s (IntKind.u64.wrap x.kind) 1 1 4).2 = k
  by_cases e1 : k = 1
  · subst e1
    rw [run_pop2_1]
    obtain ⟨a, b⟩ := plist_res M (pchange_res M) x.changes t
    exact ⟨⟨show (Lit.int .i64 1).wf = true by decide, ⟨hm _ b, a⟩, ⟨Nat.zero_le _, fun a ha => by cases ha⟩, pk_ok0, show (Lit.int .u64 0).wf = true by decide, trivial⟩, b, Nat.zero_le _⟩
  by_cases e2 : k = 2
  · subst e2
    rw [run_pop2_2]
    obtain ⟨a, b⟩ := plist_res M (prule_res M) x.rules t
    exact ⟨⟨show (Lit.int .i64 2).wf = true by decide, ⟨Nat.zero_le _, fun a ha => by cases ha⟩, ⟨hm _ b, a⟩, pk_ok0, show (Lit.int .u64 0).wf = true by decide, trivial⟩, Nat.zero_le _, b⟩
  by_cases e3 : k = 3
  · subst e3
    rw [run_pop2_3]
    exact ⟨⟨show (Lit.int .i64 3).wf = true by decide, ⟨Nat.zero_le _, fun a ha => by cases ha⟩, ⟨Nat.zero_le _, fun a ha => by cases ha⟩, ppacket_res M _ _, show (Lit.int .u64 0).wf = true by decide, trivial⟩, Nat.zero_le _, Nat.zero_le _⟩
  by_cases e4 : k = 4
  · subst e4
    rw [run_pop2_4]
    exact ⟨⟨show (Lit.int .i64 4).wf = true by decide, ⟨Nat.zero_le _, fun a ha => by cases ha⟩, ⟨Nat.zero_le _, fun a ha => by cases ha⟩, pk_ok0, rg_u64 (M.rng _ _ _ _ _) (by decide) (by decide), trivial⟩, Nat.zero_le _, Nat.zero_le _⟩
  · rw [pop2, if_neg e1, if_neg e2, if_neg e3, if_neg e4]
    exact ⟨⟨show (Lit.int .i64 0).wf = true by decide, ⟨Nat.zero_le _, fun a ha => by cases ha⟩, ⟨Nat.zero_le _, fun a ha => by cases ha⟩, pk_ok0, show (Lit.int .u64 0).wf = true by decide, trivial⟩, Nat.zero_le _, Nat.zero_le _⟩
theorem psloop_res (l : List Opn) : ∀ (n i : Nat) (out : List Opn) (s : M.σ), (∀ a ∈ out, Opn.Fine a) → ∀ L, ((psloop l n i out).run M s).2 = some L → (∀ a ∈ L, Opn.Fine a) ∧ L.length ≤ out.length + n
  | 0, i, out, s, h, L, e => by simp only [psloop, Prog.run_ret, Option.some.injEq] at e; subst e; exact ⟨h, Nat.le_refl _⟩
  | n + 1, i, out, s, h, L, e => by
    rw [run_psloop] at e
    cases he : M.err s != 0 with
    | true => rw [he] at e; cases e
    | false =>
      rw [he, cond_false] at e
      obtain ⟨a, b⟩ := psloop_res l n (i + 1) (out ++ [((pop (l.getD i default)).run M s).2]) ((pop (l.getD i default)).run M s).1 (fun a ha => by
        rw [List.mem_append, List.mem_singleton] at ha
        rcases ha with ha | rfl
        · exact h a ha
        · exact pop_res M _ _) L e
      exact ⟨a, by simp at b ⊢; omega⟩
def Scr.Fine (x : Scr) : Prop := Scr.Ok x ∧ x.ops.length ≤ 1000 ∧ ∀ o ∈ x.ops, o.changes.length ≤ 32 ∧ o.rules.length ≤ 32
theorem zscr_fine : zscr.Fine := ⟨zscr_ok, by simp [zscr], by simp [zscr]⟩
theorem pscript_res (x : Scr) (s : M.σ) : Scr.Fine ((pscript x).run M s).2 := by
  simp only [pscript, Prog.run, Prog.run_bind]
  have h1 := M.rng s (IntKind.u64.wrap x.config.t) 4 1 65536
  generalize M.step s (IntKind.u64.wrap x.config.t) 4 1 65536 = r1 at *
  have h2 := M.rng r1.1 (IntKind.u64.wrap x.config.lmax) 4 1 16384
  generalize M.step r1.1 (IntKind.u64.wrap x.config.lmax) 4 1 16384 = r2 at *
  have h3 := M.rng r2.1 (x.ops.length : Int) 2 0 1000
  generalize M.step r2.1 (x.ops.length : Int) 2 0 1000 = r3 at *
  have h4 := psloop_res M x.ops r3.2.toNat 0 [] r3.1 (by simp)
  generalize (psloop x.ops r3.2.toNat 0 []).run M r3.1 = r4 at *
  cases he : r4.2 with
  | none => exact zscr_fine
  | some L =>
    obtain ⟨a, b⟩ := h4 L he
    simp only [List.length_nil] at b
    exact ⟨⟨⟨rg_i64 h1 (by decide) (by decide), rg_i64 h2 (by decide) (by decide), trivial⟩, ⟨Nat.le_trans (show L.length ≤ 1000 by omega) (by decide), fun o ho => (a o ho).1⟩, trivial⟩, by show L.length ≤ 1000; omega, fun o ho => (a o ho).2⟩
theorem opn_I {o : Opn} (h : Opn.Ok o) : o.I :=
  ⟨i64_wf h.1, fun c hc => ⟨i64_wf (h.2.1.2 c hc).1, i64_wf (h.2.1.2 c hc).2.1.1, i64_wf (h.2.1.2 c hc).2.1.2.1, i64_wf (h.2.1.2 c hc).2.1.2.2.2.2.2.2.1, i64_wf (h.2.1.2 c hc).2.1.2.2.2.2.2.2.2.1⟩, fun c hc => i64_wf (h.2.2.1.2 c hc).2.2.2.2.2.2.2.2.1, i64_wf h.2.2.2.1.2.1⟩
theorem scr_I {x : Scr} (h : Scr.Ok x) : x.I := ⟨i64_wf h.1.1, i64_wf h.1.2.1, fun o ho => opn_I (h.2.1.2 o ho)⟩
theorem beN_bytes (n : Nat) (v : Int) : Bytes (beN n v) := by
  intro x hx
  obtain ⟨i, _, rfl⟩ := List.mem_map.1 hx
  omega
theorem out_bytes {α : Type} : ∀ (p : Prog α) (r : List Int × α), p.out = some r → Bytes r.1
  | .ret a, r, h => by simp only [Prog.out, Option.some.injEq] at h; subst h; intro x hx; simp at hx
  | .fld v k l m c, r, h => by
    rw [Prog.out] at h
    split at h
    · cases h
    · cases hc : (c v).out with
      | none => rw [hc] at h; cases h
      | some q =>
        rw [hc] at h; cases h
        intro x hx
        rw [List.mem_append] at hx
        rcases hx with hx | hx
        · exact beN_bytes k v x hx
        · exact out_bytes (c v) q hc x hx
  | .chk c, r, h => by rw [Prog.out] at h; exact out_bytes (c false) r h
theorem out_len {α : Type} : ∀ (p : Prog α) (n : Nat) (r : List Int × α), p.Fits n → p.out = some r → r.1.length ≤ n
  | .ret a, n, r, _, h => by simp only [Prog.out, Option.some.injEq] at h; subst h; simp
  | .fld v k l m c, n, r, w, h => by
    rw [Prog.out] at h
    split at h
    · cases h
    · rename_i hb
      cases hc : (c v).out with
      | none => rw [hc] at h; cases h
      | some q =>
        rw [hc] at h; cases h
        have h1 := out_len (c v) (n - 8) q (w.2.2 v (.inr ⟨by omega, by omega⟩)) hc
        have h2 := w.1
        have h3 := w.2.1
        rw [List.length_append, beN_len]; omega
  | .chk c, n, r, w, h => by rw [Prog.out] at h; exact out_len (c false) n r (w false) h
/-- What is written is read as the plain script; what is cut off is short; what is more is long. -/
theorem back {x : Scr} (hx : Scr.Ok x) (he : (encV x).2 = 0) : ∃ bs, encV x = (bs, 0) ∧ Bytes bs ∧ bs.length ≤ 4294967296 ∧ decV bs = (plainS x, 0) ∧ decV (bs ++ [120]) = (zscr, 2) ∧ (∀ n, n < bs.length → decV (bs.take n) = (zscr, 3)) ∧ x.ops.length ≤ 1000 := by
  have h := encV_of (x := x)
  cases ho : (pscript x).out with
  | none => rw [ho] at h; exact absurd he h.1
  | some r =>
    rw [ho] at h
    obtain ⟨hv, hl⟩ := pscript_val (scr_I hx) ho
    have hw := pscript_wf x
    refine ⟨r.1, h, out_bytes _ _ ho, ?_, ?_, ?_, ?_, hl⟩
    · have hfit : (pscript x).Fits 3856024 := by
        simp only [pscript, Prog.Fits]
        refine ⟨by decide, by decide, fun a _ => ⟨by decide, by decide, fun b _ => ⟨by decide, by decide, fun n hn => ?_⟩⟩⟩
        have h0 := Prog.fits_bind (fun o => Prog.ret (psend a b o)) 0 (fun _ => trivial) _ _ (psloop_fits x.ops n.toNat 0 [])
        exact Prog.fits_le _ h0 (by omega)
      have := out_len _ _ _ hfit ho
      omega
    · rw [decV_eq, ← decVy_eq x]
      have e := dec_run _ hw r [] ho
      rw [List.append_nil] at e
      simp only [decVy]
      rw [show (pscript x).run decM (⟨r.1, 0⟩ : DSt) = (dS [] 0, r.2) from e, hv]
      rfl
    · rw [decV_eq, ← decVy_eq x]
      have e := dec_run _ hw r [120] ho
      simp only [decVy]
      rw [show (pscript x).run decM (⟨r.1 ++ [120], 0⟩ : DSt) = (dS [120] 0, r.2) from e]
      rfl
    · intro n hn
      rw [decV_eq, ← decVy_eq x]
      obtain ⟨y, e⟩ := dec_cut _ hw r n ho hn
      simp only [decVy]
      rw [show ((pscript x).run decM (⟨r.1.take n, 0⟩ : DSt)).1 = dS y 3 from e]
      rfl
theorem decV_cases (bs : List Int) : ((decV bs).2 = 0 ∧ (decV bs).1.Fine) ∨ ((decV bs).2 ≠ 0 ∧ (decV bs).1 = zscr) := by
  have hr := pscript_res decM zscr (⟨bs, 0⟩ : DSt)
  simp only [decV]
  split
  · split
    · exact .inr ⟨by show ¬(2 : Int) = 0; decide, rfl⟩
    · exact .inl ⟨rfl, hr⟩
  · rename_i h; exact .inr ⟨h, rfl⟩
/-- What is read is written as it was, and is plain. -/
theorem forth {bs : List Int} (hb : Bytes bs) (he : (decV bs).2 = 0) : encV (decV bs).1 = (bs, 0) ∧ plainS (decV bs).1 = (decV bs).1 ∧ (decV bs).1.Fine := by
  have hr := pscript_rb zscr (⟨bs, 0⟩ : DSt) hb
  have hf := pscript_res decM zscr (⟨bs, 0⟩ : DSt)
  have hd : decV bs = (let r := (pscript zscr).run decM (⟨bs, 0⟩ : DSt)
    if dE r.1 = 0 then (if 0 < (dR r.1).length then (zscr, 2) else (r.2, 0)) else (zscr, dE r.1)) := rfl
  rw [hd] at he ⊢
  simp only at he ⊢
  by_cases h1 : dE ((pscript zscr).run decM (⟨bs, 0⟩ : DSt)).1 = 0
  · rw [if_pos h1] at he ⊢
    by_cases h2 : 0 < (dR ((pscript zscr).run decM (⟨bs, 0⟩ : DSt)).1).length
    · rw [if_pos h2] at he; exact absurd he (by show ¬(2 : Int) = 0; decide)
    · rw [if_neg h2]
      obtain ⟨_, _, b, ho, hs⟩ := hr h1
      have h3 : dR ((pscript zscr).run decM (⟨bs, 0⟩ : DSt)).1 = [] := List.length_eq_zero_iff.1 (by omega)
      rw [h3, List.append_nil] at hs
      have hs : bs = b := hs
      have h4 := encV_of (x := ((pscript zscr).run decM (⟨bs, 0⟩ : DSt)).2)
      rw [ho] at h4
      exact ⟨by rw [h4, hs], ((pscript_val (scr_I hf.1) ho).1).symm, hf⟩
  · rw [if_neg h1] at he
    exact absurd he h1
end Go.Fg.X
/- The document's fields of operations and scripts, walked. No conditions. -/
namespace Go.Fg.X
set_option linter.unusedSimpArgs false
set_option linter.unusedVariables false
open Go.Proofs Go.Fg
set_option maxRecDepth 100000
theorem Fd.rows_app (L M : List Fd) (j : Nat) : Fd.rows (L ++ M) j = bif decide (j < L.length) then Fd.rows L j else Fd.rows M (j - L.length) := by
  simp only [Fd.rows]
  by_cases h : j < L.length
  · rw [decide_eq_true h, cond_true, List.getD_eq_getElem?_getD, List.getElem?_append_left h, List.getD_eq_getElem?_getD]
  · rw [decide_eq_false h, cond_false, List.getD_eq_getElem?_getD, List.getElem?_append_right (by omega), List.getD_eq_getElem?_getD]
theorem fchange_len (x : Chg) : (fchange x).length = 15 := rfl
theorem frule_len (x : Rul) : (frule x).length = 9 := rfl
def fop2 (x : Opn) : List Fd :=
  if x.kind = 1 then fnum x.changes.length 1 0 32 :: x.changes.flatMap fchange
  else if x.kind = 2 then fnum x.rules.length 1 0 32 :: x.rules.flatMap frule
  else if x.kind = 3 then ⟨x.packet.iD, 8, 0, 18446744073709551615⟩ :: fnum x.packet.len 2 1 16384 :: fhead ⟨x.packet.head0, x.packet.head1, x.packet.head2, x.packet.head3⟩
  else if x.kind = 4 then [⟨x.ticks, 8, 0, 18446744073709551615⟩]
  else []
def fop (x : Opn) : List Fd := fnum x.kind 1 1 4 :: fop2 x
theorem flat_len {α : Type} (f : α → List Fd) (k : Nat) (h : ∀ x, (f x).length = k) : ∀ l : List α, (l.flatMap f).length = k * l.length
  | [] => by simp
  | a :: l => by rw [List.flatMap_cons, List.length_append, flat_len f k h l, h, List.length_cons]; rw [Nat.mul_add]; omega
theorem flat_take {α : Type} (f : α → List Fd) (l : List α) (d : α) (i : Nat) (h : i < l.length) : (l.take (i + 1)).flatMap f = (l.take i).flatMap f ++ f (l.getD i d) := by
  rw [getD_take l d i h, List.flatMap_append]; simp
structure FInv (n : Nat) (L : List Fd) (row : Nat → List D) : Prop where
  len : L.length = n
  rows : ∀ j, j < n → row j = Fd.rows L j
theorem FInv.app {n m : Nat} {L M : List Fd} {row : Nat → List D} (h : FInv n L row) (hm : M.length = m) {row' : Nat → List D} (e : ∀ j, j < n + m → row' j = bif decide (j < n) then row j else Fd.rows M (j - n)) : FInv (n + m) (L ++ M) row' :=
  ⟨by rw [List.length_append, h.len, hm], fun j hj => by
    rw [e j hj, Fd.rows_app, h.len]
    by_cases hn : j < n
    · rw [decide_eq_true hn, cond_true, cond_true, h.rows j hn]
    · rw [decide_eq_false hn, cond_false, cond_false]⟩
def fchangeSt (x : Opn) (g : Nat) (row : Nat → List D) (i : Nat) : St :=
  ⟨[(1, .ptr 0 0 0 0), (3, .ref 1 g 0 (2 + 15 * i)), (24, .imm 15 x.changes.length (Chg.rows x.changes)), (25, dint x.changes.length), (26, dint i)], [⟨.one, 0, 10, 1, fun _ => x.cells⟩, ⟨.arr, g, 4, 2 + 15 * i, row⟩]⟩
def fruleSt (x : Opn) (g : Nat) (row : Nat → List D) (i : Nat) : St :=
  ⟨[(1, .ptr 0 0 0 0), (3, .ref 1 g 0 (2 + 9 * i)), (45, .imm 9 x.rules.length (Rul.rows x.rules)), (46, dint x.rules.length), (47, dint i)], [⟨.one, 0, 10, 1, fun _ => x.cells⟩, ⟨.arr, g, 4, 2 + 9 * i, row⟩]⟩
theorem fop_ok {x : Opn} (hx : Opn.Ok x) (h1 : x.changes.length ≤ 1048576) (h2 : x.rules.length ≤ 1048576) : AFn Try.prog 88 [.agg x.cells] (Ret (.imm 4 (fop x).length (Fd.rows (fop x)))) := by
  have n0 := fnum_ok (v := x.kind) (l := 1) (m := 4) (k := 1) (by decide) (by decide) (by decide) (by decide)
  refine freezeR (Fd.rows_cl (fop x)) ?_
  by_cases e1 : x.kind = 1
  · have d1 : (x.kind == 1) = true := by simpa using e1
    have n1 := fnum_ok (v := x.changes.length) (l := 0) (m := 32) (k := 1) (by decide) (by decide) (by decide) (by decide)
    refine AFn_hxs [1] rfl cx_ok 200 Try.func88 rfl Try.ntmps88 Try.results88 rfl fun base w hb => ?_
    simp only [go_sem, simprocAttr]
    refine kont_call hb fn87 rfl ?_ n0 (Ret.flat rfl) rfl fun d h hR => ?_
    · simp only [go_sem, simprocAttr]
    obtain ⟨rfl, rfl⟩ := hR
    refine kont_of_hx cx_ok hb 200 ?_
    simp only [go_sem, simprocAttr]
    simp only [go_sem, simprocAttr, d1]
    refine kont_call hb fn87 rfl ?_ n1 (Ret.flat rfl) rfl fun d h hR => ?_
    · simp only [go_sem, simprocAttr]
    obtain ⟨rfl, rfl⟩ := hR
    refine kont_of_hx cx_ok hb 200 ?_
    simp only [go_sem, simprocAttr]
    refine kont_of_hx cx_ok hb 200 ?_
    simp only [go_sem, simprocAttr]
    refine kont_weak_code (Weak.rows 1 (Fd.rows [fnum x.kind 1 1 4, fnum x.changes.length 1 0 32]) (by exact rfl) ?_) ?_
    · intro i hi; dsimp only at hi ⊢; (match i, hi with | 0, _ => rfl | 1, _ => rfl | i + 2, h => exact absurd h (by show ¬(i + 2 < 2); omega))
    simp only [go_sem, simprocAttr]
    refine kont_for (fun i st => ∃ g row, FInv (2 + 15 * i) (fnum x.kind 1 1 4 :: fnum x.changes.length 1 0 32 :: (x.changes.take i).flatMap fchange) row ∧ st = fchangeSt x g row i) x.changes.length (s0 := fchangeSt x 1 (Fd.rows [fnum x.kind 1 1 4, fnum x.changes.length 1 0 32]) 0) (Weak.to 2 (by simp only [fchangeSt, go_sem, simprocAttr])) ⟨1, _, ⟨rfl, fun j _ => rfl⟩, rfl⟩ ?_
    rintro i _ hin ⟨g, row, I, rfl⟩
    simp only [fchangeSt]
    refine kont_of_hx cx_ok hb 200 ?_
    simp only [go_sem, simprocAttr]
    first | refine hite_lt hin (fun hk1 => ?_) (fun hk1 => ?_) | refine hite_ltI hin (fun hk1 => ?_) (fun hk1 => ?_)
    · simp only [go_sem, simprocAttr, hk1, decide_true]
      refine kont_of_hx cx_ok hb 200 ?_
      simp only [go_sem, simprocAttr]
      have cc := fchange_ok (x.changes.getD i default)
      have hwr := wrap_succ (k := i) (by omega)
      have hk15 : 2 + 15 * (i + 1) = 2 + 15 * i + 15 := by omega
      refine kont_callM hb [] fn118 rfl ?_ cc rfl fun d h hR => ?_
      · simp only [go_sem, simprocAttr]
      obtain ⟨rfl, rfl⟩ := hR
      simp only [go_sem, simprocAttr]
      refine kont_of_hx cx_ok hb 200 ?_
      simp only [go_sem, simprocAttr]
      refine ⟨by omega, hk1, fchangeSt x (g + 1) (fun j => bif decide (j < 2 + 15 * i) then row j else Fd.rows (fchange (x.changes.getD i default)) (j - (2 + 15 * i))) (i + 1), Weak.to 2 ?_, g + 1, _, ?_, rfl⟩
      · have ha := I.app (row' := fun j => bif decide (j < 2 + 15 * i) then row j else Fd.rows (fchange (x.changes.getD i default)) (j - (2 + 15 * i))) (fchange_len (x.changes.getD i default)) (fun j _ => rfl)
        simp only [fchangeSt, go_sem, simprocAttr, hwr, hk15]
        exact fun j hj => (congrArg (uptoL 2) (ha.rows j hj)).trans rfl
      · have ha := I.app (fchange_len (x.changes.getD i default)) (fun j _ => rfl)
        rw [hk15, flat_take fchange x.changes default i hk1]
        exact ha
    · simp only [go_sem, simprocAttr]
      subst hk1
      refine kont_of_hx cx_ok hb 200 ?_
      simp only [go_sem, simprocAttr]
      rw [List.take_length] at I
      have hL : fop x = fnum x.kind 1 1 4 :: fnum x.changes.length 1 0 32 :: x.changes.flatMap fchange := by rw [fop, fop2, if_pos e1]
      rw [← hL] at I
      rw [I.len]
      refine ⟨fun i hi => by rw [I.rows i hi]; rfl, _, _, rfl, rfl, fun i hi => by rw [I.rows i hi]; rfl⟩
  have d1 : (x.kind == 1) = false := by simpa using e1
  by_cases e2 : x.kind = 2
  · have d2 : (x.kind == 2) = true := by simpa using e2
    have n1 := fnum_ok (v := x.rules.length) (l := 0) (m := 32) (k := 1) (by decide) (by decide) (by decide) (by decide)
    refine AFn_hxs [1] rfl cx_ok 200 Try.func88 rfl Try.ntmps88 Try.results88 rfl fun base w hb => ?_
    simp only [go_sem, simprocAttr]
    refine kont_call hb fn87 rfl ?_ n0 (Ret.flat rfl) rfl fun d h hR => ?_
    · simp only [go_sem, simprocAttr]
    obtain ⟨rfl, rfl⟩ := hR
    refine kont_of_hx cx_ok hb 200 ?_
    simp only [go_sem, simprocAttr]
    simp only [go_sem, simprocAttr, d1, d2]
    refine kont_call hb fn87 rfl ?_ n1 (Ret.flat rfl) rfl fun d h hR => ?_
    · simp only [go_sem, simprocAttr]
    obtain ⟨rfl, rfl⟩ := hR
    refine kont_of_hx cx_ok hb 200 ?_
    simp only [go_sem, simprocAttr]
    refine kont_of_hx cx_ok hb 200 ?_
    simp only [go_sem, simprocAttr]
    refine kont_weak_code (Weak.rows 1 (Fd.rows [fnum x.kind 1 1 4, fnum x.rules.length 1 0 32]) (by exact rfl) ?_) ?_
    · intro i hi; dsimp only at hi ⊢; (match i, hi with | 0, _ => rfl | 1, _ => rfl | i + 2, h => exact absurd h (by show ¬(i + 2 < 2); omega))
    simp only [go_sem, simprocAttr]
    refine kont_for (fun i st => ∃ g row, FInv (2 + 9 * i) (fnum x.kind 1 1 4 :: fnum x.rules.length 1 0 32 :: (x.rules.take i).flatMap frule) row ∧ st = fruleSt x g row i) x.rules.length (s0 := fruleSt x 1 (Fd.rows [fnum x.kind 1 1 4, fnum x.rules.length 1 0 32]) 0) (Weak.to 2 (by simp only [fruleSt, go_sem, simprocAttr])) ⟨1, _, ⟨rfl, fun j _ => rfl⟩, rfl⟩ ?_
    rintro i _ hin ⟨g, row, I, rfl⟩
    simp only [fruleSt]
    refine kont_of_hx cx_ok hb 200 ?_
    simp only [go_sem, simprocAttr]
    first | refine hite_lt hin (fun hk1 => ?_) (fun hk1 => ?_) | refine hite_ltI hin (fun hk1 => ?_) (fun hk1 => ?_)
    · simp only [go_sem, simprocAttr, hk1, decide_true]
      refine kont_of_hx cx_ok hb 200 ?_
      simp only [go_sem, simprocAttr]
      have cc := frule_ok (hx.2.2.1.2 _ (getD_mem x.rules default i hk1))
      have hwr := wrap_succ (k := i) (by omega)
      have hk15 : 2 + 9 * (i + 1) = 2 + 9 * i + 9 := by omega
      refine kont_callM hb [] fn119 rfl ?_ cc rfl fun d h hR => ?_
      · simp only [go_sem, simprocAttr]
      obtain ⟨rfl, rfl⟩ := hR
      simp only [go_sem, simprocAttr]
      refine kont_of_hx cx_ok hb 200 ?_
      simp only [go_sem, simprocAttr]
      refine ⟨by omega, hk1, fruleSt x (g + 1) (fun j => bif decide (j < 2 + 9 * i) then row j else Fd.rows (frule (x.rules.getD i default)) (j - (2 + 9 * i))) (i + 1), Weak.to 2 ?_, g + 1, _, ?_, rfl⟩
      · have ha := I.app (row' := fun j => bif decide (j < 2 + 9 * i) then row j else Fd.rows (frule (x.rules.getD i default)) (j - (2 + 9 * i))) (frule_len (x.rules.getD i default)) (fun j _ => rfl)
        simp only [fruleSt, go_sem, simprocAttr, hwr, hk15]
        exact fun j hj => (congrArg (uptoL 2) (ha.rows j hj)).trans rfl
      · have ha := I.app (frule_len (x.rules.getD i default)) (fun j _ => rfl)
        rw [hk15, flat_take frule x.rules default i hk1]
        exact ha
    · simp only [go_sem, simprocAttr]
      subst hk1
      refine kont_of_hx cx_ok hb 200 ?_
      simp only [go_sem, simprocAttr]
      rw [List.take_length] at I
      have hL : fop x = fnum x.kind 1 1 4 :: fnum x.rules.length 1 0 32 :: x.rules.flatMap frule := by rw [fop, fop2, if_neg e1, if_pos e2]
      rw [← hL] at I
      rw [I.len]
      refine ⟨fun i hi => by rw [I.rows i hi]; rfl, _, _, rfl, rfl, fun i hi => by rw [I.rows i hi]; rfl⟩
  have d2 : (x.kind == 2) = false := by simpa using e2
  by_cases e3 : x.kind = 3
  · have d3 : (x.kind == 3) = true := by simpa using e3
    have n1 := fnum_ok (v := x.packet.len) (l := 1) (m := 16384) (k := 2) (by decide) (by decide) (by decide) (by decide)
    have n2 := fhead_ok (h := ⟨x.packet.head0, x.packet.head1, x.packet.head2, x.packet.head3⟩) ⟨hx.2.2.2.1.2.2.1, hx.2.2.2.1.2.2.2.1, hx.2.2.2.1.2.2.2.2.1, hx.2.2.2.1.2.2.2.2.2.1⟩
    have hL : fop x = fnum x.kind 1 1 4 :: ⟨x.packet.iD, 8, 0, 18446744073709551615⟩ :: fnum x.packet.len 2 1 16384 :: fhead ⟨x.packet.head0, x.packet.head1, x.packet.head2, x.packet.head3⟩ := by rw [fop, fop2, if_neg e1, if_neg e2, if_pos e3]
    rw [hL]
    refine AFn_hxs [1] rfl cx_ok 200 Try.func88 rfl Try.ntmps88 Try.results88 rfl fun base w hb => ?_
    simp only [go_sem, simprocAttr]
    refine kont_call hb fn87 rfl ?_ n0 (Ret.flat rfl) rfl fun d h hR => ?_
    · simp only [go_sem, simprocAttr]
    obtain ⟨rfl, rfl⟩ := hR
    refine kont_of_hx cx_ok hb 200 ?_
    simp only [go_sem, simprocAttr]
    simp only [go_sem, simprocAttr, d1, d2, d3]
    refine kont_hax cx_ok hb 200 mixed [(0, true), (1, true), (2, true), (3, true), (4, true), (5, true), (6, true), (7, true), (8, false), (9, false), (10, false), (11, true)] (by kernel_rfl) (by kernel_rfl) ?_
    simp only [go_sem, simprocAttr]
    refine AX_call hb fn87 rfl ?_ n1 (Ret.flat rfl) rfl fun d h hR => ?_
    · simp only [go_sem, simprocAttr]
    obtain ⟨rfl, rfl⟩ := hR
    refine AX_of_hax cx_ok hb ?_
    simp only [go_sem, simprocAttr]
    refine ⟨?_, ?_⟩
    · exact fun i hi => match i, hi with | 0, _ => rfl | 1, _ => rfl | i + 2, h => absurd (show i + 2 < 2 from h) (by omega)
    refine kont_callM hb [] fn120 rfl ?_ n2 rfl fun d h hR => ?_
    · simp only [go_sem, simprocAttr]
    obtain ⟨rfl, rfl⟩ := hR
    simp only [go_sem, simprocAttr]
    refine kont_of_hx cx_ok hb 200 ?_
    simp only [go_sem, simprocAttr]
    refine ⟨?_, _, _, rfl, rfl, ?_⟩
    · exact fun i hi => match i, hi with | 0, _ => rfl | 1, _ => rfl | 2, _ => rfl | 3, _ => rfl | 4, _ => rfl | 5, _ => rfl | 6, _ => rfl | i + 7, h => absurd (show i + 7 < 7 from h) (by omega)
    · exact fun i hi => match i, hi with | 0, _ => rfl | 1, _ => rfl | 2, _ => rfl | 3, _ => rfl | 4, _ => rfl | 5, _ => rfl | 6, _ => rfl | i + 7, h => absurd (show i + 7 < 7 from h) (by omega)
  have d3 : (x.kind == 3) = false := by simpa using e3
  by_cases e4 : x.kind = 4
  · have d4 : (x.kind == 4) = true := by simpa using e4
    have hL : fop x = [fnum x.kind 1 1 4, ⟨x.ticks, 8, 0, 18446744073709551615⟩] := by rw [fop, fop2, if_neg e1, if_neg e2, if_neg e3, if_pos e4]
    rw [hL]
    refine AFn_hxs [1] rfl cx_ok 200 Try.func88 rfl Try.ntmps88 Try.results88 rfl fun base w hb => ?_
    simp only [go_sem, simprocAttr]
    refine kont_call hb fn87 rfl ?_ n0 (Ret.flat rfl) rfl fun d h hR => ?_
    · simp only [go_sem, simprocAttr]
    obtain ⟨rfl, rfl⟩ := hR
    refine kont_of_hx cx_ok hb 200 ?_
    simp only [go_sem, simprocAttr]
    simp only [go_sem, simprocAttr, d1, d2, d3, d4]
    refine ⟨?_, _, _, rfl, rfl, ?_⟩
    · exact fun i hi => match i, hi with | 0, _ => rfl | 1, _ => rfl | i + 2, h => absurd (show i + 2 < 2 from h) (by omega)
    · exact fun i hi => match i, hi with | 0, _ => rfl | 1, _ => rfl | i + 2, h => absurd (show i + 2 < 2 from h) (by omega)
  · have d4 : (x.kind == 4) = false := by simpa using e4
    have hL : fop x = [fnum x.kind 1 1 4] := by rw [fop, fop2, if_neg e1, if_neg e2, if_neg e3, if_neg e4]
    rw [hL]
    refine AFn_hxs [1] rfl cx_ok 200 Try.func88 rfl Try.ntmps88 Try.results88 rfl fun base w hb => ?_
    simp only [go_sem, simprocAttr]
    refine kont_call hb fn87 rfl ?_ n0 (Ret.flat rfl) rfl fun d h hR => ?_
    · simp only [go_sem, simprocAttr]
    obtain ⟨rfl, rfl⟩ := hR
    refine kont_of_hx cx_ok hb 200 ?_
    simp only [go_sem, simprocAttr]
    simp only [go_sem, simprocAttr, d1, d2, d3, d4]
    refine ⟨_, _, rfl, rfl, ?_⟩
    exact fun i hi => match i, hi with | 0, _ => rfl | i + 1, h => absurd (show i + 1 < 1 from h) (by omega)
end Go.Fg.X
/- The document's fields of a script, and their bytes, walked. No conditions. -/
namespace Go.Fg.X
set_option linter.unusedSimpArgs false
set_option linter.unusedVariables false
open Go.Proofs Go.Fg
set_option maxRecDepth 100000
def fields (x : Scr) : List Fd := fnum x.config.t 4 1 65536 :: fnum x.config.lmax 4 1 16384 :: fnum x.ops.length 2 0 1000 :: x.ops.flatMap fop
def opMz (o : Opn) : Nat := 1 + o.changes.length + o.rules.length
def scrMz (l : List Opn) : Nat := (l.map opMz).sum
theorem fop_le (x : Opn) : (fop x).length ≤ 15 * opMz x := by
  have e1 := flat_len fchange 15 fchange_len x.changes
  have e2 := flat_len frule 9 frule_len x.rules
  simp only [fop, fop2, opMz, fhead]
  repeat' split
  all_goals simp only [List.length_cons, List.length_nil, e1, e2]
  all_goals omega
theorem flat_le (l : List Opn) : (l.flatMap fop).length ≤ 15 * scrMz l := by
  induction l with
  | nil => simp [scrMz]
  | cons a l ih =>
    have := fop_le a
    simp only [List.flatMap_cons, List.length_append, scrMz, List.map_cons, List.sum_cons] at ih ⊢
    omega
theorem take_le (l : List Opn) : ∀ i, scrMz (l.take i) ≤ scrMz l := by
  induction l with
  | nil => intro i; simp [scrMz]
  | cons a l ih =>
    intro i
    cases i with
    | zero => simp [scrMz]
    | succ i =>
      have := ih i
      simp only [scrMz, List.take_succ_cons, List.map_cons, List.sum_cons] at this ⊢
      omega
theorem mem_mz {l : List Opn} {o : Opn} (h : o ∈ l) : opMz o ≤ scrMz l := by
  induction l with
  | nil => cases h
  | cons a l ih =>
    simp only [scrMz, List.map_cons, List.sum_cons] at ih ⊢
    rcases List.mem_cons.1 h with rfl | h
    · omega
    · have := ih h; omega
def fieldsSt (x : Scr) (g : Nat) (row : Nat → List D) (n i : Nat) : St :=
  ⟨[(1, .ptr 0 0 0 0), (3, .ref 1 g 0 n), (20, .imm 10 x.ops.length (Opn.rows x.ops)), (21, dint x.ops.length), (22, dint i)], [⟨.one, 0, 3, 1, fun _ => x.cells⟩, ⟨.arr, g, 4, n, row⟩]⟩
theorem fields_ok {x : Scr} (hx : Scr.Ok x) (hm : scrMz x.ops ≤ 1048576) : AFn Try.prog 48 [.agg x.cells] (Ret (.imm 4 (fields x).length (Fd.rows (fields x)))) := by
  have n0 := fnum_ok (v := x.config.t) (l := 1) (m := 65536) (k := 4) (by decide) (by decide) (by decide) (by decide)
  have n1 := fnum_ok (v := x.config.lmax) (l := 1) (m := 16384) (k := 4) (by decide) (by decide) (by decide) (by decide)
  have n2 := fnum_ok (v := x.ops.length) (l := 0) (m := 1000) (k := 2) (by decide) (by decide) (by decide) (by decide)
  have hol : x.ops.length ≤ 1048576 := by
    have : ∀ l : List Opn, l.length ≤ scrMz l := by
      intro l
      induction l with
      | nil => simp [scrMz]
      | cons a l ih => simp only [scrMz, List.map_cons, List.sum_cons, List.length_cons, opMz] at ih ⊢; omega
    have := this x.ops
    omega
  refine freezeR (Fd.rows_cl (fields x)) ?_
  refine AFn_hxs [1] rfl cx_ok 200 Try.func48 rfl Try.ntmps48 Try.results48 rfl fun base w hb => ?_
  simp only [go_sem, simprocAttr]
  refine kont_hax cx_ok hb 200 mixed [(0, true), (1, true), (2, true), (4, true), (5, true), (6, true), (8, true), (9, true), (10, true), (3, false), (7, false), (11, false), (12, false), (13, true)] (by kernel_rfl) (by kernel_rfl) ?_
  simp only [go_sem, simprocAttr]
  refine AX_call hb fn87 rfl ?_ n0 (Ret.flat rfl) rfl fun d h hR => ?_
  · simp only [go_sem, simprocAttr]
  obtain ⟨rfl, rfl⟩ := hR
  refine AX_of_hax cx_ok hb ?_
  simp only [go_sem, simprocAttr]
  refine AX_call hb fn87 rfl ?_ n1 (Ret.flat rfl) rfl fun d h hR => ?_
  · simp only [go_sem, simprocAttr]
  obtain ⟨rfl, rfl⟩ := hR
  refine AX_of_hax cx_ok hb ?_
  simp only [go_sem, simprocAttr]
  refine AX_call hb fn87 rfl ?_ n2 (Ret.flat rfl) rfl fun d h hR => ?_
  · simp only [go_sem, simprocAttr]
  obtain ⟨rfl, rfl⟩ := hR
  refine AX_of_hax cx_ok hb ?_
  simp only [go_sem, simprocAttr]
  refine kont_weak_code (Weak.rows 1 (Fd.rows [fnum x.config.t 4 1 65536, fnum x.config.lmax 4 1 16384, fnum x.ops.length 2 0 1000]) (by exact rfl) ?_) ?_
  · intro i hi; dsimp only at hi ⊢; (match i, hi with | 0, _ => rfl | 1, _ => rfl | 2, _ => rfl | i + 3, h => exact absurd h (by show ¬(i + 3 < 3); omega))
  simp only [go_sem, simprocAttr]
  refine kont_for (fun i st => ∃ g row n, FInv n (fnum x.config.t 4 1 65536 :: fnum x.config.lmax 4 1 16384 :: fnum x.ops.length 2 0 1000 :: (x.ops.take i).flatMap fop) row ∧ st = fieldsSt x g row n i) x.ops.length (s0 := fieldsSt x 0 (Fd.rows [fnum x.config.t 4 1 65536, fnum x.config.lmax 4 1 16384, fnum x.ops.length 2 0 1000]) 3 0) (Weak.to 2 (by simp only [fieldsSt, go_sem, simprocAttr])) ⟨0, _, 3, ⟨rfl, fun j _ => rfl⟩, rfl⟩ ?_
  rintro i _ hin ⟨g, row, n, I, rfl⟩
  have hn : n ≤ 3 + 15 * 1048576 := by
    have h1 := I.len
    have h2 := flat_le (x.ops.take i)
    have h3 := take_le x.ops i
    simp only [List.length_cons] at h1
    omega
  simp only [fieldsSt]
  refine kont_of_hx cx_ok hb 200 ?_
  simp only [go_sem, simprocAttr]
  first | refine hite_lt hin (fun hk1 => ?_) (fun hk1 => ?_) | refine hite_ltI hin (fun hk1 => ?_) (fun hk1 => ?_)
  · simp only [go_sem, simprocAttr, hk1, decide_true]
    refine kont_of_hx cx_ok hb 200 ?_
    simp only [go_sem, simprocAttr]
    have hmem := getD_mem x.ops default i hk1
    have hz := mem_mz hmem
    have cc := fop_ok (hx.2.1.2 _ hmem) (by simp only [opMz] at hz; omega) (by simp only [opMz] at hz; omega)
    have hfl := fop_le (x.ops.getD i default)
    have hwr := wrap_succ (k := i) (by omega)
    refine kont_callM hb [] fn88 rfl ?_ cc rfl fun d h hR => ?_
    · simp only [go_sem, simprocAttr]
    obtain ⟨rfl, rfl⟩ := hR
    simp only [go_sem, simprocAttr]
    refine kont_of_hx cx_ok hb 200 ?_
    simp only [go_sem, simprocAttr]
    refine ⟨by omega, hk1, fieldsSt x (g + 1) (fun j => bif decide (j < n) then row j else Fd.rows (fop (x.ops.getD i default)) (j - n)) (n + (fop (x.ops.getD i default)).length) (i + 1), Weak.to 2 ?_, g + 1, _, n + (fop (x.ops.getD i default)).length, ?_, rfl⟩
    · have ha := I.app (row' := fun j => bif decide (j < n) then row j else Fd.rows (fop (x.ops.getD i default)) (j - n)) rfl (fun j _ => rfl)
      simp only [fieldsSt, go_sem, simprocAttr, hwr]
      exact fun j hj => (congrArg (uptoL 2) (ha.rows j hj)).trans rfl
    · have ha := I.app (M := fop (x.ops.getD i default)) rfl (fun j _ => rfl)
      rw [flat_take fop x.ops default i hk1]
      exact ha
  · simp only [go_sem, simprocAttr]
    subst hk1
    refine kont_of_hx cx_ok hb 200 ?_
    simp only [go_sem, simprocAttr]
    rw [List.take_length] at I
    have I : FInv n (fields x) row := I
    obtain rfl := I.len
    refine ⟨fun i hi => by rw [I.rows i hi]; rfl, _, _, rfl, rfl, fun i hi => by rw [I.rows i hi]; rfl⟩
theorem div_step {v : Int} (h0 : 0 ≤ v) (hv : v < 18446744073709551616) (k : Nat) : 0 ≤ v / 256 ^ k ∧ v / 256 ^ k < 18446744073709551616 ∧ v / 256 ^ k / 256 = v / 256 ^ (k + 1) := by
  have hp : (0 : Int) < 256 ^ k := Int.pow_pos (by decide)
  refine ⟨Int.ediv_nonneg h0 (Int.le_of_lt hp), ?_, ?_⟩
  · exact Int.lt_of_le_of_lt (Int.ediv_le_self _ h0) hv
  · rw [Int.ediv_ediv_of_nonneg (Int.le_of_lt hp), Int.pow_succ]
theorem byteAt_ok {v : Int} {n : Nat} (h0 : 0 ≤ v) (hv : v < 18446744073709551616) (hn : n ≤ 8) : AFn Try.prog 49 [du64 v, dint n] (Ret (.raw (.int .u8 (v / 256 ^ n % 256)))) := by
  refine AFn_hxk 0 cx_ok 200 Try.func49 rfl Try.ntmps49 Try.results49 rfl fun base w hb => ?_
  simp only [go_sem, simprocAttr]
  refine kont_forF (G := Nat) [] (fun k => True) (fun k γ => [(0, du64 (v / 256 ^ k)), (5, dint n), (6, dint k)]) (fun k γ => []) (n) (0) rfl (Weak.to 0 (by (simp only [go_sem, simprocAttr]) <;> simp)) trivial ?_
  intro k γ hk _
  obtain ⟨e1, e2, e3⟩ := div_step h0 hv k
  refine kont_of_hx cx_ok hb 200 ?_
  simp only [go_sem, simprocAttr]
  first | refine hite_lt hk (fun hk1 => ?_) (fun hk1 => ?_) | refine hite_ltI hk (fun hk1 => ?_) (fun hk1 => ?_)
  · simp only [go_sem, simprocAttr, hk1, decide_true]
    have hwr := wrap_succ (k := k) (by omega)
    have e4 := wrapu_id (n := v / 256 ^ (k + 1)) (by rw [← e3]; omega) (by rw [← e3]; omega)
    rw [Int.tdiv_eq_ediv_of_nonneg e1, e3, e4]
    repeat (refine And.intro (by first | assumption | omega) ?_)
    refine ⟨_, Weak.to 0 (by (simp only [go_sem, simprocAttr, hwr]) <;> simp), ForS.mk (γ) (trivial)⟩
  · simp only [go_sem, simprocAttr]
    subst hk1
    refine kont_of_hx cx_ok hb 200 ?_
    simp only [go_sem, simprocAttr]
    rw [Int.tmod_eq_emod_of_nonneg e1, IntKind.wrap_u8]
    congr 2
    omega
structure Fd.Fw (f : Fd) : Prop where
  v0 : 0 ≤ f.v
  v1 : f.v < 18446744073709551616
  k0 : 1 ≤ f.k
  k1 : f.k ≤ 8
def fout : List Fd → Option (List Int)
  | [] => some []
  | f :: r => if f.v < f.l ∨ f.m < f.v then none else match fout r with
    | some b => some (beN f.k.toNat f.v ++ b)
    | none => none
theorem fout_app (F G : List Fd) : fout (F ++ G) = match fout F with
    | some a => (match fout G with
      | some b => some (a ++ b)
      | none => none)
    | none => none := by
  induction F with
  | nil => simp only [List.nil_append, fout]; cases fout G <;> rfl
  | cons f F ih =>
    simp only [List.cons_append, fout]
    split
    · rfl
    · rw [ih]
      cases fout F with
      | none => rfl
      | some a =>
        cases fout G with
        | none => rfl
        | some b => simp only [List.append_assoc]
theorem fout_bad {L : List Fd} {i : Nat} (hi : i < L.length) (h : (L.getD i default).v < (L.getD i default).l ∨ (L.getD i default).m < (L.getD i default).v) : fout L = none := by
  have e : L = L.take i ++ (L.getD i default :: L.drop (i + 1)) := by
    have : L.drop i = L.getD i default :: L.drop (i + 1) := by rw [List.drop_eq_getElem_cons hi]; simp [List.getD_eq_getElem?_getD, hi]
    rw [← this, List.take_append_drop]
  rw [e, fout_app]
  simp only [fout, if_pos h]
  cases fout (L.take i) <;> rfl
theorem fout_step {L : List Fd} {i : Nat} {b : List Int} (hi : i < L.length) (h : ¬ ((L.getD i default).v < (L.getD i default).l ∨ (L.getD i default).m < (L.getD i default).v)) (hb : fout (L.take i) = some b) :
    fout (L.take (i + 1)) = some (b ++ beN (L.getD i default).k.toNat (L.getD i default).v) := by
  rw [getD_take L default i hi, fout_app, hb]
  simp only [fout, if_neg h, List.append_nil]
def rencV (x : Scr) : List Int × Bool := match fout (fields x) with
  | some b => (b, true)
  | none => ([], false)
theorem sh_f {n k : Nat} (h : k < n) (h8 : n ≤ 8) : IntKind.i64.wrap (IntKind.i64.wrap ((n : Int) - 1) - k) = ((n - 1 - k : Nat) : Int) := by
  rw [wrap64 (n := (n : Int) - 1) (by omega) (by omega), wrap64 (by omega) (by omega)]; omega
def encSt (x : Scr) (L : List Fd) (g : Nat) (b : List Int) (i : Nat) : St :=
  ⟨[(2, .ptr 1 0 0 0), (3, .ref 2 g 0 b.length), (8, .imm 4 L.length (Fd.rows L)), (9, dint L.length), (10, dint i)],
   [⟨.one, 0, 3, 1, fun _ => x.cells⟩, ⟨.one, 0, 2, 1, fun _ => [.raw (.string ByteArray.empty), dbool false]⟩, ⟨.arr, g, 1, b.length, rowsI .u8 b⟩]⟩
theorem fnum_fw (v k l m : Int) (h0 : 1 ≤ k) (h8 : k ≤ 8) : (fnum v k l m).Fw := ⟨wrapu_lo v, wrapu_hi v, h0, h8⟩
theorem fcurve_fw {c : Cv} (h : Cv.Ok c) : ∀ f ∈ fcurve c, f.Fw := by
  obtain ⟨a, a2⟩ := u64_wf h.1
  obtain ⟨b, b2⟩ := u64_wf h.2.1
  obtain ⟨d, d2⟩ := u64_wf h.2.2.1
  intro f hf
  simp only [fcurve, List.mem_cons, List.not_mem_nil, or_false] at hf
  rcases hf with rfl | rfl | rfl
  · exact ⟨a, a2, by dsimp only; omega, by dsimp only; omega⟩
  · exact ⟨b, b2, by dsimp only; omega, by dsimp only; omega⟩
  · exact ⟨d, d2, by dsimp only; omega, by dsimp only; omega⟩
theorem fhead_fw {h : Hd} (hx : Hd.Ok h) : ∀ f ∈ fhead h, f.Fw := by
  obtain ⟨a1, a2⟩ := u16_wf hx.1
  obtain ⟨b1, b2⟩ := u16_wf hx.2.1
  obtain ⟨c1, c2⟩ := u16_wf hx.2.2.1
  obtain ⟨d1, d2⟩ := u16_wf hx.2.2.2
  intro f hf
  simp only [fhead, List.mem_cons, List.not_mem_nil, or_false] at hf
  rcases hf with rfl | rfl | rfl | rfl
  · exact ⟨a1, by dsimp only; omega, by dsimp only; omega, by dsimp only; omega⟩
  · exact ⟨b1, by dsimp only; omega, by dsimp only; omega, by dsimp only; omega⟩
  · exact ⟨c1, by dsimp only; omega, by dsimp only; omega, by dsimp only; omega⟩
  · exact ⟨d1, by dsimp only; omega, by dsimp only; omega, by dsimp only; omega⟩
theorem fchange_fw {x : Chg} (h : Chg.Ok x) : ∀ f ∈ fchange x, f.Fw := by
  intro f hf
  simp only [fchange, List.mem_append, List.mem_cons, List.not_mem_nil, or_false] at hf
  rcases hf with ((((rfl | rfl | rfl | rfl) | hf) | hf) | hf) | (rfl | rfl)
  · exact fnum_fw _ _ _ _ (by decide) (by decide)
  · exact fnum_fw _ _ _ _ (by decide) (by decide)
  · exact fnum_fw _ _ _ _ (by decide) (by decide)
  · exact fnum_fw _ _ _ _ (by decide) (by decide)
  · exact fcurve_fw h.2.1.2.2.2.1 f hf
  · exact fcurve_fw h.2.1.2.2.2.2.1 f hf
  · exact fcurve_fw h.2.1.2.2.2.2.2.1 f hf
  · exact fnum_fw _ _ _ _ (by decide) (by decide)
  · exact fnum_fw _ _ _ _ (by decide) (by decide)
theorem frule_fw {x : Rul} (h : Rul.Ok x) : ∀ f ∈ frule x, f.Fw := by
  intro f hf
  simp only [frule, List.mem_append, List.mem_singleton] at hf
  rcases hf with (hf | hf) | rfl
  · exact fhead_fw ⟨h.1, h.2.1, h.2.2.1, h.2.2.2.1⟩ f hf
  · exact fhead_fw ⟨h.2.2.2.2.1, h.2.2.2.2.2.1, h.2.2.2.2.2.2.1, h.2.2.2.2.2.2.2.1⟩ f hf
  · exact fnum_fw _ _ _ _ (by decide) (by decide)
theorem fop_fw {x : Opn} (h : Opn.Ok x) : ∀ f ∈ fop x, f.Fw := by
  intro f hf
  rw [fop, List.mem_cons] at hf
  rcases hf with rfl | hf
  · exact fnum_fw _ _ _ _ (by decide) (by decide)
  rw [fop2] at hf
  split at hf
  · rw [List.mem_cons] at hf
    rcases hf with rfl | hf
    · exact fnum_fw _ _ _ _ (by decide) (by decide)
    · obtain ⟨c, hc, hf⟩ := List.mem_flatMap.1 hf
      exact fchange_fw (h.2.1.2 c hc) f hf
  split at hf
  · rw [List.mem_cons] at hf
    rcases hf with rfl | hf
    · exact fnum_fw _ _ _ _ (by decide) (by decide)
    · obtain ⟨c, hc, hf⟩ := List.mem_flatMap.1 hf
      exact frule_fw (h.2.2.1.2 c hc) f hf
  have hp := h.2.2.2.1
  split at hf
  · rw [List.mem_cons, List.mem_cons] at hf
    rcases hf with rfl | rfl | hf
    · obtain ⟨a, a2⟩ := u64_wf hp.1
      exact ⟨a, a2, by dsimp only; omega, by dsimp only; omega⟩
    · exact fnum_fw _ _ _ _ (by decide) (by decide)
    · exact fhead_fw ⟨hp.2.2.1, hp.2.2.2.1, hp.2.2.2.2.1, hp.2.2.2.2.2.1⟩ f hf
  split at hf
  · rw [List.mem_singleton] at hf
    subst hf
    obtain ⟨a, a2⟩ := u64_wf h.2.2.2.2.1
    exact ⟨a, a2, by dsimp only; omega, by dsimp only; omega⟩
  · cases hf
theorem fields_fw {x : Scr} (h : Scr.Ok x) : ∀ f ∈ fields x, f.Fw := by
  intro f hf
  rw [fields, List.mem_cons, List.mem_cons, List.mem_cons] at hf
  rcases hf with rfl | rfl | rfl | hf
  · exact fnum_fw _ _ _ _ (by decide) (by decide)
  · exact fnum_fw _ _ _ _ (by decide) (by decide)
  · exact fnum_fw _ _ _ _ (by decide) (by decide)
  · obtain ⟨c, hc, hf⟩ := List.mem_flatMap.1 hf
    exact fop_fw (h.2.1.2 c hc) f hf
theorem rencode_ok {x : Scr} (hx : Scr.Ok x) (hm : scrMz x.ops ≤ 1048576) : AFn Try.prog 25 [.agg x.cells] (Ret (.agg [dstr (rencV x).1, dbool (rencV x).2])) := by
  have c1 := fields_ok hx hm
  have hlen : (fields x).length ≤ 3 + 15 * 1048576 := by
    have := flat_le x.ops
    simp only [fields, List.length_cons]; omega
  have hw := fields_fw hx
  simp only [rencV]
  generalize fields x = L at *
  refine AFn_hxk 0 cx_ok 200 Try.func25 rfl Try.ntmps25 Try.results25 rfl fun base w hb => ?_
  simp only [go_sem, simprocAttr]
  refine kont_callM hb [] fn48 rfl ?_ c1 rfl fun d h hR => ?_
  · simp only [go_sem, simprocAttr]
  obtain ⟨rfl, rfl⟩ := hR
  simp only [go_sem, simprocAttr]
  refine kont_of_hx cx_ok hb 200 ?_
  simp only [go_sem, simprocAttr]
  refine kont_weak_code (Weak.phantom 3 1 (rowsI .u8 []) rfl) ?_
  simp only [go_sem, simprocAttr]
  refine kont_for (fun i st => ∃ g b, fout (L.take i) = some b ∧ b.length ≤ 8 * i ∧ st = encSt x L g b i) L.length (s0 := encSt x L 0 [] 0) (Weak.to 3 (by simp only [encSt, go_sem, simprocAttr] <;> simp)) ⟨0, [], rfl, by simp, rfl⟩ ?_
  rintro i _ hin ⟨g, b, hfo, hbl, rfl⟩
  simp only [encSt]
  refine kont_of_hx cx_ok hb 200 ?_
  simp only [go_sem, simprocAttr]
  first | refine hite_lt hin (fun hk1 => ?_) (fun hk1 => ?_) | refine hite_ltI hin (fun hk1 => ?_) (fun hk1 => ?_)
  · simp only [go_sem, simprocAttr, hk1, decide_true]
    have hf := hw _ (getD_mem L default i hk1)
    by_cases h1 : (L.getD i default).v < (L.getD i default).l
    · have d1 := decide_eq_true h1
      rw [fout_bad hk1 (.inl h1)]
      simp only [go_sem, simprocAttr, d1]
      rfl
    have d1 := decide_eq_false h1
    by_cases h2 : (L.getD i default).m < (L.getD i default).v
    · have d2 := decide_eq_true h2
      rw [fout_bad hk1 (.inr h2)]
      simp only [go_sem, simprocAttr, d1, d2]
      rfl
    have d2 := decide_eq_false h2
    simp only [go_sem, simprocAttr, d1, d2]
    have hst := fout_step hk1 (fun h => h.elim h1 h2) hfo
    generalize L.getD i default = f at *
    obtain ⟨v0, v1, k0, k8⟩ := hf
    obtain ⟨v, kk, l, m⟩ := f
    dsimp only at v0 v1 k0 k8 h1 h2 d1 d2 hst ⊢
    obtain ⟨n, rfl⟩ := Int.eq_ofNat_of_zero_le (show 0 ≤ kk by omega)
    rw [Int.toNat_natCast] at hst
    have hbn := beN_len n v
    refine kont_forF (G := Nat) [2, 5, 8, 9, 10] (fun k => True) (fun k γ => [(3, .ref 2 (g + k) 0 (b.length + k)), (28, dint n), (29, dint k)]) (fun k γ => [⟨.one, 0, 3, 1, fun _ => x.cells⟩, ⟨.one, 0, 2, 1, fun _ => [.raw (.string ByteArray.empty), dbool false]⟩, ⟨.arr, g + k, 1, b.length + k, rowsI .u8 (b ++ (beN n v).take k)⟩, ⟨.one, 0, 4, 1, fun _ => [du64 v, dint n, du64 l, du64 m]⟩]) (n) (0) rfl (Weak.to 4 (by (simp only [go_sem, simprocAttr, List.take_zero, List.append_nil]) <;> simp)) trivial ?_
    intro k γ hk _
    refine kont_of_hx cx_ok hb 200 ?_
    simp only [go_sem, simprocAttr]
    first | refine hite_lt hk (fun hk1 => ?_) (fun hk1 => ?_) | refine hite_ltI hk (fun hk1 => ?_) (fun hk1 => ?_)
    · simp only [go_sem, simprocAttr, hk1, decide_true]
      have hsf := sh_f hk1 (by omega)
      have cc := byteAt_ok (n := n - 1 - k) v0 v1 (by omega)
      rw [← beN_at v hk1] at cc
      simp only [go_sem, simprocAttr, hsf]
      refine kont_call hb fn49 rfl ?_ cc (Ret.flat rfl) rfl fun d h hR => ?_
      · simp only [go_sem, simprocAttr]
      obtain ⟨rfl, rfl⟩ := hR
      refine kont_of_hx cx_ok hb 200 ?_
      simp only [go_sem, simprocAttr]
      have hwr := wrap_succ (k := k) (by omega)
      refine ⟨by omega, hk1, _, Weak.to 4 ?_, ForS.mk (γ + 1) trivial⟩
      · simp only [go_sem, simprocAttr, hwr]
        have hl : (b ++ (beN n v).take k).length = b.length + k := by simp [hbn]; omega
        refine ⟨by rw [← Nat.add_assoc, ← Nat.add_assoc], by omega, by omega, fun i hi => ?_⟩
        rw [getD_take _ 0 k (by omega), ← List.append_assoc, getD_app _ _ _ i (by omega), hl]
        cases decide (i < b.length + k) <;> rfl
    · simp only [go_sem, simprocAttr]
      subst hk1
      refine kont_of_hx cx_ok hb 200 ?_
      simp only [go_sem, simprocAttr]
      have hwr := wrap_succ (k := i) (by omega)
      rw [show (beN k v).take k = beN k v from List.take_of_length_le (by omega)]
      refine ⟨by assumption, encSt x L (g + k) (b ++ beN k v) (i + 1), Weak.to 3 ?_, g + k, _, hst, by rw [List.length_append, hbn]; omega, rfl⟩
      simp only [encSt, go_sem, simprocAttr, hwr, List.length_append, hbn]
  · simp only [go_sem, simprocAttr]
    subst hk1
    rw [List.take_length] at hfo
    rw [hfo]
    simp only
    refine kont_of_hx cx_ok hb 200 ?_
    simp only [go_sem, simprocAttr]
    refine kont_str cx_ok.L rfl rfl rfl rfl rfl b ⟨⟨rfl, by show 0 + b.length ≤ b.length; omega⟩, rfl, fun i hi => by simp only [go_sem, simprocAttr, Nat.zero_add]⟩ rfl ?_
    refine kont_of_hx cx_ok hb 200 ?_
    simp only [go_sem, simprocAttr]
end Go.Fg.X
/- ScriptForth and ScriptBack, walked. No conditions. -/
namespace Go.Fg.X
set_option linter.unusedVariables false
open Go.Proofs Go.Fg
set_option maxRecDepth 100000
set_option linter.unusedSimpArgs false
theorem scriptForth_ok {s : List Int} (hby : Bytes s) : AFn Try.prog 9 [dstr s] (Ret (dbool true)) := by
  have hsz := bytesS_size s
  have b1 : ∀ n : Int, (n == n) = true := fun n => by simp
  by_cases hl : 20000 < s.length
  · have e1 : decide ((20000 : Int) < s.length) = true := decide_eq_true (by omega)
    refine AFn_hxk 0 cx_ok 200 Try.func9 rfl Try.ntmps9 Try.results9 rfl fun base w hb => ?_
    simp only [go_sem, simprocAttr]
    simp only [go_sem, simprocAttr, hsz, e1]
    refine kont_call hb fn19 rfl ?_ five_ok (Ret.flat rfl) rfl fun d h hR => ?_
    · simp only [go_sem, simprocAttr]
    obtain ⟨rfl, rfl⟩ := hR
    refine kont_of_hx cx_ok hb 200 ?_
    simp only [go_sem, simprocAttr]
  · have e1 : decide ((20000 : Int) < s.length) = false := decide_eq_false (by omega)
    have c1 := decode_ok hby (by simp only [maxLen]; omega)
    have hf := forth hby
    have hc := decV_cases s
    generalize decV s = r at *
    rcases hc with ⟨h0, hfine⟩ | ⟨h0, hz⟩
    · have e2 : (r.2 != 0) = false := by rw [h0]; rfl
      obtain ⟨f1, f2, f3⟩ := hf h0
      have c2 := encode_ok hfine.1
      rw [f1] at c2
      have c3 := splain_ok r.1 (by have := f3.2.1; omega) (fun o ho => by have := f3.2.2 o ho; omega)
      rw [f2] at c3
      have c4 := alike_ok r.1 (by have := f3.2.1; omega) (fun o ho => by have := f3.2.2 o ho; omega)
      refine AFn_hxk 0 cx_ok 200 Try.func9 rfl Try.ntmps9 Try.results9 rfl fun base w hb => ?_
      simp only [go_sem, simprocAttr]
      simp only [go_sem, simprocAttr, hsz, e1]
      refine kont_callM hb [] fn20 rfl ?_ c1 rfl fun d h hR => ?_
      · simp only [go_sem, simprocAttr]
      obtain ⟨rfl, rfl⟩ := hR
      simp only [go_sem, simprocAttr]
      refine kont_of_hx cx_ok hb 200 ?_
      simp only [go_sem, simprocAttr]
      simp only [go_sem, simprocAttr, e2]
      refine kont_callM hb [] fn24 rfl ?_ c2 rfl fun d h hR => ?_
      · simp only [go_sem, simprocAttr]
      obtain ⟨rfl, rfl⟩ := hR
      simp only [go_sem, simprocAttr]
      refine kont_of_hx cx_ok hb 200 ?_
      simp only [go_sem, simprocAttr]
      refine kont_hax cx_ok hb 200 mixed [(0, true), (1, true), (2, true), (3, true), (4, true), (5, true), (6, true), (7, true), (8, true), (9, true), (10, false), (11, false), (12, true), (13, true), (14, false), (15, true), (16, true)] (by kernel_rfl) (by kernel_rfl) ?_
      simp only [go_sem, simprocAttr]
      refine AX_callC hb fn26 rfl ?_ c3 rfl fun d h hR => ?_
      · simp only [go_sem, simprocAttr]
      obtain ⟨rfl, rfl⟩ := hR
      simp only [go_sem, simprocAttr]
      refine AX_of_hax cx_ok hb ?_
      simp only [go_sem, simprocAttr]
      refine AX_callC hb fn22 rfl ?_ c4 rfl fun d h hR => ?_
      · simp only [go_sem, simprocAttr]
      obtain ⟨rfl, rfl⟩ := hR
      simp only [go_sem, simprocAttr]
      refine AX_of_hax cx_ok hb ?_
      simp only [go_sem, simprocAttr]
      refine AX_call hb fn19 rfl ?_ five_ok (Ret.flat rfl) rfl fun d h hR => ?_
      · simp only [go_sem, simprocAttr]
      obtain ⟨rfl, rfl⟩ := hR
      refine AX_of_hax cx_ok hb ?_
      simp only [go_sem, simprocAttr]
    · have e2 : (r.2 != 0) = true := by simpa using h0
      refine AFn_hxk 0 cx_ok 200 Try.func9 rfl Try.ntmps9 Try.results9 rfl fun base w hb => ?_
      simp only [go_sem, simprocAttr]
      simp only [go_sem, simprocAttr, hsz, e1]
      refine kont_callM hb [] fn20 rfl ?_ c1 rfl fun d h hR => ?_
      · simp only [go_sem, simprocAttr]
      obtain ⟨rfl, rfl⟩ := hR
      simp only [go_sem, simprocAttr]
      refine kont_of_hx cx_ok hb 200 ?_
      simp only [go_sem, simprocAttr]
      simp only [go_sem, simprocAttr, e2, hz, zscr, List.length_nil]
      refine kont_call hb fn19 rfl ?_ five_ok (Ret.flat rfl) rfl fun d h hR => ?_
      · simp only [go_sem, simprocAttr]
      obtain ⟨rfl, rfl⟩ := hR
      refine kont_of_hx cx_ok hb 200 ?_
      simp only [go_sem, simprocAttr]
def few29 (x : Scr) : Bool := few x 100 || ((x.ops.length : Int) == 1001)
theorem few29_ok (x : Scr) : AFn Try.prog 23 [.agg x.cells] (Ret (dbool (few29 x))) := by
  have c1 := few_ok x 100 (by decide)
  refine AFn_hxk 0 cx_ok 200 Try.func23 rfl Try.ntmps23 Try.results23 rfl fun base w hb => ?_
  simp only [go_sem, simprocAttr]
  refine kont_call hb fn46 rfl ?_ c1 (Ret.flat rfl) rfl fun d h hR => ?_
  · simp only [go_sem, simprocAttr]
  obtain ⟨rfl, rfl⟩ := hR
  refine kont_of_hx cx_ok hb 200 ?_
  simp only [go_sem, simprocAttr]
  refine hite_intro (fun e => ?_) (fun e => ?_)
  all_goals simp only [go_sem, simprocAttr, e, few29, Bool.true_or, Bool.false_or]
theorem few_small {x : Scr} (h : few x 100 = true) : x.ops.length ≤ 100 ∧ ∀ o ∈ x.ops, o.changes.length ≤ 40 ∧ o.rules.length ≤ 40 := by
  simp only [few, Bool.and_eq_true, decide_eq_true_eq, List.all_eq_true, fewO] at h
  exact h
theorem scriptBack_ok {x : Scr} (hx : Scr.Ok x) {cut : Int} (hcut : I64 cut) : AFn Try.prog 8 [.agg x.cells, dint cut] (Ret (dbool true)) := by
  have cf := few29_ok x
  generalize hfew : few29 x = b at *
  cases b with
  | false =>
    refine AFn_hxk 0 cx_ok 200 Try.func8 rfl Try.ntmps8 Try.results8 rfl fun base w hb => ?_
    simp only [go_sem, simprocAttr]
    refine kont_call hb fn23 rfl ?_ cf (Ret.flat rfl) rfl fun d h hR => ?_
    · simp only [go_sem, simprocAttr]
    obtain ⟨rfl, rfl⟩ := hR
    refine kont_of_hx cx_ok hb 200 ?_
    simp only [go_sem, simprocAttr]
    refine kont_call hb fn19 rfl ?_ five_ok (Ret.flat rfl) rfl fun d h hR => ?_
    · simp only [go_sem, simprocAttr]
    obtain ⟨rfl, rfl⟩ := hR
    refine kont_of_hx cx_ok hb 200 ?_
    simp only [go_sem, simprocAttr]
  | true =>
    have c1 := encode_ok hx
    by_cases he : (encV x).2 = 0
    · obtain ⟨bs, h1, h2, h3, h4, h5, h6, h7⟩ := back hx he
      rw [h1] at c1
      have hsz := bytesS_size bs
      have hsm : few x 100 = true := by
        simp only [few29, Bool.or_eq_true, beq_iff_eq] at hfew
        rcases hfew with h | h
        · exact h
        · omega
      obtain ⟨k1, k2⟩ := few_small hsm
      have c2 := decode_ok h2 (Nat.le_trans h3 (by decide))
      rw [h4] at c2
      have c3 := splain_ok x (by omega) (fun o ho => by have := k2 o ho; omega)
      have c4 := alike_self (plainS x) (by simp only [plainS, List.length_map]; omega) (fun o ho => by
        obtain ⟨p, hp, rfl⟩ := List.mem_map.1 ho
        have := k2 p hp
        simp only [plainO]
        repeat' split
        all_goals simp only [List.length_nil] <;> omega)
      have hb120 : Bytes (bs ++ [120]) := by
        intro y hy
        rw [List.mem_append, List.mem_singleton] at hy
        rcases hy with hy | rfl
        · exact h2 y hy
        · omega
      have c5 := decode_ok hb120 (by rw [List.length_append]; simp [maxLen]; omega)
      rw [h5] at c5
      have hx120 : bytesS bs ++ ⟨#[120]⟩ = bytesS (bs ++ [120]) := by rw [← bytesS_app]; rfl
      refine AFn_hxk 0 cx_ok 200 Try.func8 rfl Try.ntmps8 Try.results8 rfl fun base w hb => ?_
      simp only [go_sem, simprocAttr]
      refine kont_call hb fn23 rfl ?_ cf (Ret.flat rfl) rfl fun d h hR => ?_
      · simp only [go_sem, simprocAttr]
      obtain ⟨rfl, rfl⟩ := hR
      refine kont_of_hx cx_ok hb 200 ?_
      simp only [go_sem, simprocAttr]
      refine kont_callM hb [] fn24 rfl ?_ c1 rfl fun d h hR => ?_
      · simp only [go_sem, simprocAttr]
      obtain ⟨rfl, rfl⟩ := hR
      simp only [go_sem, simprocAttr]
      refine kont_of_hx cx_ok hb 200 ?_
      simp only [go_sem, simprocAttr]
      refine kont_callM hb [] fn20 rfl ?_ c2 rfl fun d h hR => ?_
      · simp only [go_sem, simprocAttr]
      obtain ⟨rfl, rfl⟩ := hR
      simp only [go_sem, simprocAttr]
      refine kont_of_hx cx_ok hb 200 ?_
      simp only [go_sem, simprocAttr]
      refine kont_hax cx_ok hb 200 mixed [(0, true), (1, true), (2, true), (3, true), (4, true), (5, false), (6, false), (7, true), (8, true)] (by kernel_rfl) (by kernel_rfl) ?_
      simp only [go_sem, simprocAttr]
      refine AX_callC hb fn26 rfl ?_ c3 rfl fun d h hR => ?_
      · simp only [go_sem, simprocAttr]
      obtain ⟨rfl, rfl⟩ := hR
      simp only [go_sem, simprocAttr]
      refine AX_of_hax cx_ok hb ?_
      simp only [go_sem, simprocAttr]
      refine AX_callC hb fn22 rfl ?_ c4 rfl fun d h hR => ?_
      · simp only [go_sem, simprocAttr]
      obtain ⟨rfl, rfl⟩ := hR
      simp only [go_sem, simprocAttr]
      refine AX_of_hax cx_ok hb ?_
      simp only [go_sem, simprocAttr]
      refine ⟨by rw [hsz]; simp; omega, ?_⟩
      simp only [go_sem, simprocAttr, hx120]
      refine kont_callM hb [] fn20 rfl ?_ c5 rfl fun d h hR => ?_
      · simp only [go_sem, simprocAttr]
      obtain ⟨rfl, rfl⟩ := hR
      simp only [go_sem, simprocAttr]
      refine kont_of_hx cx_ok hb 200 ?_
      simp only [go_sem, simprocAttr]
      by_cases hn : cut < 0
      · have e3 : decide (cut < 0) = true := decide_eq_true hn
        simp only [go_sem, simprocAttr, e3]
        refine kont_call hb fn19 rfl ?_ five_ok (Ret.flat rfl) rfl fun d h hR => ?_
        · simp only [go_sem, simprocAttr]
        obtain ⟨rfl, rfl⟩ := hR
        refine kont_of_hx cx_ok hb 200 ?_
        simp only [go_sem, simprocAttr]
      have e3 : decide (cut < 0) = false := decide_eq_false hn
      obtain ⟨n, rfl⟩ := Int.eq_ofNat_of_zero_le (show 0 ≤ cut by omega)
      by_cases hn2 : n < bs.length
      · have e4 : decide (bs.length ≤ n) = false := decide_eq_false (by omega)
        have c6 := decode_ok (bytes_take h2 n) (by rw [List.length_take]; exact Nat.le_trans (Nat.min_le_right _ _) (Nat.le_trans h3 (by decide)))
        rw [h6 n hn2] at c6
        simp only [go_sem, simprocAttr, e3, hsz, e4]
        have hext : (bytesS bs).extract 0 n = bytesS (bs.take n) := by rw [bytesS_extract, List.drop_zero]
        refine ⟨by omega, ?_⟩
        simp only [go_sem, simprocAttr, hext]
        refine kont_callM hb [] fn20 rfl ?_ c6 rfl fun d h hR => ?_
        · simp only [go_sem, simprocAttr]
        obtain ⟨rfl, rfl⟩ := hR
        simp only [go_sem, simprocAttr]
        refine kont_of_hx cx_ok hb 200 ?_
        simp only [go_sem, simprocAttr]
        simp only [go_sem, simprocAttr, zscr, List.length_nil]
        refine kont_call hb fn19 rfl ?_ five_ok (Ret.flat rfl) rfl fun d h hR => ?_
        · simp only [go_sem, simprocAttr]
        obtain ⟨rfl, rfl⟩ := hR
        refine kont_of_hx cx_ok hb 200 ?_
        simp only [go_sem, simprocAttr]
      · have e4 : decide (bs.length ≤ n) = true := decide_eq_true (by omega)
        simp only [go_sem, simprocAttr, e3, hsz, e4]
        refine kont_call hb fn19 rfl ?_ five_ok (Ret.flat rfl) rfl fun d h hR => ?_
        · simp only [go_sem, simprocAttr]
        obtain ⟨rfl, rfl⟩ := hR
        refine kont_of_hx cx_ok hb 200 ?_
        simp only [go_sem, simprocAttr]
    · have e2 : ((encV x).2 != 0) = true := by simpa using he
      have hnil : (encV x).1 = [] := by
        have h := encV_of (x := x)
        cases ho : (pscript x).out with
        | none => rw [ho] at h; exact h.2
        | some r => rw [ho] at h; rw [h] at he; exact absurd rfl he
      rw [hnil] at c1
      refine AFn_hxk 0 cx_ok 200 Try.func8 rfl Try.ntmps8 Try.results8 rfl fun base w hb => ?_
      simp only [go_sem, simprocAttr]
      refine kont_call hb fn23 rfl ?_ cf (Ret.flat rfl) rfl fun d h hR => ?_
      · simp only [go_sem, simprocAttr]
      obtain ⟨rfl, rfl⟩ := hR
      refine kont_of_hx cx_ok hb 200 ?_
      simp only [go_sem, simprocAttr]
      refine kont_callM hb [] fn24 rfl ?_ c1 rfl fun d h hR => ?_
      · simp only [go_sem, simprocAttr]
      obtain ⟨rfl, rfl⟩ := hR
      simp only [go_sem, simprocAttr]
      refine kont_of_hx cx_ok hb 200 ?_
      simp only [go_sem, simprocAttr]
      have hE : ((bytesS []).toList == (ByteArray.mk #[]).toList) = true := by rw [show bytesS [] = ByteArray.mk #[] from rfl]; exact beq_self_eq_true _
      simp only [go_sem, simprocAttr, e2, hE]
      refine kont_call hb fn19 rfl ?_ five_ok (Ret.flat rfl) rfl fun d h hR => ?_
      · simp only [go_sem, simprocAttr]
      obtain ⟨rfl, rfl⟩ := hR
      refine kont_of_hx cx_ok hb 200 ?_
      simp only [go_sem, simprocAttr]
end Go.Fg.X
/- What the program writes is what the document's fields come to; ScriptEncodes. No conditions. -/
namespace Go.Fg.X
set_option linter.unusedVariables false
open Go.Proofs Go.Fg
set_option maxRecDepth 100000
set_option linter.unusedSimpArgs false
/-- What goes through a coder comes to these fields' bytes. -/
def Fo {α : Type} (p : Prog α) (F : List Fd) : Prop := p.out.map (·.1) = fout F
theorem Fo.ret {α : Type} (a : α) : Fo (Prog.ret a) [] := rfl
theorem Fo.fld {α : Type} {v : Int} {k : Nat} {l m : Int} {c : Int → Prog α} {F : List Fd} {kk : Int} (hk : kk = k) (h : l ≤ v → v ≤ m → Fo (c v) F) : Fo (Prog.fld v k l m c) (⟨v, kk, l, m⟩ :: F) := by
  subst hk
  simp only [Fo, Prog.out, fout, Int.toNat_natCast]
  by_cases hb : v < l ∨ m < v
  · rw [if_pos hb, if_pos hb]; rfl
  · rw [if_neg hb, if_neg hb]
    have h := h (by omega) (by omega)
    simp only [Fo] at h
    rw [← h]
    cases (c v).out <;> rfl
theorem Fo.bind {α β : Type} {p : Prog α} {f : α → Prog β} {F G : List Fd} (hp : Fo p F) (hf : ∀ r, p.out = some r → Fo (f r.2) G) : Fo (p.bind f) (F ++ G) := by
  simp only [Fo] at hp hf ⊢
  rw [Prog.out_bind, fout_app, ← hp]
  simp only [bindO]
  cases ho : p.out with
  | none => rfl
  | some r =>
    have h := hf r ho
    simp only [Option.map_some]
    rw [← h]
    cases (f r.2).out <;> rfl
theorem Fo.bindE {α β : Type} {p : Prog α} {f : α → Prog β} {F G L : List Fd} (hp : Fo p F) (e : F ++ G = L) (hf : ∀ r, p.out = some r → Fo (f r.2) G) : Fo (p.bind f) L := e ▸ Fo.bind hp hf
theorem Fo.to {α : Type} {p : Prog α} {F G : List Fd} (h : Fo p F) (e : F = G) : Fo p G := e ▸ h
theorem pcurve_fo (x : Cv) : Fo (pcurve x) (fcurve x) := Fo.fld rfl fun _ _ => Fo.fld rfl fun _ _ => Fo.fld rfl fun _ _ => Fo.ret _
theorem phead_fo (x : Hd) : Fo (phead x) (fhead x) := Fo.fld rfl fun _ _ => Fo.fld rfl fun _ _ => Fo.fld rfl fun _ _ => Fo.fld rfl fun _ _ => Fo.ret _
theorem ppacket_fo (x : Pk) : Fo (ppacket x) (⟨x.iD, 8, 0, 18446744073709551615⟩ :: fnum x.len 2 1 16384 :: fhead ⟨x.head0, x.head1, x.head2, x.head3⟩) := by
  refine Fo.fld rfl fun _ _ => Fo.fld rfl fun _ _ => ?_
  exact Fo.bindE (phead_fo _) (List.append_nil _) fun r _ => Fo.ret _
theorem prule_fo (x : Rul) : Fo (prule x) (frule x) := by
  refine Fo.bindE (G := fhead ⟨x.want0, x.want1, x.want2, x.want3⟩ ++ [fnum x.cls 4 0 65536]) (phead_fo _) (by rw [frule, List.append_assoc]) fun r _ => ?_
  refine Fo.bindE (G := [fnum x.cls 4 0 65536]) (phead_fo _) rfl fun r _ => ?_
  exact Fo.fld rfl fun _ _ => Fo.ret _
theorem pclass_fo (x : Kls) : Fo (pclass x) ([fnum x.iD 4 0 65536, fnum x.parent 4 0 65536, fnum (leafI x.leaf) 1 0 1] ++ fcurve x.rt ++ fcurve x.ls ++ fcurve x.ul ++ [fnum x.pkts 1 0 64, fnum x.bytes 4 0 1048576]) := by
  have hl : fnum (leafI x.leaf) 1 0 1 = ⟨leafI x.leaf, 1, 0, 1⟩ := by
    rw [fnum, wrapu_id (by cases x.leaf <;> decide) (by cases x.leaf <;> decide)]
  rw [hl]
  refine Fo.fld rfl fun _ _ => Fo.fld rfl fun _ _ => Fo.fld rfl fun _ _ => ?_
  refine Fo.bindE (G := fcurve x.ls ++ fcurve x.ul ++ [fnum x.pkts 1 0 64, fnum x.bytes 4 0 1048576]) (pcurve_fo x.rt) (by simp) fun r _ => ?_
  refine Fo.bindE (G := fcurve x.ul ++ [fnum x.pkts 1 0 64, fnum x.bytes 4 0 1048576]) (pcurve_fo x.ls) (by simp) fun r _ => ?_
  refine Fo.bindE (G := [fnum x.pkts 1 0 64, fnum x.bytes 4 0 1048576]) (pcurve_fo x.ul) rfl fun r _ => ?_
  exact Fo.fld rfl fun _ _ => Fo.fld rfl fun _ _ => Fo.ret _
theorem pchange_fo (x : Chg) : Fo (pchange x) (fchange x) := by
  refine Fo.fld rfl fun _ _ => ?_
  exact Fo.bindE (pclass_fo x.cls) (List.append_nil _) fun r _ => Fo.ret _
theorem ploop_fo {α : Type} [Inhabited α] {one : α → Prog α} {f : α → List Fd} (h1 : ∀ x, Fo (one x) (f x)) (l : List α) : ∀ (n i : Nat) (out : List α), i + n = l.length → Fo (ploop one l n i out) ((l.drop i).flatMap f)
  | 0, i, out, h => by
    rw [List.drop_eq_nil_of_le (by omega)]; exact Fo.ret _
  | n + 1, i, out, h => by
    have hd : l.drop i = l.getD i default :: l.drop (i + 1) := by
      rw [List.drop_eq_getElem_cons (by omega)]; simp [List.getD_eq_getElem?_getD, show i < l.length by omega]
    rw [hd, List.flatMap_cons]
    exact Fo.bind (h1 _) fun r _ => ploop_fo h1 l n (i + 1) _ (by omega)
theorem plist_fo {α : Type} [Inhabited α] {one : α → Prog α} {f : α → List Fd} (h1 : ∀ x, Fo (one x) (f x)) (l : List α) (hl : l.length < 9223372036854775808) : Fo (plist one l) (fnum l.length 1 0 32 :: l.flatMap f) := by
  rw [fnum, wrapu_id (by omega) (by omega)]
  refine Fo.fld rfl fun _ _ => ?_
  rw [Int.toNat_natCast]
  exact ploop_fo h1 l l.length 0 [] (by omega)
theorem pop_fo {x : Opn} (hx : I64 x.kind) (h1 : x.changes.length < 9223372036854775808) (h2 : x.rules.length < 9223372036854775808) : Fo (pop x) (fop x) := by
  rw [fop]
  refine Fo.fld rfl fun hl hm => ?_
  rw [fop2]
  have hk := wrap_back hx (by decide) hl hm
  rw [hk] at hl hm ⊢
  have hc : x.kind = 1 ∨ x.kind = 2 ∨ x.kind = 3 ∨ x.kind = 4 := by omega
  rcases hc with e | e | e | e
  · rw [e, if_pos rfl]
    exact Fo.bindE (plist_fo pchange_fo x.changes h1) (List.append_nil _) fun r _ => Fo.ret _
  · rw [e, if_neg (by decide), if_pos rfl]
    exact Fo.bindE (plist_fo prule_fo x.rules h2) (List.append_nil _) fun r _ => Fo.ret _
  · rw [e, if_neg (by decide), if_neg (by decide), if_pos rfl]
    exact Fo.bindE (ppacket_fo x.packet) (List.append_nil _) fun r _ => Fo.ret _
  · rw [e, if_neg (by decide), if_neg (by decide), if_neg (by decide), if_pos rfl]
    exact Fo.fld rfl fun _ _ => Fo.ret _
theorem psloop_fo (l : List Opn) (h1 : ∀ o ∈ l, I64 o.kind ∧ o.changes.length < 9223372036854775808 ∧ o.rules.length < 9223372036854775808) : ∀ (n i : Nat) (out : List Opn), i + n = l.length → Fo (psloop l n i out) ((l.drop i).flatMap fop)
  | 0, i, out, h => by
    rw [List.drop_eq_nil_of_le (by omega)]; exact Fo.ret _
  | n + 1, i, out, h => by
    have hd : l.drop i = l.getD i default :: l.drop (i + 1) := by
      rw [List.drop_eq_getElem_cons (by omega)]; simp [List.getD_eq_getElem?_getD, show i < l.length by omega]
    rw [hd, List.flatMap_cons]
    obtain ⟨a, b, c⟩ := h1 _ (getD_mem l default i (by omega))
    exact Fo.bind (pop_fo a b c) fun r _ => psloop_fo l h1 n (i + 1) _ (by omega)
theorem pscript_fo {x : Scr} (hx : Scr.Ok x) (hm : scrMz x.ops ≤ 1048576) : Fo (pscript x) (fields x) := by
  have hol : x.ops.length ≤ 1048576 := by
    have : ∀ l : List Opn, l.length ≤ scrMz l := by
      intro l
      induction l with
      | nil => simp [scrMz]
      | cons a l ih => simp only [scrMz, List.map_cons, List.sum_cons, List.length_cons, opMz] at ih ⊢; omega
    have := this x.ops
    omega
  have hn : fnum (x.ops.length : Int) 2 0 1000 = ⟨x.ops.length, 2, 0, 1000⟩ := by rw [fnum, wrapu_id (by omega) (by omega)]
  rw [fields, hn]
  refine Fo.fld rfl fun _ _ => Fo.fld rfl fun _ _ => Fo.fld rfl fun _ _ => ?_
  rw [Int.toNat_natCast]
  refine Fo.bindE (psloop_fo x.ops (fun o ho => by
    have := mem_mz ho
    simp only [opMz] at this
    exact ⟨i64_wf (hx.2.1.2 o ho).1, by omega, by omega⟩) x.ops.length 0 [] (by omega)) (List.append_nil _) fun r _ => Fo.ret _
theorem enc_num {α : Type} : ∀ (p : Prog α) (s : encM.σ), (encM.err s = 0 ∨ encM.err s = 4) → (encM.err (p.run encM s).1 = 0 ∨ encM.err (p.run encM s).1 = 4)
  | .ret _, s, h => h
  | .fld v k l m c, s, h => by
    rw [Prog.run_fld]
    refine enc_num _ _ ?_
    by_cases hb : v < l ∨ m < v
    · rw [show encM.step s v k l m = _ from estepB_bad s k hb]; exact .inr rfl
    · by_cases he : (show ESt from s).err = 0
      · rw [show encM.step s v k l m = _ from estepB_ok k hb he]; exact .inl rfl
      · rw [show encM.step s v k l m = _ from estepB_err k hb he]; exact h
  | .chk c, s, h => by rw [Prog.run_chk]; exact enc_num _ _ h
/-- What the program writes, or that it writes nothing, is what the document says. -/
theorem encV_rencV {x : Scr} (hx : Scr.Ok x) (hm : scrMz x.ops ≤ 1048576) : if (rencV x).2 = true then encV x = ((rencV x).1, 0) else encV x = ([], 4) := by
  have h1 := pscript_fo hx hm
  have h2 := encV_of (x := x)
  simp only [Fo] at h1
  simp only [rencV, ← h1]
  cases ho : (pscript x).out with
  | none =>
    rw [ho] at h2
    simp only [Option.map_none]
    rw [if_neg (by decide)]
    have h3 : (encV x).2 = 4 := by
      have h4 := enc_num (pscript x) (⟨0, 0, []⟩ : ESt) (.inl rfl)
      have hd : encV x = (let r := (pscript x).run encM (⟨0, 0, []⟩ : ESt); if encM.err r.1 = 0 then ((show ESt from r.1).out, 0) else ([], encM.err r.1)) := rfl
      rw [hd] at h2 ⊢
      simp only at h2 ⊢
      rcases h4 with h4 | h4
      · rw [if_pos h4] at h2; exact absurd rfl h2.1
      · rw [if_neg (by rw [h4]; decide)]; exact h4
    exact Prod.ext h2.2 h3
  | some r =>
    rw [ho] at h2
    simp only [Option.map_some]
    rw [if_pos trivial]
    exact h2
end Go.Fg.X
/- ScriptEncodes, walked. No conditions. -/
namespace Go.Fg.X
set_option linter.unusedVariables false
open Go.Proofs Go.Fg
set_option maxRecDepth 100000
set_option linter.unusedSimpArgs false
theorem scriptEncodes_ok {x : Scr} (hx : Scr.Ok x) (hm : scrMz x.ops ≤ 1048576) : AFn Try.prog 7 [.agg x.cells] (Ret (dbool true)) := by
  have cf := few29_ok x
  have b1 : ∀ n : Int, (n == n) = true := fun n => by simp
  have b2 : ∀ n : Int, (n != n) = false := fun n => by simp
  generalize hfew : few29 x = b at *
  cases b with
  | false =>
    refine AFn_hxk 0 cx_ok 200 Try.func7 rfl Try.ntmps7 Try.results7 rfl fun base w hb => ?_
    simp only [go_sem, simprocAttr]
    refine kont_call hb fn23 rfl ?_ cf (Ret.flat rfl) rfl fun d h hR => ?_
    · simp only [go_sem, simprocAttr]
    obtain ⟨rfl, rfl⟩ := hR
    refine kont_of_hx cx_ok hb 200 ?_
    simp only [go_sem, simprocAttr]
    refine kont_call hb fn19 rfl ?_ five_ok (Ret.flat rfl) rfl fun d h hR => ?_
    · simp only [go_sem, simprocAttr]
    obtain ⟨rfl, rfl⟩ := hR
    refine kont_of_hx cx_ok hb 200 ?_
    simp only [go_sem, simprocAttr]
  | true =>
    have c1 := encode_ok hx
    have c2 := rencode_ok hx hm
    have hol : x.ops.length ≤ 1048576 := by
      have : ∀ l : List Opn, l.length ≤ scrMz l := by
        intro l
        induction l with
        | nil => simp [scrMz]
        | cons a l ih => simp only [scrMz, List.map_cons, List.sum_cons, List.length_cons, opMz] at ih ⊢; omega
      have := this x.ops
      omega
    have hos : ∀ o ∈ x.ops, o.changes.length ≤ 1048576 ∧ o.rules.length ≤ 1048576 := fun o ho => by
      have := mem_mz ho
      simp only [opMz] at this
      omega
    have c3 := splain_ok x (by omega) (fun o ho => by have := hos o ho; omega)
    have he := encV_rencV hx hm
    refine AFn_hxk 0 cx_ok 200 Try.func7 rfl Try.ntmps7 Try.results7 rfl fun base w hb => ?_
    simp only [go_sem, simprocAttr]
    refine kont_call hb fn23 rfl ?_ cf (Ret.flat rfl) rfl fun d h hR => ?_
    · simp only [go_sem, simprocAttr]
    obtain ⟨rfl, rfl⟩ := hR
    refine kont_of_hx cx_ok hb 200 ?_
    simp only [go_sem, simprocAttr]
    refine kont_callM hb [] fn24 rfl ?_ c1 rfl fun d h hR => ?_
    · simp only [go_sem, simprocAttr]
    obtain ⟨rfl, rfl⟩ := hR
    simp only [go_sem, simprocAttr]
    refine kont_of_hx cx_ok hb 200 ?_
    simp only [go_sem, simprocAttr]
    refine kont_call hb fn25 rfl ?_ c2 (Ret.flat rfl) rfl fun d h hR => ?_
    · simp only [go_sem, simprocAttr]
    obtain ⟨rfl, rfl⟩ := hR
    refine kont_of_hx cx_ok hb 200 ?_
    simp only [go_sem, simprocAttr]
    refine kont_callM hb [] fn26 rfl ?_ c3 rfl fun d h hR => ?_
    · simp only [go_sem, simprocAttr]
    obtain ⟨rfl, rfl⟩ := hR
    simp only [go_sem, simprocAttr]
    refine kont_of_hx cx_ok hb 200 ?_
    simp only [go_sem, simprocAttr]
    simp only [go_sem, simprocAttr, plainS, List.length_map, b2, bne_self_eq_false]
    refine kont_forF (G := Nat) [1, 2, 3, 4, 5, 6, 37, 38] (fun k => True) (fun k γ => [(39, dint k)]) (fun k γ => [⟨.one, 0, 3, 1, fun _ => x.cells⟩, ⟨.one, 0, 2, 1, fun _ => [dstr (rencV x).1, dbool (rencV x).2]⟩, ⟨.one, 0, 3, 1, fun _ => [dint x.config.t, dint x.config.lmax, .imm 10 x.ops.length (Opn.rows (x.ops.map plainO))]⟩]) (x.ops.length) (0) rfl (Weak.to 3 (by (simp only [go_sem, simprocAttr]) <;> simp)) trivial ?_
    intro k γ hk _
    refine kont_of_hx cx_ok hb 200 ?_
    simp only [go_sem, simprocAttr]
    first | refine hite_lt hk (fun hk1 => ?_) (fun hk1 => ?_) | refine hite_ltI hk (fun hk1 => ?_) (fun hk1 => ?_)
    · have hmp := getD_map plainO x.ops default default k hk1
      have ho := hos _ (getD_mem x.ops default k hk1)
      have hwr := wrap_succ (k := k) (by omega)
      have c4 := rplain_ok (x.ops.getD k default)
      have c5 := same_self (plainO (x.ops.getD k default)) (by
        simp only [plainO]
        repeat' split
        all_goals simp only [List.length_nil] <;> omega) (by
        simp only [plainO]
        repeat' split
        all_goals simp only [List.length_nil] <;> omega)
      simp only [go_sem, simprocAttr, hk1, decide_true, hmp]
      refine kont_hax cx_ok hb 200 mixed [(0, true), (1, true), (2, true), (3, true), (4, true), (5, true), (6, false), (7, false), (8, true)] (by kernel_rfl) (by kernel_rfl) ?_
      simp only [go_sem, simprocAttr]
      refine ⟨hk1, ?_⟩
      refine AX_callC hb fn28 rfl ?_ c4 rfl fun d h hR => ?_
      · simp only [go_sem, simprocAttr]
      obtain ⟨rfl, rfl⟩ := hR
      simp only [go_sem, simprocAttr]
      refine AX_of_hax cx_ok hb ?_
      simp only [go_sem, simprocAttr]
      refine AX_callC hb fn27 rfl ?_ c5 rfl fun d h hR => ?_
      · simp only [go_sem, simprocAttr]
      obtain ⟨rfl, rfl⟩ := hR
      simp only [go_sem, simprocAttr]
      refine AX_of_hax cx_ok hb ?_
      simp only [go_sem, simprocAttr]
      repeat (refine And.intro (by first | assumption | omega) ?_)
      refine ⟨_, Weak.to 3 (by (simp only [go_sem, simprocAttr, hwr]) <;> simp), ForS.mk (γ) (trivial)⟩
    · simp only [go_sem, simprocAttr]
      refine kont_of_hx cx_ok hb 200 ?_
      simp only [go_sem, simprocAttr]
      have hE : ((bytesS []).toList == (ByteArray.mk #[]).toList) = true := by rw [show bytesS [] = ByteArray.mk #[] from rfl]; exact beq_self_eq_true _
      have b3 : ∀ s : List UInt8, (s == s) = true := fun s => beq_self_eq_true s
      cases hr : (rencV x).2 with
      | true =>
        rw [hr, if_pos rfl] at he
        simp only [go_sem, simprocAttr, hr, he, b3, beq_self_eq_true]
        refine kont_call hb fn19 rfl ?_ five_ok (Ret.flat rfl) rfl fun d h hR => ?_
        · simp only [go_sem, simprocAttr]
        obtain ⟨rfl, rfl⟩ := hR
        refine kont_of_hx cx_ok hb 200 ?_
        simp only [go_sem, simprocAttr]
      | false =>
        rw [hr, if_neg (by decide)] at he
        simp only [go_sem, simprocAttr, hr, he, hE]
        refine kont_call hb fn19 rfl ?_ five_ok (Ret.flat rfl) rfl fun d h hR => ?_
        · simp only [go_sem, simprocAttr]
        obtain ⟨rfl, rfl⟩ := hR
        refine kont_of_hx cx_ok hb 200 ?_
        simp only [go_sem, simprocAttr]
end Go.Fg.X
/- Readings with their bulk: how much an argument holds. No conditions: laws. -/
namespace Go.Fg
set_option linter.unusedSimpArgs false
set_option linter.unusedVariables false
open Go.RowKit (Below)
structure Bulk where
  f : {H : Type} → DataW H → Nat
  fs : {H : Type} → List (DataW H) → Nat
  nil : ∀ {H : Type}, fs ([] : List (DataW H)) = 0
  cons : ∀ {H : Type} (d : DataW H) (r : List (DataW H)), fs (d :: r) = f d + fs r
  agg : ∀ {H : Type} (l : List (DataW H)), f (.agg l) = fs l + 1
  slice : ∀ {H : Type} (l m : List (DataW H)), f (.slice l m) = fs l + fs m + 1
  pos : ∀ {H : Type} (d : DataW H), 1 ≤ f d
  nilV : ∀ {H : Type}, f (.nil : DataW H) = 1
def RdB (B : Bulk) (P : Program) (t : TypeId) {α : Type} (ok : α → Prop) (enc : α → List D) (mz : α → Nat) : Prop :=
  ∀ {H : Type} {en : TypeId × Value → H} {w : World} {base : Nat} {held : Bool} (m : Nat) (cs : List Value) (x : DataW H × List MemPlace), DataW.trod en P w base (fun _ => true) held m t cs = some x →
    ∃ a, ok a ∧ (enc a).length = cs.length ∧ mz a ≤ B.f x.1 ∧ ∀ j, j < cs.length → Cl (fun _ => True) w (nth (enc a) j) (nthV cs j)
theorem RdB.of {B : Bulk} {P : Program} {t : TypeId} {α : Type} {ok : α → Prop} {enc : α → List D} (r : Rd P t ok enc) : RdB B P t ok enc (fun _ => 1) := by
  intro H en w base held m cs x h
  obtain ⟨a, h1, h2, h3⟩ := r m cs x h
  exact ⟨a, h1, h2, B.pos _, h3⟩
theorem RdB.map {B : Bulk} {P : Program} {t : TypeId} {α β : Type} {ok : α → Prop} {enc : α → List D} {mz : α → Nat} (r : RdB B P t ok enc mz) (g : α → β) {ok' : β → Prop} {enc' : β → List D} {mz' : β → Nat} (he : ∀ a, enc' (g a) = enc a) (ho : ∀ a, ok a → ok' (g a)) (hm : ∀ a, mz' (g a) ≤ mz a) : RdB B P t ok' enc' mz' := by
  intro H en w base held m cs x h
  obtain ⟨a, h1, h2, h4, h3⟩ := r m cs x h
  exact ⟨g a, ho a h1, by rw [he]; exact h2, Nat.le_trans (hm a) h4, by rw [he]; exact h3⟩
def RdFB (B : Bulk) (P : Program) (fs : List Field) (off tot : Nat) {α : Type} (ok : α → Prop) (enc : α → List D) (mz : α → Nat) : Prop :=
  ∀ {H : Type} {en : TypeId × Value → H} {w : World} {base : Nat} {held : Bool} (m : Nat) (cs : List Value) (xs : List (DataW H × List MemPlace)), cs.length = tot → xs.length = fs.length →
    (∀ (i : Nat) (f : Field), fs[i]? = some f → DataW.trod en P w base (fun _ => true) held m f.type ((cs.drop f.offset).take (P.cellsOf f.type)) = xs[i]?) →
    ∃ a, ok a ∧ off + (enc a).length = tot ∧ mz a ≤ B.fs (xs.map (·.1)) ∧ ∀ j, off + j < tot → Cl (fun _ => True) w (nth (enc a) j) (nthV cs (off + j))
theorem RdFB.nil {B : Bulk} {P : Program} {tot : Nat} : RdFB B P [] tot tot (fun _ : Unit => True) (fun _ => []) (fun _ => 0) := by
  intro H en w base held m cs xs hl hx h
  exact ⟨(), trivial, rfl, Nat.zero_le _, fun j hj => by omega⟩
theorem RdFB.cons {B : Bulk} {P : Program} {f : Field} {fs : List Field} {off off' tot : Nat} {α β : Type} {ok : α → Prop} {enc : α → List D} {mz : α → Nat} {ok' : β → Prop} {enc' : β → List D} {mz' : β → Nat} (r : RdB B P f.type ok enc mz) (rs : RdFB B P fs off' tot ok' enc' mz')
    (ho : f.offset = off) (hc : off + P.cellsOf f.type = off') (ht : off' ≤ tot) : RdFB B P (f :: fs) off tot (fun ab : α × β => ok ab.1 ∧ ok' ab.2) (fun ab => enc ab.1 ++ enc' ab.2) (fun ab => mz ab.1 + mz' ab.2) := by
  intro H en w base held m cs xs hl hxl h
  match xs, hxl with
  | x :: xs, hxl =>
    have hx := h 0 f rfl
    obtain ⟨a, a1, a2, a4, a3⟩ := r m _ x hx
    obtain ⟨b, b1, b2, b4, b3⟩ := rs m cs xs hl (by simpa using hxl) fun i g hg => h (i + 1) g hg
    have hlen : ((cs.drop f.offset).take (P.cellsOf f.type)).length = P.cellsOf f.type := by simp; omega
    rw [hlen] at a2 a3
    refine ⟨(a, b), ⟨a1, b1⟩, by simp; omega, by rw [List.map_cons, B.cons]; show mz a + mz' b ≤ _; omega, fun j hj => ?_⟩
    by_cases h1 : j < P.cellsOf f.type
    · have := a3 j h1
      have e1 : nth (enc a ++ enc' b) j = nth (enc a) j := nth_append_lt (by omega)
      have e2 : nthV ((cs.drop f.offset).take (P.cellsOf f.type)) j = nthV cs (off + j) := by
        simp only [nthV, List.getD_eq_getElem?_getD, List.getElem?_take, if_pos h1, List.getElem?_drop, ho]
      show Cl _ w (nth (enc a ++ enc' b) j) _
      rw [e1, ← e2]; exact this
    · have e1 : nth (enc a ++ enc' b) j = nth (enc' b) (j - P.cellsOf f.type) := by rw [nth_append_ge (by omega), a2]
      have := b3 (j - P.cellsOf f.type) (by omega)
      show Cl _ w (nth (enc a ++ enc' b) j) _
      rw [e1, show off + j = off' + (j - P.cellsOf f.type) by omega]; exact this
theorem RdB.struct {B : Bulk} {P : Program} {t : TypeId} {fs : Array Field} {tot : Nat} {α : Type} {ok : α → Prop} {enc : α → List D} {mz : α → Nat} (ht : P.underlying t = some (.struct fs)) (hc : P.cellsOf t = tot) (r : RdFB B P fs.toList 0 tot ok enc mz) : RdB B P t ok enc (fun a => mz a + 1) := by
  intro H en w base held m cs x h
  obtain ⟨xs, m', rfl, rfl, hl, hxl, hf⟩ := DataW.trod_struct ht h
  obtain ⟨a, a1, a2, a4, a3⟩ := r m' cs xs (by omega) (by simpa using hxl) fun i f hf' => hf i f (by simpa using hf')
  exact ⟨a, a1, by omega, by rw [B.agg]; show mz a + 1 ≤ _; omega, fun j hj => by have := a3 j (by omega); rwa [Nat.zero_add] at this⟩
theorem Bulk.sum {B : Bulk} {H : Type} {α : Type} {mz : α → Nat} {f : Nat → α} {D : Nat → DataW H} : ∀ (l : List Nat), (∀ i ∈ l, mz (f i) ≤ B.f (D i)) → ((l.map f).map mz).sum ≤ B.fs (l.map D)
  | [], _ => Nat.zero_le _
  | i :: l, h => by
    have h1 := Bulk.sum (B := B) (mz := mz) (f := f) (D := D) l fun j hj => h j (List.mem_cons_of_mem _ hj)
    have h2 := h i (by simp)
    simp only [List.map_cons, List.sum_cons, B.cons]; omega
theorem RdB.slice {B : Bulk} {P : Program} {t e : TypeId} {α : Type} [Inhabited α] {ok : α → Prop} {enc : α → List D} {mz : α → Nat} (sz : Nat) (ht : P.underlying t = some (.slice e)) (hc : P.cellsOf e = sz) (hpos : 0 < sz) (r : RdB B P e ok enc mz) :
    RdB B P t (fun l : List α => l.length ≤ maxLen ∧ ∀ a ∈ l, ok a) (fun l => [.imm sz l.length fun i => enc (l.getD i default)]) (fun l => (l.map mz).sum + 1) := by
  intro H en w base held m cs x h
  rcases Deep.open_slice ht h with ⟨rfl, rfl⟩ | ⟨a, len, cap, m, n', D', Pl, rfl, hb, hl, hm, hmm, hxe, hel⟩
  · refine ⟨[], ⟨by simp, by simp⟩, rfl, by rw [B.nilV]; simp, fun j hj => ?_⟩
    obtain rfl : j = 0 := by simpa using hj
    exact .imm _ _ _ _ _ 0 0 (fun _ _ => Go.undef) (fun h => by simp at h) (by simp) (fun i hi => by simp at hi) (fun i j hi => by simp at hi) (fun i j hi => by simp at hi)
  · simp only [if_true] at hmm
    have key : ∀ i, ∃ ac : α × List Value, i < len → ok ac.1 ∧ (enc ac.1).length = sz ∧ ac.2.length = sz ∧ mz ac.1 ≤ B.f (D' i) ∧ (∀ j, j < sz → w.cell? (a.add (i * sz + j)) = some (nthV ac.2 j)) ∧ ∀ j, j < sz → Cl (fun _ => True) w (nth (enc ac.1) j) (nthV ac.2 j) := fun i => by
      by_cases hi : i < len
      · obtain ⟨cs', h1, h2⟩ := hel i (by omega)
        obtain ⟨x, hx, hxl, hxz, hxc⟩ := r n' cs' _ h2
        obtain ⟨_, hlen, hcell⟩ := World.cells?_some h1
        have hl2 : cs'.length = sz := by omega
        refine ⟨(x, cs'), fun _ => ⟨hx, (by show (enc x).length = sz; omega), hl2, hxz, fun j hj => ?_, fun j hj => hxc j (by omega)⟩⟩
        have := hcell j (by omega)
        rw [Deep.add_add, hc] at this
        rw [this]
        simp [nthV, List.getD_eq_getElem?_getD, List.getElem?_eq_getElem (show j < cs'.length by omega)]
      · exact ⟨(default, []), fun h => absurd h hi⟩
    obtain ⟨f, hf⟩ := Classical.axiomOfChoice key
    have hlen : ((List.range len).map fun i => (f i).1).length = len := by simp
    have hget : ∀ i, i < len → ((List.range len).map fun i => (f i).1).getD i default = (f i).1 := fun i hi => by simp [List.getD_eq_getElem?_getD, hi]
    refine ⟨(List.range len).map fun i => (f i).1, ⟨by rw [hlen]; omega, fun x hx => ?_⟩, rfl, ?_, fun j hj => ?_⟩
    · obtain ⟨i, hi, rfl⟩ := List.mem_map.1 hx
      exact (hf i (List.mem_range.1 hi)).1
    · have hs := Bulk.sum (B := B) (mz := mz) (f := fun i => (f i).1) (D := D') (List.range len) fun i hi => (hf i (List.mem_range.1 hi)).2.2.2.1
      rw [hxe]
      show _ + 1 ≤ B.f (.slice _ _)
      rw [B.slice]; omega
    · obtain rfl : j = 0 := by simpa using hj
      show Cl _ w (.imm sz ((List.range len).map fun i => (f i).1).length fun i => enc (((List.range len).map fun i => (f i).1).getD i default)) (.slice (some a) len cap)
      rw [hlen]
      have hspot : 0 < len → a = ⟨a.block, a.off, none⟩ := fun h0 => by
        have h1 := (hf 0 h0).2.2.2.2.1 0 hpos
        have h2 := World.cell?_spot h1
        obtain ⟨b, o, sp⟩ := a
        simp [Addr.add] at h2
        subst h2; rfl
      refine .imm _ _ _ _ _ a.block a.off (fun i j => nthV (f i).2 j) (fun h0 => by rw [← hspot h0]) hl (fun i hi => ?_) (fun i j hi hj => ⟨trivial, ?_⟩) (fun i j hi hj => ?_)
      · rw [hget i hi]; exact (hf i hi).2.1
      · have h1 := (hf i hi).2.2.2.2.1 j hj
        rw [hspot (by omega)] at h1
        rw [← h1]
        congr 1
        simp only [Addr.add]
        split <;> simp_all
      · rw [hget i hi]; exact (hf i hi).2.2.2.2.2 j hj
theorem RdB.many {B : Bulk} {P : Program} {t : TypeId} {α : Type} {ok : α → Prop} {enc : α → List D} {mz : α → Nat} (r : RdB B P t ok enc mz) {H : Type} {en : TypeId × Value → H} {w : World} {base : Nat} {held : Bool} {cs : Array Value} {d : DataW H} {ps : List MemPlace}
    (h : DataW.Trod en P w base (fun _ => true) held t (.agg cs) d ps) : ∃ a, ok a ∧ mz a ≤ B.f d ∧ Cl (fun _ => True) w (.agg (enc a)) (.agg cs) := by
  obtain ⟨m, hm⟩ := h
  have e : (Value.agg cs).cells.toList = cs.toList := rfl
  rw [e] at hm
  obtain ⟨a, h1, h2, h4, h3⟩ := r m _ _ hm
  have := Cl.agg (N := fun _ => True) (w := w) (enc a) cs.toList h2.symm (fun i hi => h3 i (by omega))
  exact ⟨a, h1, h4, by simpa using this⟩
end Go.Fg
/- A script read with its bulk. No conditions. -/
namespace Go.Fg.X
set_option linter.unusedSimpArgs false
set_option linter.unusedVariables false
open Go.Proofs Go.Fg
set_option maxRecDepth 100000
theorem sum_one {α : Type} : ∀ l : List α, (l.map fun _ => 1).sum = l.length
  | [] => rfl
  | a :: l => by rw [List.map_cons, List.sum_cons, sum_one l, List.length_cons]; omega
theorem rdOpnB (B : Bulk) : RdB B Try.prog 67 Opn.Ok Opn.cells (fun o => 1 + o.changes.length + o.rules.length) :=
  RdB.map (RdB.struct (tot := 10) Try.underlying67 (by kernel_rfl) (RdFB.cons (RdB.of (Rd.int .i64 Try.underlying3)) (RdFB.cons (RdB.slice 15 Try.underlying64 (by kernel_rfl) (by decide) (RdB.of rdChg)) (RdFB.cons (RdB.slice 9 Try.underlying65 (by kernel_rfl) (by decide) (RdB.of rdRul)) (RdFB.cons (RdB.of rdPk) (RdFB.cons (RdB.of (Rd.int .u64 Try.underlying38)) RdFB.nil rfl (by kernel_rfl) (by decide)) rfl (by kernel_rfl) (by decide)) rfl (by kernel_rfl) (by decide)) rfl (by kernel_rfl) (by decide)) rfl (by kernel_rfl) (by decide)))
    (fun p => ⟨p.1, p.2.1, p.2.2.1, p.2.2.2.1, p.2.2.2.2.1⟩) (fun _ => rfl) (fun _ h => ⟨h.1, h.2.1, h.2.2.1, h.2.2.2.1, h.2.2.2.2.1, trivial⟩) (fun a => by
      dsimp only
      rw [sum_one, sum_one]
      omega)
theorem rdScrB (B : Bulk) : RdB B Try.prog 49 Scr.Ok Scr.cells (fun x => (x.ops.map fun o => 1 + o.changes.length + o.rules.length).sum) :=
  RdB.map (RdB.struct (tot := 3) Try.underlying49 (by kernel_rfl) (RdFB.cons (RdB.of rdCf) (RdFB.cons (RdB.slice 10 Try.underlying47 (by kernel_rfl) (by decide) (rdOpnB B)) RdFB.nil rfl (by kernel_rfl) (by decide)) rfl (by kernel_rfl) (by decide))) (fun p => ⟨p.1, p.2.1⟩) (fun _ => rfl) (fun _ h => ⟨h.1, h.2.1, trivial⟩) (fun a => by dsimp only; omega)
end Go.Fg.X
