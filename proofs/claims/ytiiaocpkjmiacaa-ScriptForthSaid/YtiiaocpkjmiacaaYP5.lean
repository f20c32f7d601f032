/- Walks of the functions that the statement reaches. No conditions: contracts and laws. -/
import Derived.Test.YtiiaocpkjmiacaaYP3
/- What is read may be; back and forth. Plain laws. No conditions. -/
namespace Go.Fg.X
set_option linter.unusedVariables false
open Go.Proofs Go.Fg
set_option maxRecDepth 100000
set_option linter.unusedSimpArgs false
theorem mk_u64 {n : Int} (h : 0 ≤ n) (h2 : n < 18446744073709551616) : (Lit.int .u64 n).wf = true := by
  have : IntKind.u64.min ≤ n ∧ n ≤ IntKind.u64.max := by
    simp only [show IntKind.u64.min = 0 from by decide, show IntKind.u64.max = 18446744073709551615 from by decide]; omega
  simpa [Lit.wf] using this
theorem mk_u16 {n : Int} (h : 0 ≤ n) (h2 : n < 65536) : (Lit.int .u16 n).wf = true := by
  have : IntKind.u16.min ≤ n ∧ n ≤ IntKind.u16.max := by
    simp only [show IntKind.u16.min = 0 from by decide, show IntKind.u16.max = 65535 from by decide]; omega
  simpa [Lit.wf] using this
theorem mk_i64 {n : Int} (h : I64 n) : (Lit.int .i64 n).wf = true := by
  have : IntKind.i64.min ≤ n ∧ n ≤ IntKind.i64.max := by
    obtain ⟨a, b⟩ := h
    simp only [show IntKind.i64.min = -9223372036854775808 from by decide, show IntKind.i64.max = 9223372036854775807 from by decide]; omega
  simpa [Lit.wf] using this
theorem rg_u64 {x l m : Int} (h : x = 0 ∨ (l ≤ x ∧ x ≤ m)) (hl : 0 ≤ l) (hm : m < 18446744073709551616) : (Lit.int .u64 x).wf = true := mk_u64 (by omega) (by omega)
theorem rg_u16 {x l m : Int} (h : x = 0 ∨ (l ≤ x ∧ x ≤ m)) (hl : 0 ≤ l) (hm : m < 65536) : (Lit.int .u16 x).wf = true := mk_u16 (by omega) (by omega)
theorem rg_i64 {x l m : Int} (h : x = 0 ∨ (l ≤ x ∧ x ≤ m)) (hl : 0 ≤ l) (hm : m < 9223372036854775808) : (Lit.int .i64 x).wf = true := mk_i64 ⟨by omega, by omega⟩
variable (M : Med)
theorem pcurve_res (x : Cv) (s : M.σ) : Cv.Ok ((pcurve x).run M s).2 := by
  simp only [pcurve, Prog.run]
  exact ⟨rg_u64 (M.rng _ _ _ _ _) (by decide) (by decide), rg_u64 (M.rng _ _ _ _ _) (by decide) (by decide), rg_u64 (M.rng _ _ _ _ _) (by decide) (by decide), trivial⟩
theorem phead_res (x : Hd) (s : M.σ) : Hd.Ok ((phead x).run M s).2 := by
  simp only [phead, Prog.run]
  exact ⟨rg_u16 (M.rng _ _ _ _ _) (by decide) (by decide), rg_u16 (M.rng _ _ _ _ _) (by decide) (by decide), rg_u16 (M.rng _ _ _ _ _) (by decide) (by decide), rg_u16 (M.rng _ _ _ _ _) (by decide) (by decide)⟩
theorem ppacket_res (x : Pk) (s : M.σ) : Pk.Ok ((ppacket x).run M s).2 := by
  simp only [ppacket, Prog.run, Prog.run_bind]
  obtain ⟨a, b, c, d⟩ := phead_res M ⟨x.head0, x.head1, x.head2, x.head3⟩ (M.step (M.step s x.iD 8 0 18446744073709551615).1 (IntKind.u64.wrap x.len) 2 1 16384).1
  exact ⟨rg_u64 (M.rng _ _ _ _ _) (by decide) (by decide), rg_i64 (M.rng _ _ _ _ _) (by decide) (by decide), a, b, c, d, trivial⟩
theorem prule_res (x : Rul) (s : M.σ) : Rul.Ok ((prule x).run M s).2 := by
  simp only [prule, Prog.run, Prog.run_bind]
  obtain ⟨a, b, c, d⟩ := phead_res M ⟨x.mask0, x.mask1, x.mask2, x.mask3⟩ s
  obtain ⟨a', b', c', d'⟩ := phead_res M ⟨x.want0, x.want1, x.want2, x.want3⟩ ((phead ⟨x.mask0, x.mask1, x.mask2, x.mask3⟩).run M s).1
  exact ⟨a, b, c, d, a', b', c', d', rg_i64 (M.rng _ _ _ _ _) (by decide) (by decide), trivial⟩
theorem pclass_res (x : Kls) (s : M.σ) : Kls.Ok ((pclass x).run M s).2 := by
  simp only [pclass, Prog.run, Prog.run_bind]
  exact ⟨rg_i64 (M.rng _ _ _ _ _) (by decide) (by decide), rg_i64 (M.rng _ _ _ _ _) (by decide) (by decide), trivial, pcurve_res M _ _, pcurve_res M _ _, pcurve_res M _ _, rg_i64 (M.rng _ _ _ _ _) (by decide) (by decide), rg_i64 (M.rng _ _ _ _ _) (by decide) (by decide), trivial⟩
theorem pchange_res (x : Chg) (s : M.σ) : Chg.Ok ((pchange x).run M s).2 := by
  simp only [pchange, Prog.run, Prog.run_bind]
  exact ⟨rg_i64 (M.rng _ _ _ _ _) (by decide) (by decide), pclass_res M _ _, trivial⟩
theorem ploop_res {α : Type} [Inhabited α] {one : α → Prog α} {ok : α → Prop} (h1 : ∀ x s, ok ((one x).run M s).2) (l : List α) : ∀ (n i : Nat) (out : List α) (s : M.σ), (∀ a ∈ out, ok a) → (∀ a ∈ ((ploop one l n i out).run M s).2, ok a) ∧ ((ploop one l n i out).run M s).2.length ≤ out.length + n
  | 0, i, out, s, h => ⟨h, Nat.le_refl _⟩
  | n + 1, i, out, s, h => by
    rw [run_ploop]
    cases M.err s != 0 with
    | true => simp
    | false =>
      obtain ⟨a, b⟩ := ploop_res h1 l n (i + 1) (out ++ [((one (l.getD i default)).run M s).2]) ((one (l.getD i default)).run M s).1 (fun a ha => by
        rw [List.mem_append, List.mem_singleton] at ha
        rcases ha with ha | rfl
        · exact h a ha
        · exact h1 _ _)
      exact ⟨a, by simp at b ⊢; omega⟩
theorem plist_res {α : Type} [Inhabited α] {one : α → Prog α} {ok : α → Prop} (h1 : ∀ x s, ok ((one x).run M s).2) (l : List α) (s : M.σ) : (∀ a ∈ ((plist one l).run M s).2, ok a) ∧ ((plist one l).run M s).2.length ≤ 32 := by
  have h := M.rng s (l.length : Int) 1 0 32
  simp only [plist, Prog.run]
  obtain ⟨a, b⟩ := ploop_res M h1 l (M.step s (l.length : Int) 1 0 32).2.toNat 0 [] (M.step s (l.length : Int) 1 0 32).1 (by simp)
  exact ⟨a, by simp at b; omega⟩
theorem pk_ok0 : Pk.Ok default := ⟨by decide, by decide, by decide, by decide, by decide, by decide, trivial⟩
def Opn.Fine (x : Opn) : Prop := Opn.Ok x ∧ x.changes.length ≤ 32 ∧ x.rules.length ≤ 32
theorem pop_res (x : Opn) (s : M.σ) : Opn.Fine ((pop x).run M s).2 := by
  have hs : (32 : Nat) ≤ maxLen := by decide
  have hm : ∀ n, n ≤ 32 → n ≤ maxLen := fun n h => Nat.le_trans h hs
  simp only [pop, Prog.run]
  generalize (M.step s (IntKind.u64.wrap x.kind) 1 1 4).1 = t
  generalize (M.step s (IntKind.u64.wrap x.kind) 1 1 4).2 = k
  by_cases e1 : k = 1
  · subst e1
    rw [run_pop2_1]
    obtain ⟨a, b⟩ := plist_res M (pchange_res M) x.changes t
    exact ⟨⟨show (Lit.int .i64 1).wf = true by decide, ⟨hm _ b, a⟩, ⟨Nat.zero_le _, fun a ha => by cases ha⟩, pk_ok0, show (Lit.int .u64 0).wf = true by decide, trivial⟩, b, Nat.zero_le _⟩
  by_cases e2 : k = 2
  · subst e2
    rw [run_pop2_2]
    obtain ⟨a, b⟩ := plist_res M (prule_res M) x.rules t
    exact ⟨⟨show (Lit.int .i64 2).wf = true by decide, ⟨Nat.zero_le _, fun a ha => by cases ha⟩, ⟨hm _ b, a⟩, pk_ok0, show (Lit.int .u64 0).wf = true by decide, trivial⟩, Nat.zero_le _, b⟩
  by_cases e3 : k = 3
  · subst e3
    rw [run_pop2_3]
    exact ⟨⟨show (Lit.int .i64 3).wf = true by decide, ⟨Nat.zero_le _, fun a ha => by cases ha⟩, ⟨Nat.zero_le _, fun a ha => by cases ha⟩, ppacket_res M _ _, show (Lit.int .u64 0).wf = true by decide, trivial⟩, Nat.zero_le _, Nat.zero_le _⟩
  by_cases e4 : k = 4
  · subst e4
    rw [run_pop2_4]
    exact ⟨⟨show (Lit.int .i64 4).wf = true by decide, ⟨Nat.zero_le _, fun a ha => by cases ha⟩, ⟨Nat.zero_le _, fun a ha => by cases ha⟩, pk_ok0, rg_u64 (M.rng _ _ _ _ _) (by decide) (by decide), trivial⟩, Nat.zero_le _, Nat.zero_le _⟩
  · rw [pop2, if_neg e1, if_neg e2, if_neg e3, if_neg e4]
    exact ⟨⟨show (Lit.int .i64 0).wf = true by decide, ⟨Nat.zero_le _, fun a ha => by cases ha⟩, ⟨Nat.zero_le _, fun a ha => by cases ha⟩, pk_ok0, show (Lit.int .u64 0).wf = true by decide, trivial⟩, Nat.zero_le _, Nat.zero_le _⟩
theorem psloop_res (l : List Opn) : ∀ (n i : Nat) (out : List Opn) (s : M.σ), (∀ a ∈ out, Opn.Fine a) → ∀ L, ((psloop l n i out).run M s).2 = some L → (∀ a ∈ L, Opn.Fine a) ∧ L.length ≤ out.length + n
  | 0, i, out, s, h, L, e => by simp only [psloop, Prog.run_ret, Option.some.injEq] at e; subst e; exact ⟨h, Nat.le_refl _⟩
  | n + 1, i, out, s, h, L, e => by
    rw [run_psloop] at e
    cases he : M.err s != 0 with
    | true => rw [he] at e; cases e
    | false =>
      rw [he, cond_false] at e
      obtain ⟨a, b⟩ := psloop_res l n (i + 1) (out ++ [((pop (l.getD i default)).run M s).2]) ((pop (l.getD i default)).run M s).1 (fun a ha => by
        rw [List.mem_append, List.mem_singleton] at ha
        rcases ha with ha | rfl
        · exact h a ha
        · exact pop_res M _ _) L e
      exact ⟨a, by simp at b ⊢; omega⟩
def Scr.Fine (x : Scr) : Prop := Scr.Ok x ∧ x.ops.length ≤ 1000 ∧ ∀ o ∈ x.ops, o.changes.length ≤ 32 ∧ o.rules.length ≤ 32
theorem zscr_fine : zscr.Fine := ⟨zscr_ok, by simp [zscr], by simp [zscr]⟩
theorem pscript_res (x : Scr) (s : M.σ) : Scr.Fine ((pscript x).run M s).2 := by
  simp only [pscript, Prog.run, Prog.run_bind]
  have h1 := M.rng s (IntKind.u64.wrap x.config.t) 4 1 65536
  generalize M.step s (IntKind.u64.wrap x.config.t) 4 1 65536 = r1 at *
  have h2 := M.rng r1.1 (IntKind.u64.wrap x.config.lmax) 4 1 16384
  generalize M.step r1.1 (IntKind.u64.wrap x.config.lmax) 4 1 16384 = r2 at *
  have h3 := M.rng r2.1 (x.ops.length : Int) 2 0 1000
  generalize M.step r2.1 (x.ops.length : Int) 2 0 1000 = r3 at *
  have h4 := psloop_res M x.ops r3.2.toNat 0 [] r3.1 (by simp)
  generalize (psloop x.ops r3.2.toNat 0 []).run M r3.1 = r4 at *
  cases he : r4.2 with
  | none => exact zscr_fine
  | some L =>
    obtain ⟨a, b⟩ := h4 L he
    simp only [List.length_nil] at b
    exact ⟨⟨⟨rg_i64 h1 (by decide) (by decide), rg_i64 h2 (by decide) (by decide), trivial⟩, ⟨Nat.le_trans (show L.length ≤ 1000 by omega) (by decide), fun o ho => (a o ho).1⟩, trivial⟩, by show L.length ≤ 1000; omega, fun o ho => (a o ho).2⟩
theorem opn_I {o : Opn} (h : Opn.Ok o) : o.I :=
  ⟨i64_wf h.1, fun c hc => ⟨i64_wf (h.2.1.2 c hc).1, i64_wf (h.2.1.2 c hc).2.1.1, i64_wf (h.2.1.2 c hc).2.1.2.1, i64_wf (h.2.1.2 c hc).2.1.2.2.2.2.2.2.1, i64_wf (h.2.1.2 c hc).2.1.2.2.2.2.2.2.2.1⟩, fun c hc => i64_wf (h.2.2.1.2 c hc).2.2.2.2.2.2.2.2.1, i64_wf h.2.2.2.1.2.1⟩
theorem scr_I {x : Scr} (h : Scr.Ok x) : x.I := ⟨i64_wf h.1.1, i64_wf h.1.2.1, fun o ho => opn_I (h.2.1.2 o ho)⟩
theorem beN_bytes (n : Nat) (v : Int) : Bytes (beN n v) := by
  intro x hx
  obtain ⟨i, _, rfl⟩ := List.mem_map.1 hx
  omega
theorem out_bytes {α : Type} : ∀ (p : Prog α) (r : List Int × α), p.out = some r → Bytes r.1
  | .ret a, r, h => by simp only [Prog.out, Option.some.injEq] at h; subst h; intro x hx; simp at hx
  | .fld v k l m c, r, h => by
    rw [Prog.out] at h
    split at h
    · cases h
    · cases hc : (c v).out with
      | none => rw [hc] at h; cases h
      | some q =>
        rw [hc] at h; cases h
        intro x hx
        rw [List.mem_append] at hx
        rcases hx with hx | hx
        · exact beN_bytes k v x hx
        · exact out_bytes (c v) q hc x hx
  | .chk c, r, h => by rw [Prog.out] at h; exact out_bytes (c false) r h
theorem out_len {α : Type} : ∀ (p : Prog α) (n : Nat) (r : List Int × α), p.Fits n → p.out = some r → r.1.length ≤ n
  | .ret a, n, r, _, h => by simp only [Prog.out, Option.some.injEq] at h; subst h; simp
  | .fld v k l m c, n, r, w, h => by
    rw [Prog.out] at h
    split at h
    · cases h
    · rename_i hb
      cases hc : (c v).out with
      | none => rw [hc] at h; cases h
      | some q =>
        rw [hc] at h; cases h
        have h1 := out_len (c v) (n - 8) q (w.2.2 v (.inr ⟨by omega, by omega⟩)) hc
        have h2 := w.1
        have h3 := w.2.1
        rw [List.length_append, beN_len]; omega
  | .chk c, n, r, w, h => by rw [Prog.out] at h; exact out_len (c false) n r (w false) h
/-- What is written is read as the plain script; what is cut off is short; what is more is long. -/
theorem back {x : Scr} (hx : Scr.Ok x) (he : (encV x).2 = 0) : ∃ bs, encV x = (bs, 0) ∧ Bytes bs ∧ bs.length ≤ 4294967296 ∧ decV bs = (plainS x, 0) ∧ decV (bs ++ [120]) = (zscr, 2) ∧ (∀ n, n < bs.length → decV (bs.take n) = (zscr, 3)) ∧ x.ops.length ≤ 1000 := by
  have h := encV_of (x := x)
  cases ho : (pscript x).out with
  | none => rw [ho] at h; exact absurd he h.1
  | some r =>
    rw [ho] at h
    obtain ⟨hv, hl⟩ := pscript_val (scr_I hx) ho
    have hw := pscript_wf x
    refine ⟨r.1, h, out_bytes _ _ ho, ?_, ?_, ?_, ?_, hl⟩
    · have hfit : (pscript x).Fits 3856024 := by
        simp only [pscript, Prog.Fits]
        refine ⟨by decide, by decide, fun a _ => ⟨by decide, by decide, fun b _ => ⟨by decide, by decide, fun n hn => ?_⟩⟩⟩
        have h0 := Prog.fits_bind (fun o => Prog.ret (psend a b o)) 0 (fun _ => trivial) _ _ (psloop_fits x.ops n.toNat 0 [])
        exact Prog.fits_le _ h0 (by omega)
      have := out_len _ _ _ hfit ho
      omega
    · rw [decV_eq, ← decVy_eq x]
      have e := dec_run _ hw r [] ho
      rw [List.append_nil] at e
      simp only [decVy]
      rw [show (pscript x).run decM (⟨r.1, 0⟩ : DSt) = (dS [] 0, r.2) from e, hv]
      rfl
    · rw [decV_eq, ← decVy_eq x]
      have e := dec_run _ hw r [120] ho
      simp only [decVy]
      rw [show (pscript x).run decM (⟨r.1 ++ [120], 0⟩ : DSt) = (dS [120] 0, r.2) from e]
      rfl
    · intro n hn
      rw [decV_eq, ← decVy_eq x]
      obtain ⟨y, e⟩ := dec_cut _ hw r n ho hn
      simp only [decVy]
      rw [show ((pscript x).run decM (⟨r.1.take n, 0⟩ : DSt)).1 = dS y 3 from e]
      rfl
theorem decV_cases (bs : List Int) : ((decV bs).2 = 0 ∧ (decV bs).1.Fine) ∨ ((decV bs).2 ≠ 0 ∧ (decV bs).1 = zscr) := by
  have hr := pscript_res decM zscr (⟨bs, 0⟩ : DSt)
  simp only [decV]
  split
  · split
    · exact .inr ⟨by show ¬(2 : Int) = 0; decide, rfl⟩
    · exact .inl ⟨rfl, hr⟩
  · rename_i h; exact .inr ⟨h, rfl⟩
/-- What is read is written as it was, and is plain. -/
theorem forth {bs : List Int} (hb : Bytes bs) (he : (decV bs).2 = 0) : encV (decV bs).1 = (bs, 0) ∧ plainS (decV bs).1 = (decV bs).1 ∧ (decV bs).1.Fine := by
  have hr := pscript_rb zscr (⟨bs, 0⟩ : DSt) hb
  have hf := pscript_res decM zscr (⟨bs, 0⟩ : DSt)
  have hd : decV bs = (let r := (pscript zscr).run decM (⟨bs, 0⟩ : DSt)
    if dE r.1 = 0 then (if 0 < (dR r.1).length then (zscr, 2) else (r.2, 0)) else (zscr, dE r.1)) := rfl
  rw [hd] at he ⊢
  simp only at he ⊢
  by_cases h1 : dE ((pscript zscr).run decM (⟨bs, 0⟩ : DSt)).1 = 0
  · rw [if_pos h1] at he ⊢
    by_cases h2 : 0 < (dR ((pscript zscr).run decM (⟨bs, 0⟩ : DSt)).1).length
    · rw [if_pos h2] at he; exact absurd he (by show ¬(2 : Int) = 0; decide)
    · rw [if_neg h2]
      obtain ⟨_, _, b, ho, hs⟩ := hr h1
      have h3 : dR ((pscript zscr).run decM (⟨bs, 0⟩ : DSt)).1 = [] := List.length_eq_zero_iff.1 (by omega)
      rw [h3, List.append_nil] at hs
      have hs : bs = b := hs
      have h4 := encV_of (x := ((pscript zscr).run decM (⟨bs, 0⟩ : DSt)).2)
      rw [ho] at h4
      exact ⟨by rw [h4, hs], ((pscript_val (scr_I hf.1) ho).1).symm, hf⟩
  · rw [if_neg h1] at he
    exact absurd he h1
end Go.Fg.X
/- ScriptForth and ScriptBack, walked. No conditions. -/
namespace Go.Fg.X
set_option linter.unusedVariables false
open Go.Proofs Go.Fg
set_option maxRecDepth 100000
set_option linter.unusedSimpArgs false
theorem scriptForth_ok {s : List Int} (hby : Bytes s) : AFn Try.prog 9 [dstr s] (Ret (dbool true)) := by
  have hsz := bytesS_size s
  have b1 : ∀ n : Int, (n == n) = true := fun n => by simp
  by_cases hl : 20000 < s.length
  · have e1 : decide ((20000 : Int) < s.length) = true := decide_eq_true (by omega)
    refine AFn_hxk 0 cx_ok 200 Try.func9 rfl Try.ntmps9 Try.results9 rfl fun base w hb => ?_
    simp only [go_sem, simprocAttr]
    simp only [go_sem, simprocAttr, hsz, e1]
    refine kont_call hb fn19 rfl ?_ five_ok (Ret.flat rfl) rfl fun d h hR => ?_
    · simp only [go_sem, simprocAttr]
    obtain ⟨rfl, rfl⟩ := hR
    refine kont_of_hx cx_ok hb 200 ?_
    simp only [go_sem, simprocAttr]
  · have e1 : decide ((20000 : Int) < s.length) = false := decide_eq_false (by omega)
    have c1 := decode_ok hby (by simp only [maxLen]; omega)
    have hf := forth hby
    have hc := decV_cases s
    generalize decV s = r at *
    rcases hc with ⟨h0, hfine⟩ | ⟨h0, hz⟩
    · have e2 : (r.2 != 0) = false := by rw [h0]; rfl
      obtain ⟨f1, f2, f3⟩ := hf h0
      have c2 := encode_ok hfine.1
      rw [f1] at c2
      have c3 := splain_ok r.1 (by have := f3.2.1; omega) (fun o ho => by have := f3.2.2 o ho; omega)
      rw [f2] at c3
      have c4 := alike_ok r.1 (by have := f3.2.1; omega) (fun o ho => by have := f3.2.2 o ho; omega)
      refine AFn_hxk 0 cx_ok 200 Try.func9 rfl Try.ntmps9 Try.results9 rfl fun base w hb => ?_
      simp only [go_sem, simprocAttr]
      simp only [go_sem, simprocAttr, hsz, e1]
      refine kont_callM hb [] fn20 rfl ?_ c1 rfl fun d h hR => ?_
      · simp only [go_sem, simprocAttr]
      obtain ⟨rfl, rfl⟩ := hR
      simp only [go_sem, simprocAttr]
      refine kont_of_hx cx_ok hb 200 ?_
      simp only [go_sem, simprocAttr]
      simp only [go_sem, simprocAttr, e2]
      refine kont_callM hb [] fn24 rfl ?_ c2 rfl fun d h hR => ?_
      · simp only [go_sem, simprocAttr]
      obtain ⟨rfl, rfl⟩ := hR
      simp only [go_sem, simprocAttr]
      refine kont_of_hx cx_ok hb 200 ?_
      simp only [go_sem, simprocAttr]
      refine kont_hax cx_ok hb 200 mixed [(0, true), (1, true), (2, true), (3, true), (4, true), (5, true), (6, true), (7, true), (8, true), (9, true), (10, false), (11, false), (12, true), (13, true), (14, false), (15, true), (16, true)] (by kernel_rfl) (by kernel_rfl) ?_
      simp only [go_sem, simprocAttr]
      refine AX_callC hb fn26 rfl ?_ c3 rfl fun d h hR => ?_
      · simp only [go_sem, simprocAttr]
      obtain ⟨rfl, rfl⟩ := hR
      simp only [go_sem, simprocAttr]
      refine AX_of_hax cx_ok hb ?_
      simp only [go_sem, simprocAttr]
      refine AX_callC hb fn22 rfl ?_ c4 rfl fun d h hR => ?_
      · simp only [go_sem, simprocAttr]
      obtain ⟨rfl, rfl⟩ := hR
      simp only [go_sem, simprocAttr]
      refine AX_of_hax cx_ok hb ?_
      simp only [go_sem, simprocAttr]
      refine AX_call hb fn19 rfl ?_ five_ok (Ret.flat rfl) rfl fun d h hR => ?_
      · simp only [go_sem, simprocAttr]
      obtain ⟨rfl, rfl⟩ := hR
      refine AX_of_hax cx_ok hb ?_
      simp only [go_sem, simprocAttr]
    · have e2 : (r.2 != 0) = true := by simpa using h0
      refine AFn_hxk 0 cx_ok 200 Try.func9 rfl Try.ntmps9 Try.results9 rfl fun base w hb => ?_
      simp only [go_sem, simprocAttr]
      simp only [go_sem, simprocAttr, hsz, e1]
      refine kont_callM hb [] fn20 rfl ?_ c1 rfl fun d h hR => ?_
      · simp only [go_sem, simprocAttr]
      obtain ⟨rfl, rfl⟩ := hR
      simp only [go_sem, simprocAttr]
      refine kont_of_hx cx_ok hb 200 ?_
      simp only [go_sem, simprocAttr]
      simp only [go_sem, simprocAttr, e2, hz, zscr, List.length_nil]
      refine kont_call hb fn19 rfl ?_ five_ok (Ret.flat rfl) rfl fun d h hR => ?_
      · simp only [go_sem, simprocAttr]
      obtain ⟨rfl, rfl⟩ := hR
      refine kont_of_hx cx_ok hb 200 ?_
      simp only [go_sem, simprocAttr]
def few29 (x : Scr) : Bool := few x 100 || ((x.ops.length : Int) == 1001)
theorem few29_ok (x : Scr) : AFn Try.prog 23 [.agg x.cells] (Ret (dbool (few29 x))) := by
  have c1 := few_ok x 100 (by decide)
  refine AFn_hxk 0 cx_ok 200 Try.func23 rfl Try.ntmps23 Try.results23 rfl fun base w hb => ?_
  simp only [go_sem, simprocAttr]
  refine kont_call hb fn46 rfl ?_ c1 (Ret.flat rfl) rfl fun d h hR => ?_
  · simp only [go_sem, simprocAttr]
  obtain ⟨rfl, rfl⟩ := hR
  refine kont_of_hx cx_ok hb 200 ?_
  simp only [go_sem, simprocAttr]
  refine hite_intro (fun e => ?_) (fun e => ?_)
  all_goals simp only [go_sem, simprocAttr, e, few29, Bool.true_or, Bool.false_or]
theorem few_small {x : Scr} (h : few x 100 = true) : x.ops.length ≤ 100 ∧ ∀ o ∈ x.ops, o.changes.length ≤ 40 ∧ o.rules.length ≤ 40 := by
  simp only [few, Bool.and_eq_true, decide_eq_true_eq, List.all_eq_true, fewO] at h
  exact h
theorem scriptBack_ok {x : Scr} (hx : Scr.Ok x) {cut : Int} (hcut : I64 cut) : AFn Try.prog 8 [.agg x.cells, dint cut] (Ret (dbool true)) := by
  have cf := few29_ok x
  generalize hfew : few29 x = b at *
  cases b with
  | false =>
    refine AFn_hxk 0 cx_ok 200 Try.func8 rfl Try.ntmps8 Try.results8 rfl fun base w hb => ?_
    simp only [go_sem, simprocAttr]
    refine kont_call hb fn23 rfl ?_ cf (Ret.flat rfl) rfl fun d h hR => ?_
    · simp only [go_sem, simprocAttr]
    obtain ⟨rfl, rfl⟩ := hR
    refine kont_of_hx cx_ok hb 200 ?_
    simp only [go_sem, simprocAttr]
    refine kont_call hb fn19 rfl ?_ five_ok (Ret.flat rfl) rfl fun d h hR => ?_
    · simp only [go_sem, simprocAttr]
    obtain ⟨rfl, rfl⟩ := hR
    refine kont_of_hx cx_ok hb 200 ?_
    simp only [go_sem, simprocAttr]
  | true =>
    have c1 := encode_ok hx
    by_cases he : (encV x).2 = 0
    · obtain ⟨bs, h1, h2, h3, h4, h5, h6, h7⟩ := back hx he
      rw [h1] at c1
      have hsz := bytesS_size bs
      have hsm : few x 100 = true := by
        simp only [few29, Bool.or_eq_true, beq_iff_eq] at hfew
        rcases hfew with h | h
        · exact h
        · omega
      obtain ⟨k1, k2⟩ := few_small hsm
      have c2 := decode_ok h2 (Nat.le_trans h3 (by decide))
      rw [h4] at c2
      have c3 := splain_ok x (by omega) (fun o ho => by have := k2 o ho; omega)
      have c4 := alike_self (plainS x) (by simp only [plainS, List.length_map]; omega) (fun o ho => by
        obtain ⟨p, hp, rfl⟩ := List.mem_map.1 ho
        have := k2 p hp
        simp only [plainO]
        repeat' split
        all_goals simp only [List.length_nil] <;> omega)
      have hb120 : Bytes (bs ++ [120]) := by
        intro y hy
        rw [List.mem_append, List.mem_singleton] at hy
        rcases hy with hy | rfl
        · exact h2 y hy
        · omega
      have c5 := decode_ok hb120 (by rw [List.length_append]; simp [maxLen]; omega)
      rw [h5] at c5
      have hx120 : bytesS bs ++ ⟨#[120]⟩ = bytesS (bs ++ [120]) := by rw [← bytesS_app]; rfl
      refine AFn_hxk 0 cx_ok 200 Try.func8 rfl Try.ntmps8 Try.results8 rfl fun base w hb => ?_
      simp only [go_sem, simprocAttr]
      refine kont_call hb fn23 rfl ?_ cf (Ret.flat rfl) rfl fun d h hR => ?_
      · simp only [go_sem, simprocAttr]
      obtain ⟨rfl, rfl⟩ := hR
      refine kont_of_hx cx_ok hb 200 ?_
      simp only [go_sem, simprocAttr]
      refine kont_callM hb [] fn24 rfl ?_ c1 rfl fun d h hR => ?_
      · simp only [go_sem, simprocAttr]
      obtain ⟨rfl, rfl⟩ := hR
      simp only [go_sem, simprocAttr]
      refine kont_of_hx cx_ok hb 200 ?_
      simp only [go_sem, simprocAttr]
      refine kont_callM hb [] fn20 rfl ?_ c2 rfl fun d h hR => ?_
      · simp only [go_sem, simprocAttr]
      obtain ⟨rfl, rfl⟩ := hR
      simp only [go_sem, simprocAttr]
      refine kont_of_hx cx_ok hb 200 ?_
      simp only [go_sem, simprocAttr]
      refine kont_hax cx_ok hb 200 mixed [(0, true), (1, true), (2, true), (3, true), (4, true), (5, false), (6, false), (7, true), (8, true)] (by kernel_rfl) (by kernel_rfl) ?_
      simp only [go_sem, simprocAttr]
      refine AX_callC hb fn26 rfl ?_ c3 rfl fun d h hR => ?_
      · simp only [go_sem, simprocAttr]
      obtain ⟨rfl, rfl⟩ := hR
      simp only [go_sem, simprocAttr]
      refine AX_of_hax cx_ok hb ?_
      simp only [go_sem, simprocAttr]
      refine AX_callC hb fn22 rfl ?_ c4 rfl fun d h hR => ?_
      · simp only [go_sem, simprocAttr]
      obtain ⟨rfl, rfl⟩ := hR
      simp only [go_sem, simprocAttr]
      refine AX_of_hax cx_ok hb ?_
      simp only [go_sem, simprocAttr]
      refine ⟨by rw [hsz]; simp; omega, ?_⟩
      simp only [go_sem, simprocAttr, hx120]
      refine kont_callM hb [] fn20 rfl ?_ c5 rfl fun d h hR => ?_
      · simp only [go_sem, simprocAttr]
      obtain ⟨rfl, rfl⟩ := hR
      simp only [go_sem, simprocAttr]
      refine kont_of_hx cx_ok hb 200 ?_
      simp only [go_sem, simprocAttr]
      by_cases hn : cut < 0
      · have e3 : decide (cut < 0) = true := decide_eq_true hn
        simp only [go_sem, simprocAttr, e3]
        refine kont_call hb fn19 rfl ?_ five_ok (Ret.flat rfl) rfl fun d h hR => ?_
        · simp only [go_sem, simprocAttr]
        obtain ⟨rfl, rfl⟩ := hR
        refine kont_of_hx cx_ok hb 200 ?_
        simp only [go_sem, simprocAttr]
      have e3 : decide (cut < 0) = false := decide_eq_false hn
      obtain ⟨n, rfl⟩ := Int.eq_ofNat_of_zero_le (show 0 ≤ cut by omega)
      by_cases hn2 : n < bs.length
      · have e4 : decide (bs.length ≤ n) = false := decide_eq_false (by omega)
        have c6 := decode_ok (bytes_take h2 n) (by rw [List.length_take]; exact Nat.le_trans (Nat.min_le_right _ _) (Nat.le_trans h3 (by decide)))
        rw [h6 n hn2] at c6
        simp only [go_sem, simprocAttr, e3, hsz, e4]
        have hext : (bytesS bs).extract 0 n = bytesS (bs.take n) := by rw [bytesS_extract, List.drop_zero]
        refine ⟨by omega, ?_⟩
        simp only [go_sem, simprocAttr, hext]
        refine kont_callM hb [] fn20 rfl ?_ c6 rfl fun d h hR => ?_
        · simp only [go_sem, simprocAttr]
        obtain ⟨rfl, rfl⟩ := hR
        simp only [go_sem, simprocAttr]
        refine kont_of_hx cx_ok hb 200 ?_
        simp only [go_sem, simprocAttr]
        simp only [go_sem, simprocAttr, zscr, List.length_nil]
        refine kont_call hb fn19 rfl ?_ five_ok (Ret.flat rfl) rfl fun d h hR => ?_
        · simp only [go_sem, simprocAttr]
        obtain ⟨rfl, rfl⟩ := hR
        refine kont_of_hx cx_ok hb 200 ?_
        simp only [go_sem, simprocAttr]
      · have e4 : decide (bs.length ≤ n) = true := decide_eq_true (by omega)
        simp only [go_sem, simprocAttr, e3, hsz, e4]
        refine kont_call hb fn19 rfl ?_ five_ok (Ret.flat rfl) rfl fun d h hR => ?_
        · simp only [go_sem, simprocAttr]
        obtain ⟨rfl, rfl⟩ := hR
        refine kont_of_hx cx_ok hb 200 ?_
        simp only [go_sem, simprocAttr]
    · have e2 : ((encV x).2 != 0) = true := by simpa using he
      have hnil : (encV x).1 = [] := by
        have h := encV_of (x := x)
        cases ho : (pscript x).out with
        | none => rw [ho] at h; exact h.2
        | some r => rw [ho] at h; rw [h] at he; exact absurd rfl he
      rw [hnil] at c1
      refine AFn_hxk 0 cx_ok 200 Try.func8 rfl Try.ntmps8 Try.results8 rfl fun base w hb => ?_
      simp only [go_sem, simprocAttr]
      refine kont_call hb fn23 rfl ?_ cf (Ret.flat rfl) rfl fun d h hR => ?_
      · simp only [go_sem, simprocAttr]
      obtain ⟨rfl, rfl⟩ := hR
      refine kont_of_hx cx_ok hb 200 ?_
      simp only [go_sem, simprocAttr]
      refine kont_callM hb [] fn24 rfl ?_ c1 rfl fun d h hR => ?_
      · simp only [go_sem, simprocAttr]
      obtain ⟨rfl, rfl⟩ := hR
      simp only [go_sem, simprocAttr]
      refine kont_of_hx cx_ok hb 200 ?_
      simp only [go_sem, simprocAttr]
      have hE : ((bytesS []).toList == (ByteArray.mk #[]).toList) = true := by rw [show bytesS [] = ByteArray.mk #[] from rfl]; exact beq_self_eq_true _
      simp only [go_sem, simprocAttr, e2, hE]
      refine kont_call hb fn19 rfl ?_ five_ok (Ret.flat rfl) rfl fun d h hR => ?_
      · simp only [go_sem, simprocAttr]
      obtain ⟨rfl, rfl⟩ := hR
      refine kont_of_hx cx_ok hb 200 ?_
      simp only [go_sem, simprocAttr]
end Go.Fg.X
