/- Walks of the functions that the statement reaches. No conditions: contracts and laws. -/
import Derived.Test.YteijnoopdjoogaaGreatFgCopy
import Derived.Laws.BytesString
import Derived.LoopN
import Derived.Test.YteijnoopdjoogaaGreatFgTell
import Derived.Shelf.Sort.Plain
import Derived.Shelf.Slices.In.SortNone
import Derived.Lib.SortBridge
import Derived.Laws.BitsAllLaws
namespace Go.Fg
set_option linter.unusedSimpArgs false
set_option linter.unusedVariables false
open Go.RowKit (Below)
/-- The string of these bytes. -/
def bytesS (l : List Int) : ByteArray := l.foldl (fun r n => r.push (UInt8.ofNat n.toNat)) ByteArray.empty
section
variable {P : Program} {L : Lay} {base nt : Nat} {s : St} {o : Oper}
theorem str_ok (hL : LayOk P L) {src dst e : TypeId} {x : Operand} {a b c d : Nat} {zt zd : List Value} {y : Ty} (ho : o.op = .convert src dst x) (ht : ty L src = some ⟨.slice e, a, b, zt⟩) (hd : ty L dst = some ⟨.str, c, d, zd⟩) (hye : ty L e = some y) (hy : y.k = .int .u8)
    {n : Nat} {p : Prop} {rows : Nat → List D} (hsrc : psrc s.h (evalO s.fr x) = some (p, n, 1, rows)) (hp : p) {l : List Int} (hn : l.length = n) (hl : ∀ i, i < n → rows i = [.raw (.int .u8 (l.getD i 0))]) : PureOk P base nt o s (.raw (.string (bytesS l))) := by
  intro Z pl ac w r
  have hr := r.eval x
  obtain ⟨ad, cap, vs, S⟩ := psrc_ok r.o hr hsrc hp
  have hv := S.v
  refine ⟨_, .cl _ _ (.raw _), fun w' hw => ?_⟩
  have hval : ∀ i, i < n → vs i 0 = .int .u8 (l.getD i 0) := fun i hi => by
    have h1 := S.rel i 0 hi (by omega)
    rw [hl i hi] at h1
    exact inv_raw h1
  have hcv := run_convert_bytes_string (P := P) w' src dst e ad n cap (under_slice (hL _ _ ht) rfl) (under_int (hL _ _ hye) hy) (under_str (hL _ _ hd) rfl)
  have key : (Conv.bytesToString (.slice ad n cap)).run P w' = .ok (.string (bytesS l)) w' := by
    cases ad with
    | none =>
      have h0 : n = 0 := by
        rcases Nat.eq_zero_or_pos n with h | h
        · exact h
        · obtain ⟨_, _, hh, _⟩ := S.cell 0 0 h (by omega); cases hh
      have : l = [] := List.length_eq_zero_iff.1 (by omega)
      subst this
      subst h0; rfl
    | some a0 =>
      refine run_bytesToString w' a0 n cap l ?_
      have hcs : ∀ j v, (l.map (Value.int .u8))[j]? = some v → w'.cell? (a0.add j) = some v := fun j v hj => by
        have hj2 : j < n := by
          have h3 := (List.getElem?_eq_some_iff.1 hj).1
          rw [List.length_map, hn] at h3; exact h3
        obtain ⟨bb, q, hh, hc⟩ := S.cell j 0 hj2 (by omega)
        cases hh
        rw [List.getElem?_map, List.getElem?_eq_getElem (by omega)] at hj
        simp only [Option.map_some, Option.some.injEq] at hj
        subst hj
        have h4 := cell_ext hw hc
        rw [hval j hj2, List.getD_eq_getElem?_getD, List.getElem?_eq_getElem (by omega)] at h4
        simpa [add_mk] using h4
      have h5 := run_loadCells_list (P := P) (w := w') a0 (l.map (Value.int .u8)) hcs
      rw [List.length_map, hn] at h5
      simpa using h5
  simp [execOp, ho, hv, hcv, key]
end
section
variable {P : Program} {L : Lay} {base nt : Nat} {w0 : Start} {Q : Exit → St → Prop}
theorem kont_str (hL : LayOk P L) {k : List Item} {dst : Option Nat} {src dt e a b c d : Nat} {tyd : TypeId} {pos : String} {after : Array Edge} {gd : Option (Nat × Bool)} {r : List (Oper × G)} {s : St} {x : Operand} {zt zd : List Value} {y : Ty}
    (ht : ty L src = some ⟨.slice e, a, b, zt⟩) (hd : ty L dt = some ⟨.str, c, d, zd⟩) (hye : ty L e = some y) (hy : y.k = .int .u8) {n : Nat} {p : Prop} {rows : Nat → List D} (hsrc : psrc s.h (evalO s.fr x) = some (p, n, 1, rows)) (l : List Int) (hp : p ∧ l.length = n ∧ ∀ i, i < n → rows i = [.raw (.int .u8 (l.getD i 0))])
    (hdo : okO nt dst = true) (h1 : kont P base nt w0 Q (.ops r :: k) .normal ⟨putO s.fr dst (.raw (.string (bytesS l))), s.h⟩) :
    kont P base nt w0 Q (.ops ((⟨dst, .convert src dt x, tyd, pos, after, gd⟩, none) :: r) :: k) .normal s := by
  simp only [kont] at h1 ⊢
  exact AG_pure (str_ok hL rfl ht hd hye hy hsrc hp.1 hp.2.1 hp.2.2) hdo h1
theorem kont_str_nil (hL : LayOk P L) {k : List Item} {dst : Option Nat} {src dt e a b c d : Nat} {tyd : TypeId} {pos : String} {after : Array Edge} {gd : Option (Nat × Bool)} {r : List (Oper × G)} {s : St} {x : Operand} {zt zd : List Value} {y : Ty}
    (ht : ty L src = some ⟨.slice e, a, b, zt⟩) (hd : ty L dt = some ⟨.str, c, d, zd⟩) (hye : ty L e = some y) (hy : y.k = .int .u8) (hx : evalO s.fr x = .nil)
    (hdo : okO nt dst = true) (h1 : kont P base nt w0 Q (.ops r :: k) .normal ⟨putO s.fr dst (.raw (.string (bytesS []))), s.h⟩) :
    kont P base nt w0 Q (.ops ((⟨dst, .convert src dt x, tyd, pos, after, gd⟩, none) :: r) :: k) .normal s := by
  simp only [kont] at h1 ⊢
  refine AG_pure (?_ : PureOk P base nt _ s (.raw (.string (bytesS [])))) hdo h1
  intro Z pl ac w r
  have hr := r.eval x
  rw [hx] at hr
  obtain ⟨a0, hv⟩ := inv_nil hr
  refine ⟨_, .cl _ _ (.raw _), fun w' hw => ?_⟩
  have hcv := run_convert_bytes_string (P := P) w' src dt e a0 0 0 (under_slice (hL _ _ ht) rfl) (under_int (hL _ _ hye) hy) (under_str (hL _ _ hd) rfl)
  have key : (Conv.bytesToString (.slice a0 0 0)).run P w' = .ok (.string (bytesS [])) w' := by
    cases a0 with
    | none => rfl
    | some a1 =>
      refine run_bytesToString w' a1 0 0 [] ?_
      simp [loadCells, loadCellsFrom]
  simp [execOp, hv, hcv, key]
end

section
variable {Z : Nat → Prop}
/-- What is told of an object that is told as a value holds no more, and is no lie. -/
theorem RelV.stale {h : List Ob} {pl : List Pl} {w : World} {l : Nat} {o : Ob} {p : Pl} (ho : h[l]? = some o) (hp : pl[l]? = some p) (hk : o.kd.ty = 0) {d : D} {v : Value} (r : RelV Z h pl w d v) : RelV Z (h.set l o.gone) (pl.set l none) w d v := by
  have hpl : ∀ (l' : Nat), l' ≠ l → (pl.set l none)[l']? = pl[l']? := fun l' hl' => by rw [List.getElem?_set_ne (Ne.symm hl')]
  have haw : ∀ b, away pl b → away (pl.set l none) b := fun b hb l' q e => by
    by_cases e1 : l' = l
    · subst e1; rw [List.getElem?_set_self (ltp_of_some hp)] at e; cases e
    · rw [hpl l' e1] at e; exact hb l' q e
  have hfr : ∀ b, free Z pl b → free Z (pl.set l none) b := fun b hb => ⟨hb.1, haw b hb.2⟩
  have hself : (h.set l o.gone)[l]? = some o.gone := List.getElem?_set_self (lt_of_some ho)
  have hselfp : (pl.set l none)[l]? = some none := List.getElem?_set_self (ltp_of_some hp)
  induction r with
  | cl d v hc => exact .cl _ _ (hc.mono fun b hb _ => ⟨hfr b hb, rfl⟩)
  | ref l' g off len o' p' a cap ho' hp' hk' hg hs =>
    by_cases e : l' = l
    · subst e
      rw [ho] at ho'; cases ho'
      exact .ref _ g off len o.gone none a cap hself hselfp rfl (by simp [Ob.gone]; omega) (fun h1 => by simp [Ob.gone] at h1; omega)
    · exact .ref _ g off len o' p' a cap (by rw [List.getElem?_set_ne (Ne.symm e)]; exact ho') (by rw [hpl l' e]; exact hp') hk' hg hs
  | ptr l' g i j o' p' a ho' hp' hk' hg hs =>
    by_cases e : l' = l
    · subst e
      rw [ho] at ho'; cases ho'
      exact .ptr _ g i j o.gone none a hself hselfp rfl (by simp [Ob.gone]; omega) (fun h1 => by simp [Ob.gone] at h1; omega)
    · exact .ptr _ g i j o' p' a (by rw [List.getElem?_set_ne (Ne.symm e)]; exact ho') (by rw [hpl l' e]; exact hp') hk' hg hs
  | mref l' g o' p' b ho' hp' hk' hg hs =>
    by_cases e : l' = l
    · subst e
      rw [ho] at ho'; cases ho'
      exact absurd hk hk'.1
    · exact .mref _ g o' p' b (by rw [List.getElem?_set_ne (Ne.symm e)]; exact ho') (by rw [hpl l' e]; exact hp') hk' hg hs
  | clo f nf cs vs hl hr ih => exact .clo f nf cs vs hl ih
  | agg cs vs hl hr ih => exact .agg cs vs hl ih
  | tup cs vs hl hr ih => exact .tup cs vs hl ih
end

/-- Lent objects that are still of the generation in which they were lent. -/
def gensEq (F h : List Ob) : Prop := ∀ (l : Nat) (o : Ob), F[l]? = some o → ∃ o', h[l]? = some o' ∧ o'.gen = o.gen

/-- The rule, beside lent objects that are still where they were: the slice over the object l that slot t holds is told as a value. -/
theorem Weak.freezeAt {w0 : Start} (hF : w0.pl.length = w0.F.length) {fr : List (Nat × D)} {h : List Ob} (hgen : gensEq w0.F h) (t l : Nat) (hl : w0.F.length ≤ l) {o : Ob} {off len : Nat} (ht : get fr t = .ref l o.gen off len) (ho : h[l]? = some o) (hn : off + len ≤ o.n) (hk : o.kd.ty = 0) (hcl : ∀ i, i < o.n → (o.row i).all D.cl1 = true) :
    Weak w0 ⟨fr, h⟩ ⟨put fr t (.imm o.sz len (rowFrom off o.row)), h.set l o.gone⟩ := by
  intro Z z base nt pl a w r b
  have hlen : pl.length = h.length := r.o.len
  have hlp : l < pl.length := by have h1 := lt_of_some ho; omega
  have hp : pl[l]? = some pl[l] := List.getElem?_eq_getElem hlp
  generalize hpe : pl[l] = p at hp
  have hfresh : ∀ bb q : Nat, p = some (bb, q) → w0.w.heap.size ≤ bb := fun bb q e => by
    subst e
    rcases Nat.lt_or_ge bb w0.w.heap.size with hlt | hge
    · exfalso
      have hna : ¬ away w0.pl bb := fun ha => (b.2.1.old bb ha hlt).1 l q hp
      obtain ⟨l0, h1⟩ := Classical.not_forall.1 hna
      obtain ⟨q0, h2⟩ := Classical.not_forall.1 h1
      have h3 := Classical.not_not.1 h2
      have hl0 : l0 < w0.F.length := by rw [← hF]; exact ltp_of_some h3
      obtain ⟨o1, p1, k1, k2, k3, k4, k5⟩ := b.2.1.obj l0 _ _ (List.getElem?_eq_getElem hl0) h3
      obtain ⟨o2, k6, k7⟩ := hgen l0 _ (List.getElem?_eq_getElem hl0)
      rw [k6] at k1; cases k1
      obtain ⟨_, k8⟩ := k5 k7
      subst k8
      have := r.o.inj l0 l bb q0 q k2 hp
      omega
    · exact hge
  have hat : ∀ bb q, p = some (bb, q) → Z bb ∧ (∀ l' q', pl[l']? = some (some (bb, q')) → l' = l) ∧ CellsAt Z h pl w o bb q := fun bb q e => by
    have h1 := hfresh bb q e
    subst e
    exact ⟨b.2.2.own l bb q hp h1, fun l' q' e' => r.o.inj _ _ _ _ _ e' hp, (r.o.at_ l o bb q ho hp).2.cells hk⟩
  have hpl : ∀ (l' : Nat), l' ≠ l → (pl.set l none)[l']? = pl[l']? := fun l' hl' => by rw [List.getElem?_set_ne (Ne.symm hl')]
  have hself : (pl.set l none)[l]? = some none := List.getElem?_set_self hlp
  have hsub : ∀ l' bb q : Nat, (pl.set l none)[l']? = some (some (bb, q)) → l' ≠ l ∧ pl[l']? = some (some (bb, q)) := fun l' bb q e => by
    by_cases e1 : l' = l
    · subst e1; rw [hself] at e; cases e
    · exact ⟨e1, by rw [← hpl l' e1]; exact e⟩
  have hh : ∀ (l' : Nat) (o' : Ob), l' ≠ l → h[l']? = some o' → ∃ u : Ob, (h.set l o.gone)[l']? = some u ∧ u.gen = o'.gen ∧ u.sz = o'.sz ∧ u.kd.ty = o'.kd.ty := fun l' o' hne e =>
    ⟨o', by rw [List.getElem?_set_ne (Ne.symm hne)]; exact e, rfl, rfl, rfl⟩
  have K : Keep w0.F.length h pl (h.set l o.gone) (pl.set l none) := ⟨fun b' hb' l' q e => hb' l' q (hsub _ _ _ e).2, fun l' o' p' hl' ho' hp' => by
    have hne : l' ≠ l := by omega
    exact ⟨o', by rw [List.getElem?_set_ne (Ne.symm hne)]; exact ho', by rw [hpl l' hne]; exact hp', rfl, rfl, rfl⟩⟩
  refine ⟨pl.set l none, ⟨r.nt, r.defers, fun u => ?_, ⟨by simp [hlen], fun l1 l2 bb q q' e1 e2 => r.o.inj l1 l2 bb q q' (hsub _ _ _ e1).2 (hsub _ _ _ e2).2, fun l1 o1 h1 e1 => ?_, fun l1 o1 bb q h1 e1 => ?_⟩⟩, b.keep K⟩
  · show RelV Z _ _ w (get (put fr t _) u) _
    rw [get_put]
    by_cases e : u = t
    · subst e
      rw [if_pos rfl]
      have h1 := (r.fr u).fz ho hp hk hat hcl hh
      rw [ht] at h1
      have h2 : Nat.ble (off + len) o.n = true := by rw [Nat.ble_eq]; exact hn
      simpa only [D.fz, Nat.beq_refl, h2, Bool.and_self, cond_true] using h1
    · rw [if_neg e]; exact (r.fr u).stale ho hp hk
  · by_cases e2 : l1 = l
    · subst e2
      rw [List.getElem?_set_self (by omega)] at h1
      cases h1; rfl
    · rw [List.getElem?_set_ne (Ne.symm e2)] at h1
      rw [hpl l1 e2] at e1
      exact r.o.noRow l1 o1 h1 e1
  · obtain ⟨hne, e2⟩ := hsub _ _ _ e1
    rw [List.getElem?_set_ne (Ne.symm hne)] at h1
    obtain ⟨g1, x⟩ := r.o.at_ l1 o1 bb q h1 e2
    exact ⟨g1, x.to rfl rfl rfl rfl (fun i _ => rfl) fun i j v hi hj hr => hr.stale ho hp hk⟩

/-- The same, in all slots and objects at once. -/
theorem Weak.freezeB {w0 : Start} (hF : w0.pl.length = w0.F.length) {fr : List (Nat × D)} {h : List Ob} (hgen : gensEq w0.F h) (l : Nat) (hl : w0.F.length ≤ l) {o : Ob} (ho : h[l]? = some o) (hk : o.kd.ty = 0) (hcl : ∀ i, i < o.n → (o.row i).all D.cl1 = true) :
    Weak w0 ⟨fr, h⟩ ⟨fzFr l o.gen o.n o.sz o.row fr, (fzObs l o.gen o.n o.sz o.row h).set l o.gone⟩ := by
  intro Z z base nt pl a w r b
  have hlen : pl.length = h.length := r.o.len
  have hlp : l < pl.length := by have h1 := lt_of_some ho; omega
  have hp : pl[l]? = some pl[l] := List.getElem?_eq_getElem hlp
  generalize hpe : pl[l] = p at hp
  have hfresh : ∀ bb q : Nat, p = some (bb, q) → w0.w.heap.size ≤ bb := fun bb q e => by
    subst e
    rcases Nat.lt_or_ge bb w0.w.heap.size with hlt | hge
    · exfalso
      have hna : ¬ away w0.pl bb := fun ha => (b.2.1.old bb ha hlt).1 l q hp
      obtain ⟨l0, h1⟩ := Classical.not_forall.1 hna
      obtain ⟨q0, h2⟩ := Classical.not_forall.1 h1
      have h3 := Classical.not_not.1 h2
      have hl0 : l0 < w0.F.length := by rw [← hF]; exact ltp_of_some h3
      obtain ⟨o1, p1, k1, k2, k3, k4, k5⟩ := b.2.1.obj l0 _ _ (List.getElem?_eq_getElem hl0) h3
      obtain ⟨o2, k6, k7⟩ := hgen l0 _ (List.getElem?_eq_getElem hl0)
      rw [k6] at k1; cases k1
      obtain ⟨_, k8⟩ := k5 k7
      subst k8
      have := r.o.inj l0 l bb q0 q k2 hp
      omega
    · exact hge
  have hat : ∀ bb q, p = some (bb, q) → Z bb ∧ (∀ l' q', pl[l']? = some (some (bb, q')) → l' = l) ∧ CellsAt Z h pl w o bb q := fun bb q e => by
    have h1 := hfresh bb q e
    subst e
    exact ⟨b.2.2.own l bb q hp h1, fun l' q' e' => r.o.inj _ _ _ _ _ e' hp, (r.o.at_ l o bb q ho hp).2.cells hk⟩
  have hpl : ∀ (l' : Nat), l' ≠ l → (pl.set l none)[l']? = pl[l']? := fun l' hl' => by rw [List.getElem?_set_ne (Ne.symm hl')]
  have hself : (pl.set l none)[l]? = some none := List.getElem?_set_self hlp
  have hsub : ∀ l' bb q : Nat, (pl.set l none)[l']? = some (some (bb, q)) → l' ≠ l ∧ pl[l']? = some (some (bb, q)) := fun l' bb q e => by
    by_cases e1 : l' = l
    · subst e1; rw [hself] at e; cases e
    · exact ⟨e1, by rw [← hpl l' e1]; exact e⟩
  have hh : ∀ (l' : Nat) (o' : Ob), l' ≠ l → h[l']? = some o' → ∃ u, ((fzObs l o.gen o.n o.sz o.row h).set l o.gone)[l']? = some u ∧ u.gen = o'.gen ∧ u.sz = o'.sz ∧ u.kd.ty = o'.kd.ty := fun l' o' hne e =>
    ⟨o'.fz l o.gen o.n o.sz o.row, by rw [List.getElem?_set_ne (Ne.symm hne), fzObs_map, List.getElem?_map, e]; rfl, rfl, rfl, rfl⟩
  have K : Keep w0.F.length h pl ((fzObs l o.gen o.n o.sz o.row h).set l o.gone) (pl.set l none) := ⟨fun b' hb' l' q e => hb' l' q (hsub _ _ _ e).2, fun l' o' p' hl' ho' hp' => by
    have hne : l' ≠ l := by omega
    exact ⟨o'.fz l o.gen o.n o.sz o.row, by rw [List.getElem?_set_ne (Ne.symm hne), fzObs_map, List.getElem?_map, ho']; rfl, by rw [hpl l' hne]; exact hp', rfl, rfl, rfl⟩⟩
  refine ⟨pl.set l none, ⟨r.nt, r.defers, fun u => ?_, ⟨by simp [fzObs_map, hlen], fun l1 l2 bb q q' e1 e2 => r.o.inj l1 l2 bb q q' (hsub _ _ _ e1).2 (hsub _ _ _ e2).2, fun l1 o1 h1 e1 => ?_, fun l1 o1 bb q h1 e1 => ?_⟩⟩, b.keep K⟩
  · show RelV Z _ _ w (get (fzFr l o.gen o.n o.sz o.row fr) u) _
    rw [get_fzFr]
    exact (r.fr u).fz ho hp hk hat hcl hh
  · by_cases e2 : l1 = l
    · subst e2
      rw [List.getElem?_set_self (by rw [fzObs_map]; simp; omega)] at h1
      cases h1; rfl
    · rw [List.getElem?_set_ne (Ne.symm e2), fzObs_map, List.getElem?_map] at h1
      rw [hpl l1 e2] at e1
      obtain ⟨u, hu, rfl⟩ := Option.map_eq_some_iff.1 h1
      exact r.o.noRow l1 u hu e1
  · obtain ⟨hne, e2⟩ := hsub _ _ _ e1
    rw [List.getElem?_set_ne (Ne.symm hne), fzObs_map, List.getElem?_map] at h1
    obtain ⟨u, hu, rfl⟩ := Option.map_eq_some_iff.1 h1
    obtain ⟨g1, x⟩ := r.o.at_ l1 u bb q hu e2
    refine ⟨g1, x.to rfl rfl rfl rfl (fun i _ => fzL_length _ _ _ _ _ _) fun i j v hi hj hr => ?_⟩
    show RelV Z _ _ w (nth (fzL _ _ _ _ _ (u.row i)) j) v
    rw [nth_fzL _ _ _ _ _ _ _ hj]
    exact hr.fz ho hp hk hat hcl hh
mutual
/-- What names no object from k on is the same behind such a telling. -/
theorem upto_fz {k l g n sz : Nat} {row : Nat → List D} (hk : k ≤ l) : ∀ {d : D}, d.upto k = true → d.fz l g n sz row = d
  | .raw _, _ => rfl
  | .nil, _ => rfl
  | .undef, _ => rfl
  | .imm _ _ _, _ => rfl
  | .ip _, _ => rfl
  | .ref l' _ _ _, h => by
    simp only [D.upto, Nat.blt_eq] at h
    have : Nat.beq l' l = false := by rw [← Bool.not_eq_true, Nat.beq_eq]; omega
    simp only [D.fz, this, cond_false]
  | .ptr l' _ _ _, h => by
    simp only [D.upto, Nat.blt_eq] at h
    have : Nat.beq l' l = false := by rw [← Bool.not_eq_true, Nat.beq_eq]; omega
    simp only [D.fz, this, cond_false]
  | .mref l' _, h => by
    simp only [D.upto, Nat.blt_eq] at h
    have : Nat.beq l' l = false := by rw [← Bool.not_eq_true, Nat.beq_eq]; omega
    simp only [D.fz, this, cond_false]
  | .clo _ _ cs, h => by simp only [D.upto] at h; simp only [D.fz, uptoL_fz hk h]
  | .agg cs, h => by simp only [D.upto] at h; simp only [D.fz, uptoL_fz hk h]
  | .tup cs, h => by simp only [D.upto] at h; simp only [D.fz, uptoL_fz hk h]
theorem uptoL_fz {k l g n sz : Nat} {row : Nat → List D} (hk : k ≤ l) : ∀ {cs : List D}, uptoL k cs = true → fzL l g n sz row cs = cs
  | [], _ => rfl
  | d :: r, h => by
    simp only [uptoL, Bool.and_eq_true] at h
    simp only [fzL, upto_fz hk h.1, uptoL_fz hk h.2]
end
/-- What a call hands back, told otherwise, by what its value is. -/
theorem MFn.tellR {P : Program} {f : FuncId} {F : List Ob} {args : List D} {R R' : D → List Ob → Prop} (h : MFn P f F args R) (hr : ∀ d hh, R d hh → ∀ (Z : Nat → Prop) (pl : List Pl) (w : World) (v : Value), RelV Z hh pl w d v → ∃ d', RelV Z hh pl w d' v ∧ R' d' hh) : MFn P f F args R' := fun Z base w pl vs h1 h2 h3 hl hc =>
  (h Z base w pl vs h1 h2 h3 hl hc).mono fun _ _ ⟨v, d, hh, pl', k1, k2, k3, k4, k5⟩ => let ⟨d', e1, e2⟩ := hr d hh k2 _ _ _ v k4; ⟨v, d', hh, pl', k1, e2, k3, e1, k5⟩
/-- What a call hands back is let go. -/
theorem MFn.forget {P : Program} {f : FuncId} {F : List Ob} {args : List D} {R : D → List Ob → Prop} (k : Nat) (hk : F.length ≤ k) (h : MFn P f F args (fun _ h => obsUpto k (h.take k) ∧ R .undef (h.take k))) : MFn P f F args R := fun Z base w pl vs h1 h2 h3 hl hc =>
  (h Z base w pl vs h1 h2 h3 hl hc).mono fun _ _ ⟨v, d, hh, pl', k1, ⟨a2, a3⟩, k3, k4, k5, k6⟩ => ⟨v, .undef, hh.take k, pl'.take k, k1, a3, k3.take k a2, .cl _ _ (.undef _),
    k5.keep hk ⟨fun _ hb => take_away hb, fun l o p hl ho hp => ⟨o, by rw [List.getElem?_take, if_pos hl]; exact ho, by rw [List.getElem?_take, if_pos hl]; exact hp, rfl, rfl, rfl⟩⟩, k6⟩

/-- An object without rows more. -/
theorem Weak.ghost {w0 : Start} {fr : List (Nat × D)} {h : List Ob} (sz : Nat) (row : Nat → List D) : Weak w0 ⟨fr, h⟩ ⟨fr, h ++ [⟨.arr, 0, sz, 0, row⟩]⟩ := fun Z z base nt pl a w r b =>
  have T : Tr h pl w (h ++ [⟨.arr, 0, sz, 0, row⟩]) (pl ++ [none]) w := Tr.push r.o (fun _ _ => rfl) _ _ (by intro b q e; simp at e)
  ⟨pl ++ [none], ⟨r.nt, r.defers, fun u => (r.fr u).tr T, r.o.phantom _ rfl⟩, b.step T (Below.refl _ _)⟩
/-- A variable that holds a nil slice is told to hold a slice over an object without rows. -/
theorem Weak.nilRef {w0 : Start} {fr : List (Nat × D)} {h : List Ob} (l sz : Nat) {g : Nat} {row : Nat → List D} (ho : h[l]? = some ⟨.one, g, 1, 1, row⟩) (hr : row 0 = [.nil]) :
    Weak w0 ⟨fr, h⟩ ⟨fr, (h ++ [(⟨.arr, 0, sz, 0, fun _ => []⟩ : Ob)]).set l ⟨.one, g, 1, 1, fun _ => [.ref h.length 0 0 0]⟩⟩ := by
  intro Z z base nt pl a w r b
  have hlen : pl.length = h.length := r.o.len
  have R1 := r.o.phantom ⟨.arr, 0, sz, 0, fun _ => []⟩ rfl
  have T1 : Tr h pl w (h ++ [(⟨.arr, 0, sz, 0, fun _ => []⟩ : Ob)]) (pl ++ [none]) w := Tr.push r.o (fun _ _ => rfl) _ _ (by intro b q e; simp at e)
  have ho1 : (h ++ [(⟨.arr, 0, sz, 0, fun _ => []⟩ : Ob)])[l]? = some (⟨.one, g, 1, 1, row⟩ : Ob) := append_left_some ho
  have hlp : l < pl.length := by have h1 := lt_of_some ho; omega
  have hp : (pl ++ [none])[l]? = some pl[l] := append_left_some (List.getElem?_eq_getElem hlp)
  generalize hpe : pl[l] = p at hp
  have hph : (h ++ [(⟨.arr, 0, sz, 0, fun _ => []⟩ : Ob)])[h.length]? = some ⟨.arr, 0, sz, 0, fun _ => []⟩ := by simp
  cases p with
  | none => exact absurd (R1.noRow l _ ho1 hp) (by simp)
  | some p =>
    obtain ⟨bb, q⟩ := p
    obtain ⟨g1, x⟩ := R1.at_ l _ bb q ho1 hp
    obtain ⟨c, el, h2, h3, h4, h5⟩ := x.cells rfl
    have hll : l < h.length := lt_of_some ho
    have R2 := RelO.upd (w' := w) R1 ho1 hp (o' := ⟨.one, g, 1, 1, fun _ => [.ref h.length 0 0 0]⟩) rfl rfl rfl rfl (fun _ _ _ => rfl) h2 h2 rfl h3 (fun _ _ => rfl) (fun i j hi hj => by
      have hi0 : i = 0 := by have : i < 1 := hi; omega
      have hj0 : j = 0 := by have : j < 1 := hj; omega
      subst hi0; subst hj0
      obtain ⟨v, k1, k2⟩ := h5 0 0 Nat.zero_lt_one Nat.zero_lt_one
      refine ⟨v, k1, ?_⟩
      simp only [hr] at k2
      obtain ⟨a0, hv⟩ := inv_nil k2
      rw [hv]
      refine .ref _ _ _ _ ⟨.arr, 0, sz, 0, fun _ => []⟩ none a0 0 ?_ ?_ rfl (Nat.le_refl _) (fun _ => .inl ⟨rfl, rfl⟩)
      · rw [List.getElem?_set_ne (by omega)]; exact hph
      · rw [← hlen]; simp) rfl
    have T2 := Tr.upd (w' := w) R1 ho1 hp (o' := ⟨.one, g, 1, 1, fun _ => [.ref h.length 0 0 0]⟩) rfl rfl rfl (fun _ _ _ => rfl) (fun c el h => ⟨c, h, rfl⟩)
    have T := T1.trans T2
    exact ⟨pl ++ [none], ⟨r.nt, r.defers, fun u => (r.fr u).tr T, R2⟩, b.step T (Below.refl _ _)⟩
section
variable {P : Program} {base nt : Nat} {w0 : Start}
/-- A call within a region that draws, objects lent to be changed (the region's order is such that nothing else stands beside it). -/
theorem AX_callM (hbase : base ≤ w0.w.heap.size) (sel : List Nat) {K : St → Prop} {dst : Option Nat} {ty : TypeId} {after : Array Edge} {gd : Option (Nat × Bool)} {r : List (Bool × Oper × G)} {s : St} {x : Operand} {args : Array Operand} {tys : Array TypeId} {f : FuncId} {nf : Nat} {caps : List D} (hf : FnOk P f)
    (hx : calleeD (evalO s.fr x) = some (f, nf, caps)) {F : List Ob} {cs : List D} (hok : inB s.h.length sel = true ∧ nodupB sel = true ∧ obsAmong sel (pickObs s.h sel) ∧ amongL sel (argsD nf caps (args.toList.map (evalO s.fr))) = true ∧ argsEq (renL sel (argsD nf caps (args.toList.map (evalO s.fr)))) cs ∧ obsLe ((pickObs s.h sel).map (Ob.ren sel)) F)
    {R : D → List Ob → Prop} (hF : MFn P f F cs R) (ht : okO nt dst = true) (hk : ∀ d h, R d h → AX P base nt w0 K r ⟨putO s.fr dst (d.idx (backN s.h.length sel)), backObs s.h sel h⟩) :
    AX P base nt w0 K ((false, ⟨dst, .call ⟨.value x, args, tys⟩, ty, "!", after, gd⟩, none) :: r) s := by
  simp only [AX, AXo, lateT]
  obtain ⟨hb, hd, hobs, hargs, he, hle⟩ := hok
  intro Z z pl a w r b
  have hF2 := hF.args he
  have hF3 : MFn P f ((pickObs s.h sel).map (Ob.ren sel)) (renL sel (argsD nf caps (args.toList.map (evalO s.fr)))) R := by
    intro Z base w pl vs h1 h2 h3 hl hc
    have hw := Wk.obs (m := F.length) (fr := []) hle
    obtain ⟨pl', r', K⟩ := hw Z base 0 pl { tmps := #[], defers := [] } w ⟨rfl, rfl, fun t => .cl _ _ (.undef _), h3⟩
    obtain ⟨e1, e2⟩ := obsLe_get hle
    refine (hF2 Z base w pl vs h1 h2 ?_ hl (fun i hi => (hc i hi).obs hle)).mono fun e w' ⟨v, d, h, pl', k1, k2, k3, k4, k5, k6⟩ => ⟨v, d, h, pl', k1, k2, k3, k4, ?_, k6⟩
    · refine ⟨by rw [e1]; exact h3.len, h3.inj, fun l o' ho hp => ?_, fun l o' b q ho hp => ?_⟩
      · obtain ⟨o, g3, g4⟩ := e2 l o' ho
        rw [g4.2.2.1]; exact h3.noRow l o g3 hp
      · obtain ⟨o, g3, g4, g5, g6, g8, g7⟩ := e2 l o' ho
        obtain ⟨g1, x⟩ := h3.at_ l o b q g3 hp
        exact ⟨fun hr => g1 (by rw [← g8.2, hr]), x.to g8.1 g5 g6 rfl (fun i hi => by rw [g7 i hi]) fun i j v hi _ hr => by rw [g7 i hi]; exact hr.obs hle⟩
    · have key : ∀ (l : Nat) (o : Ob), ((pickObs s.h sel).map (Ob.ren sel))[l]? = some o → ∃ o', F[l]? = some o' ∧ obLe o o' := fun l o e => by
        have : l < F.length := by rw [e1]; exact lt_of_some e
        obtain ⟨o2, g3, g4⟩ := e2 l _ (List.getElem?_eq_getElem this)
        rw [e] at g3; cases g3
        exact ⟨_, List.getElem?_eq_getElem this, g4⟩
      refine ⟨k5.old, fun l o p ho hp => ?_, fun l o o'' b q ho ho'' hg hp c el hc => ?_⟩
      · obtain ⟨o1, g1, g2, g3, g4, g5, g6⟩ := key l o ho
        obtain ⟨o', p', t1, t2, t3, t4, t5⟩ := k5.obj l o1 p g1 hp
        exact ⟨o', p', t1, t2, by omega, by rw [t4, g5.1], fun x => by obtain ⟨y1, y2⟩ := t5 (by omega); exact ⟨by rw [y1, g3], y2⟩⟩
      · obtain ⟨o1, g1, g2, g3, g4, g5, g6⟩ := key l o ho
        exact k5.shape l o1 o'' b q g1 ho'' (by omega) hp c el hc
  exact Oper.wp_mono (fun a' w' ⟨_, d, h, pl', hR, r', b', T, v, e⟩ => ⟨fun hc => absurd hc (by simp [calmS]), _, _, pl', v, hk d h hR, r', b', T, e⟩) (callM_wp hbase hf rfl hx sel hb hd hobs hargs hF3 ht z pl a w r b _)
end
/-- The walk of a function that is lent objects; as many places are told as objects. -/
theorem MFn_hxkL (k : Nat) {P : Program} {X : Cx} (hX : CxOk P X) {f : FuncId} {fn : Func} {c : Code} (n : Nat) (hf : P.funcs[f]? = some fn) (hb : fn.body = some c) {F : List Ob} (hk : Nat.ble F.length k = true) {args : List D} {R : D → List Ob → Prop} {nt : Nat} {rs : Array ResultVar} (hnt : fn.ntmps = nt) (hrs : fn.results = rs) (hn : Nat.ble args.length nt = true)
    (h : ∀ (base : Nat) (w : World) (pl : List Pl), base ≤ w.heap.size → pl.length = F.length → hx P base ⟨w, F, pl⟩ (Post X.L rs.toList (Kept k R)) X nt n [.code c] ⟨initFr args 0, F⟩) : MFn P f F args R :=
  MFn.take k (Nat.le_of_ble_eq_true hk) (MFn_of' hX n hf hb hnt (Nat.le_of_ble_eq_true hn) (by subst hrs; exact fun base w pl hb hl => h base w pl hb hl))
section
variable {P : Program} {base nt : Nat} {w0 : Start} {Q : Exit → St → Prop}
/-- What a slot holds, if it is a slice, is some slice, whatever it leans on. -/
theorem kont_rawSlice (t : Nat) {l g off len : Nat} {c : Code} {k : List Item} {s : St} (hd : get s.fr t = .ref l g off len) (h : ∀ a n cp, kont P base nt w0 Q (.code c :: k) .normal ⟨put s.fr t (.raw (.slice a n cp)), s.h⟩) : kont P base nt w0 Q (.code c :: k) .normal s := by
  simp only [kont] at h ⊢
  intro Z z pl a w r b
  have hr := r.fr t
  rw [hd] at hr
  obtain ⟨o, p, ad, cap, hv, _⟩ := inv_ref hr
  refine h ad len cap Z z pl a w ⟨r.nt, r.defers, fun u => ?_, r.o⟩ b
  show RelV Z s.h pl w (get (put s.fr t _) u) _
  rw [get_put]
  by_cases e : u = t
  · subst e; rw [if_pos rfl, hv]; exact .cl _ _ (.raw _)
  · rw [if_neg e]; exact r.fr u
end
section
variable {P : Program} {base nt : Nat} {w0 : Start} {Q : Exit → St → Prop}
/-- The same of what a variable holds. -/
theorem kont_rawOb (l j : Nat) {o : Ob} {l' g off len : Nat} {c : Code} {k : List Item} {s : St} (ho : s.h[l]? = some o) (hk : o.kd.ty = 0) (hn : o.n = 1) (hj : nth (o.row 0) j = .ref l' g off len) (hjs : j < o.sz)
    (h : ∀ a n cp, kont P base nt w0 Q (.code c :: k) .normal ⟨s.fr, s.h.set l ⟨o.kd, o.gen, o.sz, o.n, fun _ => (o.row 0).set j (.raw (.slice a n cp))⟩⟩) : kont P base nt w0 Q (.code c :: k) .normal s := by
  simp only [kont] at h ⊢
  intro Z z pl a w r b
  have hlen : pl.length = s.h.length := r.o.len
  have hlp : l < pl.length := by have h1 := lt_of_some ho; omega
  have hp : pl[l]? = some pl[l] := List.getElem?_eq_getElem hlp
  generalize hpe : pl[l] = p at hp
  cases p with
  | none => exact absurd (r.o.noRow l _ ho hp) (by omega)
  | some p =>
    obtain ⟨bb, q⟩ := p
    obtain ⟨g1, x⟩ := r.o.at_ l _ bb q ho hp
    obtain ⟨cs, el, h2, h3, h4, h5⟩ := x.cells hk
    obtain ⟨v0, k1, k2⟩ := h5 0 j (by omega) hjs
    rw [hj] at k2
    obtain ⟨o9, p9, ad, cap, hv, _⟩ := inv_ref k2
    have h40 := h4 0 (by omega)
    have T2 := Tr.upd (w' := w) r.o ho hp (o' := ⟨o.kd, o.gen, o.sz, o.n, fun _ => (o.row 0).set j (.raw (.slice ad len cap))⟩) rfl rfl rfl (fun _ _ _ => rfl) (fun c el h => ⟨c, h, rfl⟩)
    have R2 := RelO.upd (w' := w) r.o ho hp (o' := ⟨o.kd, o.gen, o.sz, o.n, fun _ => (o.row 0).set j (.raw (.slice ad len cap))⟩) hk hk rfl rfl (fun _ _ _ => rfl) h2 h2 rfl h3 (fun _ _ => by simpa using h40) (fun i k' hi hk' => by
      have hi0 : i = 0 := by have : i < o.n := hi; omega
      subst hi0
      obtain ⟨v, e1, e2⟩ := h5 0 k' (by omega) hk'
      refine ⟨v, e1, ?_⟩
      by_cases e : j = k'
      · subst e
        rw [e1] at k1; cases k1
        have : nth ((o.row 0).set j (.raw (.slice ad len cap))) j = .raw (.slice ad len cap) := by
          simp only [nth, List.getD_eq_getElem?_getD]
          rw [List.getElem?_set_self (by omega)]; rfl
        rw [this, hv]
        exact .cl _ _ (.raw _)
      · have : nth ((o.row 0).set j (.raw (.slice ad len cap))) k' = nth (o.row 0) k' := by
          simp only [nth, List.getD_eq_getElem?_getD]
          rw [List.getElem?_set_ne e]
        rw [this]
        exact e2.tr T2) rfl
    exact h ad len cap Z z pl a w ⟨r.nt, r.defers, fun u => (r.fr u).tr T2, R2⟩ (b.step T2 (Below.refl _ _))
end
/-- A closed value of one cell names no object. -/
theorem cl1_upto {d : D} (h : d.cl1 = true) (k : Nat) : d.upto k = true := by cases d <;> first | rfl | cases h
theorem cl1_among {d : D} (h : d.cl1 = true) (l : List Nat) : d.among l = true := by cases d <;> first | rfl | cases h
theorem cl1_ren {d : D} (h : d.cl1 = true) (l : List Nat) : d.ren l = d := by cases d <;> first | rfl | cases h
theorem cl1_idx {d : D} (h : d.cl1 = true) (f : Nat → Nat) : d.idx f = d := by cases d <;> first | rfl | cases h
end Go.Fg
namespace Go.Fg
set_option linter.unusedSimpArgs false
set_option linter.unusedVariables false
section
variable {P : Program} {base nt : Nat} {w0 : Start} {Q : Exit → St → Prop} {k : List Item} {s : St}
def TurnQ (P : Program) (base nt : Nat) (w0 : Start) (Q : Exit → St → Prop) (k : List Item) (c : Code) : Nat → Exit → St → Prop
  | 0, .normal, _ => False
  | n + 1, .normal, s => kont P base nt w0 (TurnQ P base nt w0 Q k c n) [.code c] .normal s
  | _, e, s => kont P base nt w0 Q k e s
@[go_sem] theorem TurnQ_normal {c : Code} {n : Nat} : TurnQ P base nt w0 Q k c (n + 1) .normal s = kont P base nt w0 (TurnQ P base nt w0 Q k c n) [.code c] .normal s := eqOf rfl
@[go_sem] theorem TurnQ_exit {c : Code} {n j : Nat} : TurnQ P base nt w0 Q k c n (.exit j) s = kont P base nt w0 Q k (.exit j) s := eqOf (by cases n <;> rfl)
@[go_sem] theorem TurnQ_ret {c : Code} {n : Nat} : TurnQ P base nt w0 Q k c n .ret s = kont P base nt w0 Q k .ret s := eqOf (by cases n <;> rfl)
theorem kont_turns (n : Nat) {c : Code} (h : kont P base nt w0 (TurnQ P base nt w0 Q k c n) [.code c] .normal s) : kont P base nt w0 Q (.code (.loop c) :: k) .normal s := by
  simp only [kont]
  intro Z z pl a w r b
  refine wp_loop_rounds (n + 1) ?_
  induction n generalizing s pl a w with
  | zero =>
    simp only [kont] at h
    rw [rounds_succ]
    refine Code.wp_mono (fun e a w q => ?_) (h Z z pl a w r b)
    obtain ⟨s', pl', h1, h2, h3⟩ := q
    cases e with
    | normal => exact h1.elim
    | _ => exact ⟨s', pl', h1, h2, h3⟩
  | succ n ih =>
    simp only [kont] at h
    rw [rounds_succ]
    refine Code.wp_mono (fun e a w q => ?_) (h Z z pl a w r b)
    obtain ⟨s', pl', h1, h2, h3⟩ := q
    cases e with
    | normal => exact ih h1 pl' a w h2 h3
    | _ => exact ⟨s', pl', h1, h2, h3⟩
end
end Go.Fg
/- Outcomes: how they are read; what is told of them. No conditions. -/
namespace Go.Fg.X
set_option linter.unusedVariables false
open Go.Proofs Go.Fg
set_option maxRecDepth 100000
set_option linter.unusedSimpArgs false
structure Outc where
  results : (List Res)
  events : (List Ev)
instance : Inhabited Outc := ⟨⟨[], []⟩⟩
@[go_sem] def Outc.cells (x : Outc) : List D := [.imm 3 x.results.length (Res.rows x.results), .imm 12 x.events.length (Ev.rows x.events)]
def Outc.rows (l : List Outc) : Nat → List D := fun i => (l.getD i default).cells
@[go_sem] theorem Outc.rows_at (l : List Outc) (i : Nat) : Outc.rows l i = (l.getD i default).cells := rfl
def Outc.Ok (x : Outc) : Prop := (x.results.length ≤ maxLen ∧ ∀ a ∈ x.results, Res.Ok a) ∧ (x.events.length ≤ maxLen ∧ ∀ a ∈ x.events, Ev.Ok a) ∧ True
theorem rdOutc : Rd Tryz.prog 90 Outc.Ok Outc.cells :=
  Rd.map (Rd.struct (tot := 2) Tryz.underlying90 (by kernel_rfl) (RdF.cons (Rd.slice 3 Tryz.underlying87 (by kernel_rfl) (by decide) rdRes) (RdF.cons (Rd.slice 12 Tryz.underlying88 (by kernel_rfl) (by decide) rdEv) RdF.nil rfl (by kernel_rfl) (by decide)) rfl (by kernel_rfl) (by decide))) (fun p => ⟨p.1, p.2.1⟩) (fun _ => rfl) (fun _ h => ⟨h.1, h.2.1, trivial⟩)
end Go.Fg.X
namespace Go.Fg
set_option linter.unusedSimpArgs false
set_option linter.unusedVariables false
theorem oper_mono {P : Program} {o : Oper} {a : Act} {w : World} {K K' : Act → World → Prop} {Q Q' : Exit → Act → World → Prop} (hk : ∀ a w, K a w → K' a w) (hq : ∀ e a w, Q e a w → Q' e a w) (h : o.wp P a w K Q) : o.wp P a w K' Q' := by
  unfold Oper.wp at *
  generalize (execOp a.eval o).run P w = r at *
  cases r with
  | ok x w' =>
    cases x <;> simp only [Oper.upon] at h ⊢ <;> first | exact hk _ _ h | exact h | skip
    · exact h.mono fun e w'' he => by
        cases e with
        | returned v => exact hk _ _ he
        | panicked c => exact hq _ _ _ he
        | outgrown => obtain ⟨a, w, h⟩ := he; exact ⟨a, w, hq _ _ _ h⟩
    · exact h.mono fun v w'' he => hk _ _ he
  | halt x w' => cases x <;> first | exact h | exact hq _ _ _ h
theorem wpG_mono {P : Program} {Q Q' : Exit → Act → World → Prop} (hq : ∀ e a w, Q e a w → Q' e a w) : ∀ (l : List (Oper × G)) (a : Act) (w : World), wpG P Q l a w → wpG P Q' l a w
  | [], a, w, h => hq _ _ _ h
  | (o, g) :: r, a, w, h => by
    simp only [wpG] at h ⊢
    split at h
    · rename_i hw
      rw [if_pos hw]
      exact oper_mono (fun a w => wpG_mono hq r a w) hq h
    · rename_i hw
      rw [if_neg hw]
      exact wpG_mono hq r _ _ h
section
variable {P : Program} {base nt : Nat} {w0 : Start} {Q : Exit → St → Prop} {k : List Item} {s s1 : St}
def JoinQ (P : Program) (base nt : Nat) (w0 : Start) (Q : Exit → St → Prop) (k : List Item) (s1 : St) : Exit → St → Prop
  | .normal, s => Weak w0 s s1
  | e, s => kont P base nt w0 Q k e s
@[go_sem] theorem JoinQ_normal : JoinQ P base nt w0 Q k s1 .normal s = Weak w0 s s1 := eqOf rfl
@[go_sem] theorem JoinQ_exit {j : Nat} : JoinQ P base nt w0 Q k s1 (.exit j) s = kont P base nt w0 Q k (.exit j) s := eqOf rfl
@[go_sem] theorem JoinQ_ret : JoinQ P base nt w0 Q k s1 .ret s = kont P base nt w0 Q k .ret s := eqOf rfl
/-- Behind the first piece all ways stand alike. -/
theorem kont_join {x : Item} {c : Code} (s1 : St) (h1 : kont P base nt w0 (JoinQ P base nt w0 Q (.code c :: k) s1) [x] .normal s) (h2 : kont P base nt w0 Q (.code c :: k) .normal s1) : kont P base nt w0 Q (x :: .code c :: k) .normal s := by
  cases x with
  | code x =>
    simp only [kont] at h1
    show A P base nt w0 x _ s
    refine h1.mono fun e s' he => ?_
    cases e with
    | normal => exact kont_weak_code he h2
    | _ => exact he
  | ops l =>
    simp only [kont] at h1
    show AG P base nt w0 l _ s
    intro Z z pl a w r b
    refine wpG_mono (fun e a' w' ⟨s', pl', hs, r', b'⟩ => ⟨s', pl', ?_, r', b'⟩) _ _ _ (h1 Z z pl a w r b)
    cases e with
    | normal => exact kont_weak_code hs h2
    | _ => exact hs
  | inBlock id => simp only [kont] at h1 ⊢; exact kont_weak_code h1 h2
  | inScope => simp only [kont] at h1 ⊢; exact kont_weak_code h1 h2
/-- The same: the slots V are told anew, those of 'keep' stay, the others are forgotten. -/
theorem kont_joinF {x : Item} {c : Code} (keep : List Nat) (V : List (Nat × D)) {fr : List (Nat × D)} {h : List Ob} {rest : List (Nat × D)} (hr : pickFr fr keep = rest)
    (h1 : kont P base nt w0 (JoinQ P base nt w0 Q (.code c :: k) ⟨V ++ rest, h⟩) [x] .normal ⟨fr, h⟩) (h2 : kont P base nt w0 Q (.code c :: k) .normal ⟨V ++ rest, h⟩) : kont P base nt w0 Q (x :: .code c :: k) .normal ⟨fr, h⟩ := kont_join _ h1 h2
@[go_sem] theorem hx_zero {X : Cx} : hx P base w0 Q X nt 0 k s = kont P base nt w0 Q k .normal s := by cases k <;> exact eqOf rfl
end
end Go.Fg
namespace Go.Fg.X
open Go.Proofs Go.Fg
set_option maxRecDepth 100000
set_option maxHeartbeats 4000000
set_option linter.unusedSimpArgs false
set_option linter.unusedVariables false
@[go_sem] def dcv (c : Cv) : D := .agg c.cells
@[go_sem] def dkl (c : Kls) : D := .agg c.cells
/-- What a curve is: 0 bad, 1 none, 2 linear, 3 concave, 4 convex. -/
def ofI (c : Cv) : Int := if c.m1 = 0 ∧ c.d = 0 ∧ c.m2 = 0 then 1 else if 4294967295 < c.m1 ∨ 4294967295 < c.m2 ∨ 1048576 < c.d then 0 else if c.d = 0 ∧ c.m1 = c.m2 then 2 else if 0 < c.d ∧ c.m2 < c.m1 then 3 else if 0 < c.d ∧ c.m1 = 0 ∧ 0 < c.m2 then 4 else 0
theorem ofcI_ok (c : Cv) : AFn Tryz.prog 171 [dcv c] (Ret (dint (ofI c))) := by
  refine AFn_hxk 0 cx_ok 200 Tryz.func171 rfl Tryz.ntmps171 Tryz.results171 rfl fun base w hb => ?_
  simp only [go_sem, simprocAttr]
  repeat' (first | ((first | refine hite_dec (fun h => ?_) (fun h => ?_) | refine hite_beq (fun h => ?_) (fun h => ?_) | refine hite_bne (fun h => ?_) (fun h => ?_) | refine hite_intro (fun h => ?_) (fun h => ?_) | refine hite_decA (fun h => ?_) (fun h => ?_) | refine hite_beqA (fun h => ?_) (fun h => ?_) | refine hite_bneA (fun h => ?_) (fun h => ?_) | refine hite_intro' (fun h => ?_) (fun h => ?_)) <;> (try simp only [go_sem, simprocAttr])) | (refine And.intro (by omega) ?_; try simp only [go_sem, simprocAttr]))
  all_goals (congr 2; (try simp only [Bool.and_eq_false_iff, beq_eq_false_iff_ne, Bool.and_eq_true, beq_iff_eq, ne_eq] at *); unfold ofI; (repeat' split) <;> omega)
theorem crightI_ok (c : Cv) : AFn Tryz.prog 212 [dcv c] (Ret (dbool (ofI c != 0))) := by
  refine AFn_hxk 0 cx_ok 200 Tryz.func212 rfl Tryz.ntmps212 Tryz.results212 rfl fun base w hb => ?_
  simp only [go_sem, simprocAttr]
  refine kont_call hb fn171 rfl ?_ (ofcI_ok c) (Ret.flat rfl) rfl fun d h hR => ?_
  · simp only [go_sem, simprocAttr]
  obtain ⟨rfl, rfl⟩ := hR
  refine kont_of_hx cx_ok hb 200 ?_
  simp only [go_sem, simprocAttr]
theorem shas_ok (c : Cv) : AFn Tryz.prog 156 [dcv c] (Ret (dbool (decide (1 < ofI c)))) := by
  refine AFn_hxk 0 cx_ok 200 Tryz.func156 rfl Tryz.ntmps156 Tryz.results156 rfl fun base w hb => ?_
  simp only [go_sem, simprocAttr]
  refine kont_call hb fn171 rfl ?_ (ofcI_ok c) (Ret.flat rfl) rfl fun d h hR => ?_
  · simp only [go_sem, simprocAttr]
  obtain ⟨rfl, rfl⟩ := hR
  refine kont_of_hx cx_ok hb 200 ?_
  simp only [go_sem, simprocAttr]
theorem sreal_ok (c : Kls) : AFn Tryz.prog 108 [dkl c] (Ret (dbool (decide (1 < ofI c.rt)))) := by
  refine AFn_hxk 0 cx_ok 200 Tryz.func108 rfl Tryz.ntmps108 Tryz.results108 rfl fun base w hb => ?_
  simp only [go_sem, simprocAttr]
  refine kont_call hb fn156 rfl ?_ (shas_ok c.rt) (Ret.flat rfl) rfl fun d h hR => ?_
  · simp only [go_sem, simprocAttr]
  obtain ⟨rfl, rfl⟩ := hR
  refine kont_of_hx cx_ok hb 200 ?_
  simp only [go_sem, simprocAttr]
theorem sshares_ok (c : Kls) : AFn Tryz.prog 101 [dkl c] (Ret (dbool (decide (1 < ofI c.ls)))) := by
  refine AFn_hxk 0 cx_ok 200 Tryz.func101 rfl Tryz.ntmps101 Tryz.results101 rfl fun base w hb => ?_
  simp only [go_sem, simprocAttr]
  refine kont_call hb fn156 rfl ?_ (shas_ok c.ls) (Ret.flat rfl) rfl fun d h hR => ?_
  · simp only [go_sem, simprocAttr]
  obtain ⟨rfl, rfl⟩ := hR
  refine kont_of_hx cx_ok hb 200 ?_
  simp only [go_sem, simprocAttr]
theorem scapped_ok (c : Kls) : AFn Tryz.prog 246 [dkl c] (Ret (dbool (decide (1 < ofI c.ul)))) := by
  refine AFn_hxk 0 cx_ok 200 Tryz.func246 rfl Tryz.ntmps246 Tryz.results246 rfl fun base w hb => ?_
  simp only [go_sem, simprocAttr]
  refine kont_call hb fn156 rfl ?_ (shas_ok c.ul) (Ret.flat rfl) rfl fun d h hR => ?_
  · simp only [go_sem, simprocAttr]
  obtain ⟨rfl, rfl⟩ := hR
  refine kont_of_hx cx_ok hb 200 ?_
  simp only [go_sem, simprocAttr]
def frI (n a b : Int) : Bool := decide (a ≤ n) && decide (n ≤ b)
theorem sfrom_ok (n a b : Int) : AFn Tryz.prog 245 [dint n, dint a, dint b] (Ret (dbool (frI n a b))) := by
  refine AFn_hxk 0 cx_ok 200 Tryz.func245 rfl Tryz.ntmps245 Tryz.results245 rfl fun base w hb => ?_
  simp only [go_sem, simprocAttr]
  unfold frI
  by_cases h : a ≤ n
  · simp only [go_sem, simprocAttr, h]
  · simp only [go_sem, simprocAttr, h]
end Go.Fg.X
namespace Go.Fg.X
open Go.Proofs Go.Fg
set_option maxRecDepth 100000
set_option maxHeartbeats 4000000
set_option linter.unusedSimpArgs false
set_option linter.unusedVariables false
def idOk (c : Kls) : Bool := frI c.iD 1 65536 && frI c.parent 0 65536 && !(c.parent == c.iD)
def cvOk (c : Kls) : Bool := (ofI c.rt != 0) && ((ofI c.ls != 0) && !(ofI c.ls == 4)) && ((ofI c.ul != 0) && !(ofI c.ul == 4))
def leafOk (c : Kls) : Bool := frI c.pkts 1 64 && frI c.bytes 1 1048576 && (decide (1 < ofI c.rt) || decide (1 < ofI c.ls))
def innerOk (c : Kls) : Bool := c.pkts == 0 && c.bytes == 0 && !decide (1 < ofI c.rt)
/-- What is wrong with a class: an error's number. -/
def rightV (c : Kls) : Int := if !idOk c then 1 else if !cvOk c then 21 else if (c.leaf && !leafOk c) || (!c.leaf && !innerOk c) || (decide (1 < ofI c.ul) && !decide (1 < ofI c.ls)) then 29 else 0
structure RInv (c : Kls) (k : Nat) (s : St) : Prop where
  h0 : 0 < k → ofI c.rt ≠ 0
  h1 : 1 < k → ofI c.ls ≠ 0 ∧ ofI c.ls ≠ 4
  h2 : 2 < k → ofI c.ul ≠ 0 ∧ ofI c.ul ≠ 4
  eq : s = ⟨[(1, .ptr 0 0 0 0), (2, dint 0), (30, .agg (c.rt.cells ++ (c.ls.cells ++ c.ul.cells))), (31, dint k)], [⟨.one, 0, 14, 1, fun _ => c.cells⟩]⟩
theorem sright_ok (c : Kls) : AFn Tryz.prog 206 [dkl c] (Ret (dint (rightV c))) := by
  refine AFn_hxk 0 cx_ok 200 Tryz.func206 rfl Tryz.ntmps206 Tryz.results206 rfl fun base w hb => ?_
  simp only [go_sem, simprocAttr]
  refine kont_call hb fn245 rfl ?_ (sfrom_ok c.iD 1 65536) (Ret.flat rfl) rfl fun d h hR => ?_
  · simp only [go_sem, simprocAttr]
  obtain ⟨rfl, rfl⟩ := hR
  refine kont_of_hx cx_ok hb 200 ?_
  simp only [go_sem, simprocAttr]
  cases hb1 : frI c.iD 1 65536
  · have : rightV c = 1 := by simp [rightV, idOk, hb1]
    simp only [go_sem, simprocAttr, this]
  · simp only [go_sem, simprocAttr]
    refine kont_call hb fn245 rfl ?_ (sfrom_ok c.parent 0 65536) (Ret.flat rfl) rfl fun d h hR => ?_
    · simp only [go_sem, simprocAttr]
    obtain ⟨rfl, rfl⟩ := hR
    refine kont_of_hx cx_ok hb 200 ?_
    simp only [go_sem, simprocAttr]
    cases hb2 : frI c.parent 0 65536
    · have : rightV c = 1 := by simp [rightV, idOk, hb1, hb2]
      simp only [go_sem, simprocAttr, this]
    · simp only [go_sem, simprocAttr]
      by_cases h3 : c.parent = c.iD
      · have : rightV c = 1 := by simp [rightV, idOk, hb1, hb2, h3]
        simp only [go_sem, simprocAttr, beqT h3, this]
      · simp only [go_sem, simprocAttr, beqF h3]
        have hid : idOk c = true := by simp [idOk, hb1, hb2, h3]
        have w1 : IntKind.i64.wrap 1 = 1 := by decide
        have w2 : IntKind.i64.wrap 2 = 2 := by decide
        have w3 : IntKind.i64.wrap 3 = 3 := by decide
        refine kont_for (RInv c) 3
          (s0 := ⟨[(1, .ptr 0 0 0 0), (2, dint 0), (30, .agg (c.rt.cells ++ (c.ls.cells ++ c.ul.cells))), (31, dint 0)], [⟨.one, 0, 14, 1, fun _ => c.cells⟩]⟩) (Weak.frame (by simp only [go_sem, simprocAttr])) ⟨by omega, by omega, by omega, rfl⟩ ?_
        rintro k s hk ⟨g0, g1, g2, rfl⟩
        obtain rfl | rfl | rfl | rfl : k = 0 ∨ k = 1 ∨ k = 2 ∨ k = 3 := by omega
        · refine kont_of_hx cx_ok hb 200 ?_
          simp only [go_sem, simprocAttr]
          refine kont_call hb fn212 rfl ?_ (crightI_ok c.rt) (Ret.flat rfl) rfl fun d h hR => ?_
          · simp only [go_sem, simprocAttr]
          obtain ⟨rfl, rfl⟩ := hR
          refine kont_of_hx cx_ok hb 200 ?_
          simp only [go_sem, simprocAttr]
          by_cases r0 : ofI c.rt = 0
          · have : rightV c = 21 := by simp [rightV, hid, cvOk, r0]
            simp only [go_sem, simprocAttr, beqT r0, bne, this, Go.undef]
          · simp only [go_sem, simprocAttr, beqF r0, bne, Go.undef]
            refine ⟨_, Weak.to 1 ⟨?_, by simp only [go_sem, simprocAttr], ?_, ?_⟩, ⟨fun _ => r0, by omega, by omega, rfl⟩⟩ <;> simp only [go_sem, simprocAttr, w1, w2, w3]
        · refine kont_of_hx cx_ok hb 200 ?_
          simp only [go_sem, simprocAttr]
          refine kont_call hb fn212 rfl ?_ (crightI_ok c.ls) (Ret.flat rfl) rfl fun d h hR => ?_
          · simp only [go_sem, simprocAttr]
          obtain ⟨rfl, rfl⟩ := hR
          refine kont_of_hx cx_ok hb 200 ?_
          simp only [go_sem, simprocAttr]
          by_cases r0 : ofI c.ls = 0
          · have : rightV c = 21 := by simp [rightV, hid, cvOk, r0]
            simp only [go_sem, simprocAttr, beqT r0, bne, this, Go.undef]
          · simp only [go_sem, simprocAttr, beqF r0, bne, Go.undef]
            refine kont_call hb fn171 rfl ?_ (ofcI_ok c.ls) (Ret.flat rfl) rfl fun d h hR => ?_
            · simp only [go_sem, simprocAttr]
            obtain ⟨rfl, rfl⟩ := hR
            refine kont_of_hx cx_ok hb 200 ?_
            simp only [go_sem, simprocAttr]
            by_cases r4 : ofI c.ls = 4
            · have : rightV c = 21 := by simp [rightV, hid, cvOk, r4]
              simp only [go_sem, simprocAttr, beqT r4, this, Go.undef]
            · simp only [go_sem, simprocAttr, beqF r4, Go.undef]
              refine ⟨_, Weak.to 1 ⟨?_, by simp only [go_sem, simprocAttr], ?_, ?_⟩, ⟨fun _ => g0 (by omega), fun _ => ⟨r0, r4⟩, by omega, rfl⟩⟩ <;> simp only [go_sem, simprocAttr, w1, w2, w3]
        · refine kont_of_hx cx_ok hb 200 ?_
          simp only [go_sem, simprocAttr]
          refine kont_call hb fn212 rfl ?_ (crightI_ok c.ul) (Ret.flat rfl) rfl fun d h hR => ?_
          · simp only [go_sem, simprocAttr]
          obtain ⟨rfl, rfl⟩ := hR
          refine kont_of_hx cx_ok hb 200 ?_
          simp only [go_sem, simprocAttr]
          by_cases r0 : ofI c.ul = 0
          · have : rightV c = 21 := by simp [rightV, hid, cvOk, r0]
            simp only [go_sem, simprocAttr, beqT r0, bne, this, Go.undef]
          · simp only [go_sem, simprocAttr, beqF r0, bne, Go.undef]
            refine kont_call hb fn171 rfl ?_ (ofcI_ok c.ul) (Ret.flat rfl) rfl fun d h hR => ?_
            · simp only [go_sem, simprocAttr]
            obtain ⟨rfl, rfl⟩ := hR
            refine kont_of_hx cx_ok hb 200 ?_
            simp only [go_sem, simprocAttr]
            by_cases r4 : ofI c.ul = 4
            · have : rightV c = 21 := by simp [rightV, hid, cvOk, r4]
              simp only [go_sem, simprocAttr, beqT r4, this, Go.undef]
            · simp only [go_sem, simprocAttr, beqF r4, Go.undef]
              refine ⟨_, Weak.to 1 ⟨?_, by simp only [go_sem, simprocAttr], ?_, ?_⟩, ⟨fun _ => g0 (by omega), fun _ => g1 (by omega), fun _ => ⟨r0, r4⟩, rfl⟩⟩ <;> simp only [go_sem, simprocAttr, w1, w2, w3]
        · have hcv : cvOk c = true := by
            have a := g0 (by omega); have b := g1 (by omega); have d := g2 (by omega)
            simp [cvOk, a, b, d]
          clear g0 g1 g2
          refine kont_of_hx cx_ok hb 200 ?_
          simp only [go_sem, simprocAttr]
          first | refine kont_seq ?_ | skip
          refine kont_joinF [1, 2] [(5, dbool (leafOk c))] rfl ?_ ?_
          · refine kont_of_hx cx_ok hb 200 ?_
            simp only [go_sem, simprocAttr]
            refine kont_call hb fn245 rfl ?_ (sfrom_ok c.pkts 1 64) (Ret.flat rfl) rfl fun d h hR => ?_
            · simp only [go_sem, simprocAttr]
            obtain ⟨rfl, rfl⟩ := hR
            refine kont_of_hx cx_ok hb 200 ?_
            simp only [go_sem, simprocAttr]
            cases hp : frI c.pkts 1 64
            · have e : leafOk c = false := by simp [leafOk, hp]
              simp only [go_sem, simprocAttr, Go.undef]
              exact Weak.to 1 (by (simp only [go_sem, simprocAttr, e]) <;> simp)
            · simp only [go_sem, simprocAttr, Go.undef]
              refine kont_call hb fn245 rfl ?_ (sfrom_ok c.bytes 1 1048576) (Ret.flat rfl) rfl fun d h hR => ?_
              · simp only [go_sem, simprocAttr]
              obtain ⟨rfl, rfl⟩ := hR
              refine kont_of_hx cx_ok hb 200 ?_
              simp only [go_sem, simprocAttr]
              cases hq : frI c.bytes 1 1048576
              · have e : leafOk c = false := by simp [leafOk, hp, hq]
                simp only [go_sem, simprocAttr, Go.undef]
                exact Weak.to 1 (by (simp only [go_sem, simprocAttr, e]) <;> simp)
              · simp only [go_sem, simprocAttr, Go.undef]
                refine kont_call hb fn108 rfl ?_ (sreal_ok c) (Ret.flat rfl) rfl fun d h hR => ?_
                · simp only [go_sem, simprocAttr]
                obtain ⟨rfl, rfl⟩ := hR
                refine kont_of_hx cx_ok hb 200 ?_
                simp only [go_sem, simprocAttr]
                cases hr : decide (1 < ofI c.rt)
                · simp only [go_sem, simprocAttr, Go.undef]
                  refine kont_call hb fn101 rfl ?_ (sshares_ok c) (Ret.flat rfl) rfl fun d h hR => ?_
                  · simp only [go_sem, simprocAttr]
                  obtain ⟨rfl, rfl⟩ := hR
                  refine kont_of_hx cx_ok hb 200 ?_
                  simp only [go_sem, simprocAttr]
                  have e : leafOk c = decide (1 < ofI c.ls) := by simp [leafOk, hp, hq, hr]
                  exact Weak.to 1 (by (simp only [go_sem, simprocAttr, e]) <;> simp)
                · have e : leafOk c = true := by simp [leafOk, hp, hq, hr]
                  simp only [go_sem, simprocAttr, Go.undef]
                  exact Weak.to 1 (by (simp only [go_sem, simprocAttr, e]) <;> simp)
          first | refine kont_seq ?_ | skip
          refine kont_joinF [1, 2, 5] [(6, dbool (innerOk c))] rfl ?_ ?_
          · refine kont_of_hx cx_ok hb 200 ?_
            simp only [go_sem, simprocAttr]
            by_cases hp : c.pkts = 0
            · simp only [go_sem, simprocAttr, beqT hp, Go.undef]
              by_cases hq : c.bytes = 0
              · simp only [go_sem, simprocAttr, beqT hq, Go.undef]
                refine kont_call hb fn108 rfl ?_ (sreal_ok c) (Ret.flat rfl) rfl fun d h hR => ?_
                · simp only [go_sem, simprocAttr]
                obtain ⟨rfl, rfl⟩ := hR
                refine kont_of_hx cx_ok hb 200 ?_
                simp only [go_sem, simprocAttr]
                have e : innerOk c = !decide (1 < ofI c.rt) := by simp [innerOk, hp, hq]
                exact Weak.to 1 (by (simp only [go_sem, simprocAttr, e]) <;> simp)
              · have e : innerOk c = false := by simp [innerOk, hp, hq]
                simp only [go_sem, simprocAttr, beqF hq, Go.undef]
                exact Weak.to 1 (by (simp only [go_sem, simprocAttr, e]) <;> simp)
            · have e : innerOk c = false := by simp [innerOk, hp]
              simp only [go_sem, simprocAttr, beqF hp, Go.undef]
              exact Weak.to 1 (by (simp only [go_sem, simprocAttr, e]) <;> simp)
          refine kont_of_hx cx_ok hb 200 ?_
          simp only [go_sem, simprocAttr]
          have hv : rightV c = if (c.leaf && !leafOk c) || (!c.leaf && !innerOk c) || (decide (1 < ofI c.ul) && !decide (1 < ofI c.ls)) then 29 else 0 := by simp [rightV, hid, hcv]
          generalize leafOk c = lo at hv ⊢
          generalize innerOk c = io at hv ⊢
          cases hl : c.leaf <;> rw [hl] at hv
          · cases io
            · simp at hv
              simp only [go_sem, simprocAttr, Go.undef, hv]
            · simp only [go_sem, simprocAttr, Go.undef]
              refine kont_call hb fn246 rfl ?_ (scapped_ok c) (Ret.flat rfl) rfl fun d h hR => ?_
              · simp only [go_sem, simprocAttr, hl]
              obtain ⟨rfl, rfl⟩ := hR
              refine kont_of_hx cx_ok hb 200 ?_
              simp only [go_sem, simprocAttr, hl]
              cases hu : decide (1 < ofI c.ul) <;> rw [hu] at hv
              · simp at hv
                simp only [go_sem, simprocAttr, Go.undef, hv]
              · simp only [go_sem, simprocAttr, Go.undef]
                refine kont_call hb fn101 rfl ?_ (sshares_ok c) (Ret.flat rfl) rfl fun d h hR => ?_
                · simp only [go_sem, simprocAttr, hl]
                obtain ⟨rfl, rfl⟩ := hR
                refine kont_of_hx cx_ok hb 200 ?_
                simp only [go_sem, simprocAttr, hl]
                cases hs : decide (1 < ofI c.ls) <;> rw [hs] at hv <;> simp at hv <;> simp only [go_sem, simprocAttr, Go.undef, hv]
          · cases lo
            · simp at hv
              simp only [go_sem, simprocAttr, Go.undef, hv]
            · simp only [go_sem, simprocAttr, Go.undef]
              refine kont_call hb fn246 rfl ?_ (scapped_ok c) (Ret.flat rfl) rfl fun d h hR => ?_
              · simp only [go_sem, simprocAttr, hl]
              obtain ⟨rfl, rfl⟩ := hR
              refine kont_of_hx cx_ok hb 200 ?_
              simp only [go_sem, simprocAttr, hl]
              cases hu : decide (1 < ofI c.ul) <;> rw [hu] at hv
              · simp at hv
                simp only [go_sem, simprocAttr, Go.undef, hv]
              · simp only [go_sem, simprocAttr, Go.undef]
                refine kont_call hb fn101 rfl ?_ (sshares_ok c) (Ret.flat rfl) rfl fun d h hR => ?_
                · simp only [go_sem, simprocAttr, hl]
                obtain ⟨rfl, rfl⟩ := hR
                refine kont_of_hx cx_ok hb 200 ?_
                simp only [go_sem, simprocAttr, hl]
                cases hs : decide (1 < ofI c.ls) <;> rw [hs] at hv <;> simp at hv <;> simp only [go_sem, simprocAttr, Go.undef, hv]
end Go.Fg.X
namespace Go.Fg.X
open Go.Proofs Go.Fg
set_option maxRecDepth 100000
set_option maxHeartbeats 4000000
set_option linter.unusedSimpArgs false
set_option linter.unusedVariables false
theorem ofI_range (c : Cv) : 0 ≤ ofI c ∧ ofI c ≤ 4 := by unfold ofI; (repeat' split) <;> omega
def wrongV (c : Kls) : Int := if c.iD < 1 ∨ 65536 < c.iD ∨ c.parent < 0 ∨ 65536 < c.parent ∨ c.iD = c.parent then 1
  else if ofI c.rt = 0 ∨ ofI c.ls = 0 ∨ ofI c.ul = 0 ∨ ofI c.ls = 4 ∨ ofI c.ul = 4 then 21
  else if 1 < ofI c.ul ∧ ofI c.ls = 1 then 29
  else if c.leaf = true then (if c.pkts < 1 ∨ 64 < c.pkts ∨ c.bytes < 1 ∨ 1048576 < c.bytes ∨ (ofI c.rt = 1 ∧ ofI c.ls = 1) then 29 else 0)
  else if c.pkts ≠ 0 ∨ c.bytes ≠ 0 ∨ ofI c.rt ≠ 1 then 29 else 0
def Cv.Nn (c : Cv) : Prop := 0 ≤ c.m1 ∧ 0 ≤ c.d ∧ 0 ≤ c.m2
def Kls.Nn (c : Kls) : Prop := c.rt.Nn ∧ c.ls.Nn ∧ c.ul.Nn
theorem wrong_right (c : Kls) : wrongV c = rightV c := by
  have h1 := ofI_range c.rt
  have h2 := ofI_range c.ls
  have h3 := ofI_range c.ul
  unfold wrongV rightV idOk cvOk leafOk innerOk frI
  generalize ofI c.rt = a at *
  generalize ofI c.ls = b at *
  generalize ofI c.ul = d at *
  cases hl : c.leaf <;> simp only [Bool.and_eq_true, Bool.or_eq_true, Bool.not_eq_true', Bool.and_eq_false_iff, Bool.or_eq_false_iff, decide_eq_true_eq, decide_eq_false_iff_not, beq_iff_eq, beq_eq_false_iff_ne, bne_iff_ne, bne_eq_false_iff_eq, Bool.not_eq_false', ne_eq, reduceCtorEq, false_and, true_and, false_or, or_false, if_false, if_true] <;> (repeat' split) <;> omega
end Go.Fg.X
namespace Go.Fg
set_option linter.unusedSimpArgs false
set_option linter.unusedVariables false
open Go.RowKit (Below)
open Go.Proofs Go.Shelf Go.Sort
def sorted (zs : List Int) : List Int := zs.mergeSort fun x y => decide (x ≤ y)
theorem sorted_len (zs : List Int) : (sorted zs).length = zs.length := by simp [sorted]
def sortRow (off : Nat) (row : Nat → List D) (ts : List Int) : Nat → List D := fun i => if off ≤ i ∧ i < off + ts.length then [.raw (.int .i64 (ts.getD (i - off) 0))] else row i
variable {P : Program} {ρ : Ren}
theorem grow_size (w : World) (os : Array Obj) : (grow w os).heap.size = w.heap.size + os.size := by simp [grow]
theorem heap_sortedAt {w : World} {b n o : Nat} {os : Array Obj} {cur : Array Value} {e : TypeId} {fr : Nat × Nat} (d : Array Int) (hb : w.heap[b]? = some (.cells cur e fr)) :
    (grow (putRow (Value.int .i64) (Sort.ahead w n) b o d) os).heap[b]? = some (.cells (putCells (Value.int .i64) o d cur) e fr) := by
  have hg : b < w.heap.size := (Array.getElem?_eq_some_iff.1 hb).1
  rw [heap_grow_old _ _ (by simpa using hg)]
  simp [putRow, mapBlock, Sort.ahead, Array.getElem?_modify, hb, onCells]
theorem grownBy_sortedAt {w : World} {b n o : Nat} {os : Array Obj} (d : Array Int) : w.grownBy (grow (putRow (Value.int .i64) (Sort.ahead w n) b o d) os) (some b) := by
  refine ⟨rfl, rfl, rfl, by simp, fun k hk hne => ?_⟩
  rw [heap_grow_old _ _ (by simpa using hk)]
  have : b ≠ k := fun e => hne (by rw [e])
  simp [putRow, mapBlock, Sort.ahead, Array.getElem?_modify, this]
theorem sort_ok (Ly : Lays.n189 P ρ) {h : List Ob} {l g off N : Nat} {row : Nat → List D} {zs : List Int} (ho : h[l]? = some ⟨.arr, g, 1, N, row⟩) (hn : off + zs.length ≤ N) (hr : ∀ i, i < zs.length → row (off + i) = [.raw (.int .i64 (zs.getD i 0))]) (hlen : zs.length < 4611686018427387904) :
    MFn P (ρ.f 189) h [.ref l g off zs.length] (fun d h' => d = .tup [] ∧ h' = h.set l ⟨.arr, g, 1, N, sortRow off row (sorted zs)⟩) := by
  intro Z base w pl vs hbase hZ R hvl hv
  match vs, hvl with
  | [v], _ =>
  have r0 := hv 0 (by simp)
  obtain ⟨o, p, a, cap, e1, h1, h2, h3, h4, h5⟩ := inv_ref r0
  rw [ho] at h1; cases h1
  have e1 : v = .slice a zs.length cap := e1
  have hsl := h5 rfl
  subst e1
  have hlt : l < h.length := lt_of_some ho
  by_cases h0 : zs.length = 0
  · have hz : zs = [] := List.length_eq_zero_iff.1 h0
    subst hz
    refine (Any.slices_Sort_int_none Ly a cap w).mono ?_
    rintro e w' ⟨rfl, rfl⟩
    have hs : h.set l ⟨.arr, g, 1, N, sortRow off row (sorted [])⟩ = h := by
      have : sortRow off row (sorted []) = row := by
        funext i
        have : ¬ (off ≤ i ∧ i < off + (sorted []).length) := by rw [sorted_len]; simp
        unfold sortRow; rw [if_neg this]
      rw [this]
      apply List.ext_getElem?
      intro i
      by_cases hi : l = i
      · subst hi; rw [List.getElem?_set_self hlt, ho]
      · rw [List.getElem?_set_ne hi]
    rw [hs]
    exact ⟨_, .tup [], h, pl, rfl, ⟨rfl, rfl⟩, R, .tup [] [] rfl (fun i hi => by simp at hi), Tr.refl _ _ _, .refl _ _⟩
  · rcases hsl with ⟨h6, _⟩ | ⟨b, q, c, el, rfl, rfl, hb, hcap, hcl⟩
    · exact absurd h6 h0
    · obtain ⟨hbb, xat⟩ := R.at_ l _ b q ho h2
      obtain ⟨c', el', hb', hcs, hrl, hrow⟩ := xat.cells rfl
      rw [hb] at hb'; cases hb'
      simp only [Nat.mul_one] at hcap hcs hrow ⊢
      have hcell : ∀ i, i < zs.length → c[q + off + i]? = some (.int .i64 (zs.getD i 0)) := fun i hi => by
        obtain ⟨u, hu, hur⟩ := hrow (off + i) 0 (by show off + i < N; omega) (by show 0 < 1; omega)
        have e2 : (row (off + i)) = _ := hr i hi
        have hur : RelV Z h pl w (nth (row (off + i)) 0) u := hur
        rw [e2] at hur
        have := inv_raw hur
        rw [show q + off + i = q + (off + i + 0) by omega, hu, this]
      have hH : Holds (Value.int .i64) w b (q + off) zs.toArray := by
        intro j hj
        have hj' : j < zs.length := by simpa using hj
        refine ⟨?_, by simp [World.frozen?, hb]⟩
        rw [World.cell?_of_block (w := w) (w' := w) rfl]
        simp only [World.cell?, hb]
        simp only [Option.isSome_none, Bool.false_eq_true, if_false]
        rw [hcell j hj']
        simp [List.getD_eq_getElem?_getD, hj']
      refine (Any.slices_Sort_int Ly b (q + off) cap zs w hH (lt_of_heap hb) hlen).mono ?_
      rintro e w' ⟨rfl, n, os, hw⟩
      have hG : w.grownBy w' (some b) := by rw [hw]; exact grownBy_sortedAt _
      have hnew : w'.heap[b]? = some (.cells (putCells (Value.int .i64) (q + off) (sorted zs).toArray c) el (0, 0)) := by rw [hw]; exact heap_sortedAt _ hb
      have hsz : (putCells (Value.int .i64) (q + off) (sorted zs).toArray c).size = c.size := by simp [putCells]
      have hold : ∀ k, k ≠ b → k < w.heap.size → w'.heap[k]? = w.heap[k]? := fun k hk hlt => hG.block k hlt (fun e => hk (by cases e; rfl))
      have hbase' : base ≤ b := hbb rfl
      have hB : Below base w w' := (Below.refl base w).grown hG hbase (fun k hk => by cases hk; exact hbase')
      have T := Tr.upd (w' := w') (o' := ⟨.arr, g, 1, N, sortRow off row (sorted zs)⟩) R ho h2 rfl rfl rfl hold (fun c1 el1 e1 => by rw [hb] at e1; cases e1; exact ⟨_, hnew, hsz⟩)
      have hput : ∀ i, i < c.size → (putCells (Value.int .i64) (q + off) (sorted zs).toArray c)[i]? = if q + off ≤ i ∧ i < q + off + zs.length then some (.int .i64 ((sorted zs).getD (i - (q + off)) 0)) else c[i]? := fun i hi => by
        have hl : (sorted zs).toArray.size = zs.length := by simp [sorted_len]
        simp only [putCells, Array.getElem?_mapIdx, hl, Array.getElem?_eq_getElem hi, Option.map_some]
        split
        · rename_i hin
          have : i - (q + off) < (sorted zs).length := by rw [sorted_len]; omega
          simp [List.getD_eq_getElem?_getD, this]
        · rfl
      refine ⟨_, .tup [], _, pl, rfl, ⟨rfl, rfl⟩, RelO.upd (w' := w') (o' := ⟨.arr, g, 1, N, sortRow off row (sorted zs)⟩) R ho h2 rfl rfl rfl rfl hold hb hnew hsz (by rw [hsz]; simpa using hcs) (fun i hi => ?_) (fun i j hi hj => ?_) rfl, .tup [] [] rfl (fun i hi => by simp at hi), T, hB⟩
      · show (sortRow off row (sorted zs) i).length = 1
        unfold sortRow
        split
        · rfl
        · exact hrl i hi
      · have hi : i < N := hi
        have hj : j < 1 := hj
        have hj0 : j = 0 := by omega
        subst hj0
        have hic : q + (i + 0) < c.size := by omega
        show ∃ v, (putCells (Value.int .i64) (q + off) (sorted zs).toArray c)[q + (i * 1 + 0)]? = some v ∧ RelV Z _ pl w' (nth (sortRow off row (sorted zs) i) 0) v
        rw [Nat.mul_one, hput _ hic]
        have hsr : sortRow off row (sorted zs) i = if off ≤ i ∧ i < off + zs.length then [.raw (.int .i64 ((sorted zs).getD (i - off) 0))] else row i := by unfold sortRow; rw [sorted_len]
        rw [hsr]
        by_cases hin : off ≤ i ∧ i < off + zs.length
        · rw [if_pos (by omega), if_pos hin]
          exact ⟨_, rfl, by rw [show q + (i + 0) - (q + off) = i - off by omega]; exact .cl _ _ (.raw _)⟩
        · rw [if_neg (by omega), if_neg hin]
          obtain ⟨u, hu, hur⟩ := hrow i 0 hi hj
          exact ⟨u, hu, hur.tr T⟩
end Go.Fg
namespace Go.Fg.X
open Go.Proofs Go.Fg
set_option maxRecDepth 100000
set_option maxHeartbeats 4000000
set_option linter.unusedSimpArgs false
set_option linter.unusedVariables false
/-! A tree of classes: a list by rising numbers, and a map. -/
def findC (L : List Kls) (k : Int) : Option Kls := L.find? fun c => c.iD == k
def ofE (e : Ent) : Int × D := (e.k, e.v)
def ofC (c : Kls) : Int × D := (c.iD, dkl c)
def Rising (L : List Kls) : Prop := L.Pairwise fun a b => a.iD < b.iD
structure TreeIs (es : List Ent) (L : List Kls) : Prop where
  perm : (es.map ofE).Perm (L.map ofC)
  sorted : Rising L
theorem nd_map {α : Type} {f : α → Int} : ∀ {l : List α}, (l.map f).Nodup → ∀ {x y : α}, x ∈ l → y ∈ l → f x = f y → x = y
  | [], _, x, _, hx, _, _ => by simp at hx
  | a :: l, hn, x, y, hx, hy, e => by
    simp only [List.map_cons, List.nodup_cons, List.mem_map, not_exists, not_and] at hn
    rcases List.mem_cons.1 hx with h1 | h1 <;> rcases List.mem_cons.1 hy with h2 | h2
    · rw [h1, h2]
    · exact absurd (by rw [← e, h1]) (hn.1 y h2)
    · exact absurd (by rw [e, h2]) (hn.1 x h1)
    · exact nd_map hn.2 h1 h2 e
theorem Rising.nd {L : List Kls} (h : Rising L) : (L.map (·.iD)).Nodup := by
  unfold List.Nodup
  rw [List.pairwise_map]
  exact List.Pairwise.imp (fun h => by omega) h
theorem TreeIs.keysNd {es : List Ent} {L : List Kls} (T : TreeIs es L) : KeysNd es := by
  have h1 : es.map (·.k) = (es.map ofE).map Prod.fst := by simp [ofE, Function.comp_def]
  have h2 : (L.map ofC).map Prod.fst = L.map (·.iD) := by simp [ofC, Function.comp_def]
  unfold KeysNd
  rw [h1, (T.perm.map Prod.fst).nodup_iff, h2]
  exact T.sorted.nd
theorem alook_iff : ∀ {es : List Ent}, KeysNd es → ∀ {k : Int} {v : D}, alook es k = some v ↔ (k, v) ∈ es.map ofE
  | [], _, k, v => by simp [alook]
  | e :: es, hn, k, v => by
    have hn2 : KeysNd es := by unfold KeysNd at hn ⊢; simp only [List.map_cons, List.nodup_cons] at hn; exact hn.2
    simp only [alook]
    by_cases h : e.k = k
    · rw [if_pos h]
      constructor
      · rintro ⟨rfl⟩; simp [ofE, h]
      · intro hm
        simp only [List.map_cons, List.mem_cons] at hm
        rcases hm with hm | hm
        · simp only [ofE, Prod.mk.injEq] at hm; rw [hm.2]
        · exfalso
          obtain ⟨e', he', hh⟩ := List.mem_map.1 hm
          simp only [ofE, Prod.mk.injEq] at hh
          unfold KeysNd at hn
          simp only [List.map_cons, List.nodup_cons, List.mem_map, not_exists, not_and] at hn
          exact hn.1 e' he' (by rw [hh.1, h])
    · rw [if_neg h, alook_iff hn2]
      simp only [List.map_cons, List.mem_cons]
      constructor
      · exact fun h => .inr h
      · rintro (hm | hm)
        · simp only [ofE, Prod.mk.injEq] at hm; exact absurd hm.1.symm h
        · exact hm
theorem findC_iff {L : List Kls} (h : Rising L) {k : Int} {c : Kls} : findC L k = some c ↔ c ∈ L ∧ c.iD = k := by
  constructor
  · intro e
    exact ⟨List.mem_of_find?_eq_some e, by have := List.find?_some e; simpa using this⟩
  · rintro ⟨hm, rfl⟩
    cases hf : findC L c.iD with
    | none =>
      have := List.find?_eq_none.1 hf c hm
      simp at this
    | some d =>
      have h1 := List.mem_of_find?_eq_some hf
      have h2 : d.iD = c.iD := by have := List.find?_some hf; simpa using this
      rw [nd_map h.nd h1 hm h2]
theorem findC_none {L : List Kls} {k : Int} : findC L k = none ↔ ∀ c ∈ L, c.iD ≠ k := by
  simp [findC, List.find?_eq_none]
theorem TreeIs.look {es : List Ent} {L : List Kls} (T : TreeIs es L) (k : Int) : alook es k = (findC L k).map dkl := by
  cases hf : findC L k with
  | some c =>
    obtain ⟨h1, h2⟩ := (findC_iff T.sorted).1 hf
    rw [Option.map_some, alook_iff T.keysNd, T.perm.mem_iff]
    exact List.mem_map.2 ⟨c, h1, by simp [ofC, h2]⟩
  | none =>
    rw [Option.map_none]
    cases ha : alook es k with
    | none => rfl
    | some v =>
      rw [alook_iff T.keysNd, T.perm.mem_iff] at ha
      obtain ⟨c, hc, e⟩ := List.mem_map.1 ha
      simp only [ofC, Prod.mk.injEq] at e
      exact absurd e.1 (findC_none.1 hf c hc)
theorem TreeIs.len {es : List Ent} {L : List Kls} (T : TreeIs es L) : es.length = L.length := by
  have := T.perm.length_eq
  simpa using this
theorem TreeIs.nil : TreeIs [] [] := ⟨by simp, by simp [Rising]⟩
/-- A list with a class, in the place of the one that was there. -/
def putC : List Kls → Kls → List Kls
  | [], x => [x]
  | c :: r, x => if x.iD < c.iD then x :: c :: r else if c.iD = x.iD then x :: r else c :: putC r x
def delC (L : List Kls) (k : Int) : List Kls := L.filter fun c => c.iD != k
theorem filter_id {α : Type} {p : α → Bool} {l : List α} (h : ∀ x ∈ l, p x = true) : l.filter p = l := List.filter_eq_self.2 h
theorem putC_perm : ∀ {L : List Kls} (x : Kls), Rising L → (putC L x).Perm (x :: delC L x.iD)
  | [], x, _ => by simp [putC, delC]
  | c :: r, x, h => by
    have hr : Rising r := List.Pairwise.of_cons h
    have hc : ∀ d ∈ r, c.iD < d.iD := fun d hd => (List.pairwise_cons.1 h).1 d hd
    simp only [putC]
    by_cases h1 : x.iD < c.iD
    · rw [if_pos h1]
      have : delC (c :: r) x.iD = c :: r := filter_id fun d hd => by
        rcases List.mem_cons.1 hd with rfl | hd
        · simp; omega
        · have := hc d hd; simp; omega
      rw [this]
    · rw [if_neg h1]
      by_cases h2 : c.iD = x.iD
      · rw [if_pos h2]
        have e1 : delC r x.iD = r := filter_id fun d hd => by have := hc d hd; simp; omega
        have : delC (c :: r) x.iD = r := by unfold delC at e1 ⊢; rw [List.filter_cons_of_neg (by simp [h2]), e1]
        rw [this]
      · rw [if_neg h2]
        have : delC (c :: r) x.iD = c :: delC r x.iD := by unfold delC; rw [List.filter_cons_of_pos (by simp [h2])]
        rw [this]
        exact ((putC_perm x hr).cons c).trans (List.Perm.swap x c _)
theorem putC_rising : ∀ {L : List Kls} (x : Kls), Rising L → Rising (putC L x)
  | [], x, _ => by simp [putC, Rising]
  | c :: r, x, h => by
    have hr : Rising r := List.Pairwise.of_cons h
    have hc : ∀ d ∈ r, c.iD < d.iD := fun d hd => (List.pairwise_cons.1 h).1 d hd
    simp only [putC]
    by_cases h1 : x.iD < c.iD
    · rw [if_pos h1]
      exact List.pairwise_cons.2 ⟨fun d hd => by
        rcases List.mem_cons.1 hd with rfl | hd
        · exact h1
        · have := hc d hd; omega, h⟩
    · rw [if_neg h1]
      by_cases h2 : c.iD = x.iD
      · rw [if_pos h2]
        exact List.pairwise_cons.2 ⟨fun d hd => by have := hc d hd; omega, hr⟩
      · rw [if_neg h2]
        refine List.pairwise_cons.2 ⟨fun d hd => ?_, putC_rising x hr⟩
        have := (putC_perm x hr).mem_iff.1 hd
        rcases List.mem_cons.1 this with rfl | hd2
        · omega
        · exact hc d (List.mem_filter.1 hd2).1
theorem delC_rising {L : List Kls} (k : Int) (h : Rising L) : Rising (delC L k) := List.Pairwise.filter _ h
theorem aput_perm : ∀ {es : List Ent} (k : Int) (v : D), KeysNd es → (∃ u, alook es k = some u) → ((aput es k v).map ofE).Perm ((k, v) :: (es.map ofE).filter fun p => p.1 != k)
  | [], k, v, _, h => by simp [alook] at h
  | e :: es, k, v, hn, h => by
    have hn1 := hn
    unfold KeysNd at hn1
    simp only [List.map_cons, List.nodup_cons, List.mem_map, not_exists, not_and] at hn1
    simp only [aput]
    by_cases he : e.k = k
    · rw [if_pos he]
      have e1 : (es.map ofE).filter (fun p => p.1 != k) = es.map ofE := filter_id fun p hp => by
        obtain ⟨e', he', rfl⟩ := List.mem_map.1 hp
        have := hn1.1 e' he'
        simp [ofE]; omega
      have : ((e :: es).map ofE).filter (fun p => p.1 != k) = es.map ofE := by rw [List.map_cons, List.filter_cons_of_neg (by simp [ofE, he]), e1]
      rw [this]
      simp [ofE]
    · rw [if_neg he]
      have h2 : ∃ u, alook es k = some u := by simpa only [alook, if_neg he] using h
      have : ((e :: es).map ofE).filter (fun p => p.1 != k) = ofE e :: (es.map ofE).filter (fun p => p.1 != k) := by rw [List.map_cons, List.filter_cons_of_pos (by simp [ofE, he])]
      rw [this, List.map_cons]
      exact ((aput_perm k v hn1.2 h2).cons _).trans (List.Perm.swap _ _ _)
theorem mset_tree {es : List Ent} {L : List Kls} (T : TreeIs es L) (q : IntKind) (c : Nat) (x : Kls) : ∃ c' es', mset q c es x.iD (dkl x) = mapOb q c' es' ∧ TreeIs es' (putC L x) := by
  have hp : ((putC L x).map ofC).Perm ((x.iD, dkl x) :: (L.map ofC).filter fun p => p.1 != x.iD) := by
    have := (putC_perm x T.sorted).map ofC
    rw [List.map_cons] at this
    refine this.trans ?_
    have : (L.map ofC).filter (fun p => p.1 != x.iD) = (delC L x.iD).map ofC := by
      rw [List.filter_map]; rfl
    rw [this]
    exact List.Perm.refl _
  have hf := T.perm.filter fun p => p.1 != x.iD
  unfold mset
  cases ha : alook es x.iD with
  | some u => exact ⟨c, _, rfl, ⟨(aput_perm x.iD (dkl x) T.keysNd ⟨u, ha⟩).trans ((hf.cons _).trans hp.symm), putC_rising x T.sorted⟩⟩
  | none =>
    refine ⟨c + 1, _, rfl, ⟨?_, putC_rising x T.sorted⟩⟩
    have e1 : (es.map ofE).filter (fun p => p.1 != x.iD) = es.map ofE := filter_id fun p hp => by
      obtain ⟨e', he', rfl⟩ := List.mem_map.1 hp
      have := (alook_none ha).1 e' he'
      simp [ofE]; omega
    rw [e1] at hf
    rw [List.map_append]
    refine List.perm_append_comm.trans ?_
    exact (hf.cons (x.iD, dkl x)).trans hp.symm
theorem adel_perm : ∀ {es : List Ent} (k : Int), KeysNd es → ((adel es k).map ofE) = ((es.map ofE).filter fun p => p.1 != k)
  | [], k, _ => rfl
  | e :: es, k, hn => by
    have hn1 := hn
    unfold KeysNd at hn1
    simp only [List.map_cons, List.nodup_cons, List.mem_map, not_exists, not_and] at hn1
    simp only [adel]
    by_cases he : e.k = k
    · rw [if_pos he, List.map_cons, List.filter_cons_of_neg (by simp [ofE, he])]
      exact (filter_id fun p hp => by
        obtain ⟨e', he', rfl⟩ := List.mem_map.1 hp
        have := hn1.1 e' he'
        simp [ofE]; omega).symm
    · rw [if_neg he, List.map_cons, List.map_cons, List.filter_cons_of_pos (by simp [ofE, he]), adel_perm k hn1.2]
theorem adel_tree {es : List Ent} {L : List Kls} (T : TreeIs es L) (k : Int) : TreeIs (adel es k) (delC L k) := by
  refine ⟨?_, delC_rising k T.sorted⟩
  rw [adel_perm k T.keysNd]
  have : (L.map ofC).filter (fun p => p.1 != k) = (delC L k).map ofC := by rw [List.filter_map]; rfl
  rw [← this]
  exact T.perm.filter _
/-- Sorting what a sorted list was mixed from. -/
theorem sorted_of_perm {zs ts : List Int} (h : zs.Perm ts) (hs : ts.Pairwise (· < ·)) : sorted zs = ts := by
  refine List.Perm.eq_of_pairwise (le := fun a b => a ≤ b) (fun a b _ _ h1 h2 => by omega) ?_ (hs.imp (fun h => by omega)) ((List.mergeSort_perm _ _).trans h)
  have := List.pairwise_mergeSort (le := fun x y : Int => decide (x ≤ y)) (fun a b c h1 h2 => by simp at *; omega) (fun a b => by simp; omega) zs
  exact this.imp (fun h => by simpa using h)
end Go.Fg.X
namespace Go.Fg.X
open Go.Proofs Go.Fg
set_option maxRecDepth 100000
set_option maxHeartbeats 4000000
set_option linter.unusedSimpArgs false
set_option linter.unusedVariables false
section
variable (h : List Ob) (t m c : Nat) {es : List Ent} {L : List Kls} (T : TreeIs es L)
  (ht : (h.map Ob.ro)[t]? = some ⟨.rone, 0, 1, 1, fun _ => [.mref m 0]⟩) (hm : (h.map Ob.ro)[m]? = some (mapOb .i64 c es).ro)
include T ht hm
theorem hget_ok (id : Int) : RFn0 Tryz.prog 70 h [.ptr t 0 0 0, dint id] (fun d => d = .tup [dkl ((findC L id).getD default), dint (if (findC L id).isSome then 0 else 6)]) := by
  have hk := T.look id
  cases hf : findC L id with
  | none =>
    rw [hf, Option.map_none] at hk
    refine RFn0_hx cx_ok 200 Tryz.func70 rfl Tryz.ntmps70 Tryz.results70 rfl fun base w pl F hF hFl hb => ?_
    rw [← hF] at ht hm
    have ht_l := hlt ht
    have hm_l := hlt hm
    simp only [go_sem, simprocAttr, hgetA, hgetL, hgetLk, hsetA, hsetL, hsetLk, List.length_append, List.length_set, List.append_assoc, List.set_set, ht, ht_l, hm, hm_l, hk]
    exact ⟨_, rfl, rfl⟩
  | some x =>
    rw [hf, Option.map_some] at hk
    refine RFn0_hx cx_ok 200 Tryz.func70 rfl Tryz.ntmps70 Tryz.results70 rfl fun base w pl F hF hFl hb => ?_
    rw [← hF] at ht hm
    have ht_l := hlt ht
    have hm_l := hlt hm
    simp only [go_sem, simprocAttr, hgetA, hgetL, hgetLk, hsetA, hsetL, hsetLk, List.length_append, List.length_set, List.append_assoc, List.set_set, ht, ht_l, hm, hm_l, hk]
    exact ⟨_, rfl, rfl⟩
end
end Go.Fg.X
namespace Go.Fg.X
open Go.Proofs Go.Fg
set_option maxRecDepth 100000
set_option maxHeartbeats 4000000
set_option linter.unusedSimpArgs false
set_option linter.unusedVariables false
/-! A heap that began as F; a slice of numbers in it. -/
def ExtF (F H : List Ob) : Prop := ∃ g, H = F ++ g
theorem ExtF.refl (F : List Ob) : ExtF F F := ⟨[], by simp⟩
theorem ExtF.app {F H : List Ob} (h : ExtF F H) (g : List Ob) : ExtF F (H ++ g) := by
  obtain ⟨x, rfl⟩ := h
  exact ⟨x ++ g, by simp⟩
theorem ExtF.set {F H : List Ob} (h : ExtF F H) {lo : Nat} (hl : F.length ≤ lo) (o : Ob) : ExtF F (H.set lo o) := by
  obtain ⟨x, rfl⟩ := h
  exact ⟨x.set (lo - F.length) o, by rw [List.set_append_right _ _ hl]⟩
theorem ExtF.len {F H : List Ob} (h : ExtF F H) : F.length ≤ H.length := by
  obtain ⟨x, rfl⟩ := h
  simp
theorem ExtF.get {F H : List Ob} (h : ExtF F H) {l : Nat} {o : Ob} (e : F[l]? = some o) : H[l]? = some o := by
  obtain ⟨x, rfl⟩ := h
  rw [hgetA (hlt e)]; exact e
/-- A slice of numbers among the objects from n on. -/
def SlcH (n : Nat) (H : List Ob) (d : D) (L : List Int) : Prop := (d = .nil ∧ L = []) ∨ ∃ lo g off row, d = .ref lo g off L.length ∧ n ≤ lo ∧ H[lo]? = some ⟨.arr, g, 1, off + L.length, row⟩ ∧ ∀ i, i < L.length → row (off + i) = [dint (L.getD i 0)]
theorem SlcH.app {n : Nat} {H : List Ob} {d : D} {L : List Int} (h : SlcH n H d L) (g : List Ob) : SlcH n (H ++ g) d L := by
  rcases h with h | ⟨lo, gg, off, row, h1, h2, h3, h4⟩
  · exact .inl h
  · exact .inr ⟨lo, gg, off, row, h1, h2, by rw [hgetA (hlt h3)]; exact h3, h4⟩
theorem SlcH.base {F h g : List Ob} {d : D} {L : List Int} (hl : F.length = h.length) (x : SlcH F.length (F ++ g) d L) : SlcH h.length (h ++ g) d L := by
  rcases x with x | ⟨lo, gg, off, row, h1, h2, h3, h4⟩
  · exact .inl x
  · refine .inr ⟨lo, gg, off, row, h1, by omega, ?_, h4⟩
    rw [List.getElem?_append_right (by omega)] at h3 ⊢
    rw [← hl]; exact h3
theorem SlcH.done {F h H : List Ob} {d : D} {L : List Int} (hl : F.length = h.length) (hx : ExtF F H) (x : SlcH F.length H d L) : ∃ g, H = F ++ g ∧ SlcH h.length (h ++ g) d L := by
  obtain ⟨g, rfl⟩ := hx
  exact ⟨g, rfl, x.base hl⟩
theorem slc_push {dn : List Int} {off : Nat} {row : Nat → List D} {v : Int} (hr : ∀ i, i < dn.length → row (off + i) = [dint (dn.getD i 0)]) : ∀ i, i < (dn ++ [v]).length → appRow dn.length off row (fun _ => [dint v]) (0 + i) = [dint ((dn ++ [v]).getD i 0)] := fun i hi => by
  rw [Nat.zero_add]
  simp at hi
  by_cases h1 : i < dn.length
  · rw [appRow_lt h1, hr i h1]; simp [h1, List.getElem?_append_left h1]
  · have : i = dn.length := by omega
    subst this
    rw [appRow_ge (Nat.le_refl _)]; simp
theorem roro_get {h : List Ob} {l : Nat} {o : Ob} (e : h[l]? = some o.ro) : (h.map Ob.ro)[l]? = some o.ro := by have := ro_get e; rwa [ro_ro] at this
def upF (L : List Kls) : Nat → Int → List Int
  | 0, _ => []
  | n + 1, id => match findC L id with
    | none => []
    | some c => id :: upF L n c.parent
def Ends (L : List Kls) : Nat → Int → Prop
  | 0, id => findC L id = none
  | n + 1, id => match findC L id with
    | none => True
    | some c => Ends L n c.parent
structure UpInv (t : Nat) (L : List Kls) (N : Nat) (id : Int) (F : List Ob) (n : Nat) (s : St) : Prop where
  ex : ∃ dn cur d H, dn ++ upF L n cur = upF L N id ∧ dn.length + n ≤ N + 1 ∧ Ends L n cur ∧ ExtF F H ∧ SlcH F.length H d dn ∧ s = ⟨[(0, .ptr t 0 0 0), (1, dint cur), (5, d)], H⟩
section
variable (h : List Ob) (t m c : Nat) {es : List Ent} {L : List Kls} (T : TreeIs es L)
  (ht : (h.map Ob.ro)[t]? = some ⟨.rone, 0, 1, 1, fun _ => [.mref m 0]⟩) (hm : (h.map Ob.ro)[m]? = some (mapOb .i64 c es).ro)
include T ht hm
theorem hup_ok (id : Int) (N : Nat) (hN : N < 1000000) (hE : Ends L N id) : RFn Tryz.prog 55 h [.ptr t 0 0 0, dint id] (fun d g => SlcH h.length (h ++ g) d (upF L N id)) := by
  refine RFn_hx cx_ok 200 Tryz.func55 rfl Tryz.ntmps55 Tryz.results55 rfl fun base w pl F hF hFl hb => ?_
  rw [← hF] at ht hm
  have ht_l := hlt ht
  have hm_l := hlt hm
  simp only [go_sem, simprocAttr, hgetA, hgetL, hgetLk, hsetA, hsetL, hsetLk, List.length_append, List.length_set, List.append_assoc, List.set_set, ht, ht_l, hm, hm_l]
  refine kont_loop (UpInv t L N id F) N (s0 := ⟨[(0, .ptr t 0 0 0), (1, dint id), (5, .nil)], F⟩) (Weak.frame (by simp only [go_sem, simprocAttr])) ⟨[], id, .nil, F, rfl, by simp, hE, ExtF.refl F, .inl ⟨rfl, rfl⟩, rfl⟩ ?_
  rintro n s ⟨dn, cur, d, H, h1, h2, h3, hx, hs, rfl⟩
  have hFH := hx.len
  have ht2 := hx.get ht
  have hm2 := hx.get hm
  have ht2_l := hlt ht2
  have hm2_l := hlt hm2
  have hg := hget_ok H t m c T (ro_get ht2) (roro_get hm2) cur
  refine kont_of_hx cx_ok hb 200 ?_
  simp only [go_sem, simprocAttr, hgetA, hgetL, hgetLk, hsetA, hsetL, hsetLk, List.length_append, List.length_set, List.append_assoc, List.set_set]
  cases hf : findC L cur with
  | none =>
    rw [hf] at hg
    simp only [Option.isSome_none, Bool.false_eq_true, if_false] at hg
    refine kont_callR0 hb fn70 rfl ?_ hg rfl fun d hR => ?_
    · simp only [go_sem, simprocAttr, hgetA, hgetL, hgetLk, hsetA, hsetL, hsetLk, List.length_append, List.length_set, List.append_assoc, List.set_set, ht2, hm2, ht2_l, hm2_l]
    subst hR
    refine kont_of_hx cx_ok hb 200 ?_
    simp only [go_sem, simprocAttr, hgetA, hgetL, hgetLk, hsetA, hsetL, hsetLk, List.length_append, List.length_set, List.append_assoc, List.set_set, ht2, hm2, ht2_l, hm2_l]
    have e0 : upF L n cur = [] := by cases n with
      | zero => rfl
      | succ n => simp only [upF, hf]
    rw [e0, List.append_nil] at h1
    rw [← h1]
    exact SlcH.done hFl (hx.app _) (hs.app _)
  | some x =>
    rw [hf] at hg
    simp only [Option.isSome_some, if_true, Option.getD_some] at hg
    obtain ⟨n, rfl⟩ : ∃ n', n = n' + 1 := by
      cases n with
      | zero => rw [Ends, hf] at h3; cases h3
      | succ n => exact ⟨n, rfl⟩
    have h3' : Ends L n x.parent := by simpa only [Ends, hf] using h3
    have h1' : (dn ++ [cur]) ++ upF L n x.parent = upF L N id := by rw [← h1]; simp only [upF, hf, List.append_assoc, List.singleton_append]
    rcases hs with ⟨rfl, rfl⟩ | ⟨lo, g, off, row, rfl, hlo, ho, hr⟩
    · refine kont_callR0 hb fn70 rfl ?_ hg rfl fun d hR => ?_
      · simp only [go_sem, simprocAttr, hgetA, hgetL, hgetLk, hsetA, hsetL, hsetLk, List.length_append, List.length_set, List.append_assoc, List.set_set, ht2, hm2, ht2_l, hm2_l]
      subst hR
      refine kont_of_hx cx_ok hb 200 ?_
      simp only [go_sem, simprocAttr, hgetA, hgetL, hgetLk, hsetA, hsetL, hsetLk, List.length_append, List.length_set, List.append_assoc, List.set_set, ht2, hm2, ht2_l, hm2_l]
      refine ⟨n, ⟨[(0, .ptr t 0 0 0), (1, dint x.parent), (5, .ref (H.length + 2) 0 0 1)], _⟩, by omega, Weak.frame (by simp only [go_sem, simprocAttr]), ⟨⟨[cur], x.parent, _, _, h1', by simp at h2 ⊢; omega, h3', hx.app _, .inr ⟨H.length + 2, 0, 0, _, rfl, by omega, by rw [hgetLk rfl]; rfl, fun i hi => ?_⟩, rfl⟩⟩⟩
      have : i = 0 := by simp at hi; omega
      subst this; rfl
    · have ho_l := hlt ho
      refine kont_callR0 hb fn70 rfl ?_ hg rfl fun d hR => ?_
      · simp only [go_sem, simprocAttr, hgetA, hgetL, hgetLk, hsetA, hsetL, hsetLk, List.length_append, List.length_set, List.append_assoc, List.set_set, ht2, hm2, ht2_l, hm2_l, ho, ho_l]
      subst hR
      refine kont_of_hx cx_ok hb 200 ?_
      simp only [go_sem, simprocAttr, hgetA, hgetL, hgetLk, hsetA, hsetL, hsetLk, List.length_append, List.length_set, List.append_assoc, List.set_set, ht2, hm2, ht2_l, hm2_l, ho, ho_l]
      refine ⟨by omega, n, ⟨[(0, .ptr t 0 0 0), (1, dint x.parent), (5, .ref lo (g + 1) 0 (dn.length + 1))], _⟩, by omega, Weak.frame (by simp only [go_sem, simprocAttr]), ⟨⟨dn ++ [cur], x.parent, _, _, h1', ?_, h3', ?_, ?_, rfl⟩⟩⟩
      · simp at h2 ⊢; omega
      · exact (hx.set hlo _).app _
      · refine .inr ⟨lo, g + 1, 0, _, by simp, by omega, ?_, slc_push hr⟩
        rw [hgetA (by simpa using ho_l), hgetS ho_l]
        simp [dint]
end
end Go.Fg.X
namespace Go.Fg.X
open Go.Proofs Go.Fg
set_option maxRecDepth 100000
set_option maxHeartbeats 4000000
set_option linter.unusedSimpArgs false
set_option linter.unusedVariables false
def sharesC (L : List Kls) (id : Int) : Bool := id == 0 || decide (1 < ofI ((findC L id).getD default).ls)
section
variable (h : List Ob) (t m c : Nat) {es : List Ent} {L : List Kls} (T : TreeIs es L)
  (ht : (h.map Ob.ro)[t]? = some ⟨.rone, 0, 1, 1, fun _ => [.mref m 0]⟩) (hm : (h.map Ob.ro)[m]? = some (mapOb .i64 c es).ro)
include T ht hm
theorem hdepth_ok (id : Int) (N : Nat) (hN : N < 1000000) (hE : Ends L N id) : RFn0 Tryz.prog 208 h [.ptr t 0 0 0, dint id] (fun d => d = dint (upF L N id).length) := by
  refine RFn0_hx cx_ok 200 Tryz.func208 rfl Tryz.ntmps208 Tryz.results208 rfl fun base w pl F hF hFl hb => ?_
  rw [← hF] at ht hm
  have ht_l := hlt ht
  have hm_l := hlt hm
  simp only [go_sem, simprocAttr, hgetA, hgetL, hgetLk, hsetA, hsetL, hsetLk, List.length_append, List.length_set, List.append_assoc, List.set_set, ht, ht_l, hm, hm_l]
  refine kont_callR hb fn55 rfl ?_ (hup_ok F t m c T (ro_get ht) (roro_get hm) id N hN hE) rfl fun d g2 hs => ?_
  · simp only [go_sem, simprocAttr]
  rcases hs with ⟨rfl, h0⟩ | ⟨lo, g, off, row, rfl, hlo, ho, hr⟩
  · refine kont_of_hx cx_ok hb 200 ?_
    simp only [go_sem, simprocAttr, hgetA, hgetL, hgetLk, hsetA, hsetL, hsetLk, List.length_append, List.length_set, List.append_assoc, List.set_set, h0]
    exact ⟨_, rfl⟩
  · have ho_l := hlt ho
    refine kont_of_hx cx_ok hb 200 ?_
    simp only [go_sem, simprocAttr, hgetA, hgetL, hgetLk, hsetA, hsetL, hsetLk, List.length_append, List.length_set, List.append_assoc, List.set_set, ho, ho_l]
    exact ⟨_, rfl⟩
theorem hshares_ok (id : Int) : RFn0 Tryz.prog 207 h [.ptr t 0 0 0, dint id] (fun d => d = dbool (sharesC L id)) := by
  by_cases h0 : id = 0
  · have e : sharesC L id = true := by simp [sharesC, h0]
    rw [e]
    refine RFn0_hx cx_ok 200 Tryz.func207 rfl Tryz.ntmps207 Tryz.results207 rfl fun base w pl F hF hFl hb => ?_
    rw [← hF] at ht hm
    have ht_l := hlt ht
    have hm_l := hlt hm
    simp only [go_sem, simprocAttr, hgetA, hgetL, hgetLk, hsetA, hsetL, hsetLk, List.length_append, List.length_set, List.append_assoc, List.set_set, ht, ht_l, hm, hm_l, beqT h0]
    exact ⟨[], by simp⟩
  · have hk := T.look id
    have e : sharesC L id = decide (1 < ofI ((findC L id).getD default).ls) := by simp [sharesC, h0]
    rw [e]
    cases hf : findC L id with
    | none =>
      rw [hf, Option.map_none] at hk
      refine RFn0_hx cx_ok 200 Tryz.func207 rfl Tryz.ntmps207 Tryz.results207 rfl fun base w pl F hF hFl hb => ?_
      rw [← hF] at ht hm
      have ht_l := hlt ht
      have hm_l := hlt hm
      simp only [go_sem, simprocAttr, hgetA, hgetL, hgetLk, hsetA, hsetL, hsetLk, List.length_append, List.length_set, List.append_assoc, List.set_set, ht, ht_l, hm, hm_l, hk, beqF h0]
      refine kont_call hb fn101 rfl ?_ (sshares_ok ⟨0, 0, false, ⟨0, 0, 0⟩, ⟨0, 0, 0⟩, ⟨0, 0, 0⟩, 0, 0⟩) (Ret.flat rfl) rfl fun d h hR => ?_
      · simp only [go_sem, simprocAttr, hgetA, hgetL, hgetLk, hsetA, hsetL, hsetLk, List.length_append, List.length_set, List.append_assoc, List.set_set]
      obtain ⟨rfl, rfl⟩ := hR
      refine kont_of_hx cx_ok hb 200 ?_
      simp only [go_sem, simprocAttr, hgetA, hgetL, hgetLk, hsetA, hsetL, hsetLk, List.length_append, List.length_set, List.append_assoc, List.set_set]
      exact ⟨[], (List.append_nil F).symm, rfl⟩
    | some x =>
      rw [hf, Option.map_some] at hk
      refine RFn0_hx cx_ok 200 Tryz.func207 rfl Tryz.ntmps207 Tryz.results207 rfl fun base w pl F hF hFl hb => ?_
      rw [← hF] at ht hm
      have ht_l := hlt ht
      have hm_l := hlt hm
      simp only [go_sem, simprocAttr, hgetA, hgetL, hgetLk, hsetA, hsetL, hsetLk, List.length_append, List.length_set, List.append_assoc, List.set_set, ht, ht_l, hm, hm_l, hk, beqF h0]
      refine kont_call hb fn101 rfl ?_ (sshares_ok x) (Ret.flat rfl) rfl fun d h hR => ?_
      · simp only [go_sem, simprocAttr, hgetA, hgetL, hgetLk, hsetA, hsetL, hsetLk, List.length_append, List.length_set, List.append_assoc, List.set_set]
      obtain ⟨rfl, rfl⟩ := hR
      refine kont_of_hx cx_ok hb 200 ?_
      simp only [go_sem, simprocAttr, hgetA, hgetL, hgetLk, hsetA, hsetL, hsetLk, List.length_append, List.length_set, List.append_assoc, List.set_set]
      exact ⟨[], by simp⟩
end
end Go.Fg.X
namespace Go.Fg.X
open Go.Proofs Go.Fg
set_option maxRecDepth 100000
set_option maxHeartbeats 4000000
set_option linter.unusedSimpArgs false
set_option linter.unusedVariables false
def sel (L : List Kls) (g : Kls → Bool) (k : Int) : Bool := ((findC L k).map g).getD false
theorem filt_same {es : List Ent} {seen : List Nat} {b : Nat} (p : Ent → Bool) (h : ∀ e ∈ es, e.b ≠ b) : (es.filter fun x => (seen ++ [b]).contains x.b && p x) = es.filter fun x => seen.contains x.b && p x := by
  apply List.filter_congr
  intro x hx
  have := h x hx
  simp [this]
theorem filt_step : ∀ {es : List Ent} {seen : List Nat} {e : Ent} (p : Ent → Bool), (es.map (·.b)).Nodup → e ∈ es → e.b ∉ seen → (es.filter fun x => (seen ++ [e.b]).contains x.b && p x).Perm (if p e then e :: es.filter (fun x => seen.contains x.b && p x) else es.filter fun x => seen.contains x.b && p x)
  | [], _, _, _, _, h, _ => by simp at h
  | x :: es, seen, e, p, hn, h, hs => by
    simp only [List.map_cons, List.nodup_cons, List.mem_map, not_exists, not_and] at hn
    rcases List.mem_cons.1 h with h1 | h1
    · subst h1
      have e1 := filt_same (seen := seen) (b := e.b) p (es := es) fun y hy he => hn.1 y hy he
      have hc : seen.contains e.b = false := by simpa using hs
      rw [List.filter_cons, List.filter_cons, e1]
      simp only [hc, Bool.false_and, Bool.false_eq_true, if_false]
      have : (seen ++ [e.b]).contains e.b = true := by simp
      rw [this, Bool.true_and]
    · have ih := filt_step p hn.2 h1 hs
      have hne : x.b ≠ e.b := fun he => hn.1 e h1 he.symm
      have hc : (seen ++ [e.b]).contains x.b = seen.contains x.b := by simp [hne]
      rw [List.filter_cons, List.filter_cons, hc]
      by_cases h2 : (seen.contains x.b && p x) = true
      · rw [if_pos h2, if_pos h2]
        by_cases h3 : p e = true
        · rw [if_pos h3] at ih ⊢
          exact (ih.cons x).trans (List.Perm.swap _ _ _)
        · rw [if_neg h3] at ih ⊢
          exact ih.cons x
      · rw [if_neg h2, if_neg h2]
        exact ih
theorem TreeIs.ent {es : List Ent} {L : List Kls} (T : TreeIs es L) {e : Ent} (he : e ∈ es) : ∃ x, findC L e.k = some x ∧ e.v = dkl x ∧ x.iD = e.k := by
  have : ofE e ∈ L.map ofC := T.perm.mem_iff.1 (List.mem_map.2 ⟨e, he, rfl⟩)
  obtain ⟨x, hx, e1⟩ := List.mem_map.1 this
  simp only [ofC, ofE, Prod.mk.injEq] at e1
  exact ⟨x, (findC_iff T.sorted).2 ⟨hx, e1.1⟩, e1.2.symm, e1.1⟩
theorem TreeIs.pick {es : List Ent} {L : List Kls} (T : TreeIs es L) (g : Kls → Bool) : ((es.filter fun e => sel L g e.k).map (·.k)).Perm ((L.filter g).map (·.iD)) := by
  have h1 := (T.perm.filter fun p => sel L g p.1).map Prod.fst
  have e1 : ((es.map ofE).filter fun p => sel L g p.1).map Prod.fst = (es.filter fun e => sel L g e.k).map (·.k) := by
    rw [List.filter_map, List.map_map]; rfl
  have e2 : ((L.map ofC).filter fun p => sel L g p.1).map Prod.fst = (L.filter g).map (·.iD) := by
    rw [List.filter_map, List.map_map]
    have : L.filter ((fun p => sel L g p.1) ∘ ofC) = L.filter g := List.filter_congr fun x hx => by
      have := (findC_iff T.sorted).2 ⟨hx, rfl⟩
      simp [sel, ofC, this]
    rw [this]; rfl
  rw [e1, e2] at h1
  exact h1
theorem pick_rising {L : List Kls} (h : Rising L) (g : Kls → Bool) : ((L.filter g).map (·.iD)).Pairwise (· < ·) := by
  rw [List.pairwise_map]
  exact List.Pairwise.filter g h
open Go.Shelf in
theorem sort_nil {P : Program} {ρ : Ren} (Ly : Lays.n189 P ρ) (h : List Ob) : MFn P (ρ.f 189) h [.nil] (fun d h' => d = .tup [] ∧ h' = h) := by
  intro Z base w pl vs hbase hZ R hvl hv
  match vs, hvl with
  | [v], _ =>
  obtain ⟨a, e1⟩ := inv_nil (hv 0 (by simp))
  have e1 : v = _ := e1
  subst e1
  refine (Any.slices_Sort_int_none Ly a 0 w).mono ?_
  rintro e w' ⟨rfl, rfl⟩
  exact ⟨_, .tup [], h, pl, rfl, ⟨rfl, rfl⟩, R, .tup [] [] rfl (fun i hi => by simp at hi), Tr.refl _ _ _, .refl _ _⟩
open Go.Shelf in
def Tryz.laysSort_ren : Go.Shelf.Ren := ⟨fun | 189 => 128 | 125 => 180 | 257 => 179 | 128 => 228 | 129 => 229 | 294 => 219 | 295 => 220 | 296 => 221 | 297 => 222 | 298 => 223 | 299 => 224 | 216 => 225 | 300 => 226 | 301 => 227 | 328 => 255 | 329 => 256 | 330 => 257 | 331 => 258 | 332 => 259 | 215 => 260 | 343 => 264 | n => n, fun | 28 => 55 | 3 => 3 | 46 => 270 | 0 => 0 | 51 => 329 | 53 => 33 | 4 => 4 | 183 => 322 | 182 => 321 | 131 => 94 | 5 => 5 | 9 => 9 | 218 => 352 | 222 => 355 | 228 => 360 | 229 => 83 | n => n, fun | n => n⟩
theorem Tryz.laysSort : Go.Proofs.Lays.n189 Tryz.prog Tryz.laysSort_ren := {
  mixed := by kernel_rfl
  f125 := Tryz.func180.trans (congrArg some (by kernel_rfl))
  f128 := Tryz.func228.trans (congrArg some (by kernel_rfl))
  f129 := Tryz.func229.trans (congrArg some (by kernel_rfl))
  f189 := Tryz.func128.trans (congrArg some (by kernel_rfl))
  f215 := Tryz.func260.trans (congrArg some (by kernel_rfl))
  f216 := Tryz.func225.trans (congrArg some (by kernel_rfl))
  f257 := Tryz.func179.trans (congrArg some (by kernel_rfl))
  f294 := Tryz.func219.trans (congrArg some (by kernel_rfl))
  f295 := Tryz.func220.trans (congrArg some (by kernel_rfl))
  f296 := Tryz.func221.trans (congrArg some (by kernel_rfl))
  f297 := Tryz.func222.trans (congrArg some (by kernel_rfl))
  f298 := Tryz.func223.trans (congrArg some (by kernel_rfl))
  f299 := Tryz.func224.trans (congrArg some (by kernel_rfl))
  f300 := Tryz.func226.trans (congrArg some (by kernel_rfl))
  f301 := Tryz.func227.trans (congrArg some (by kernel_rfl))
  f328 := Tryz.func255.trans (congrArg some (by kernel_rfl))
  f329 := Tryz.func256.trans (congrArg some (by kernel_rfl))
  f330 := Tryz.func257.trans (congrArg some (by kernel_rfl))
  f331 := Tryz.func258.trans (congrArg some (by kernel_rfl))
  f332 := Tryz.func259.trans (congrArg some (by kernel_rfl))
  f343 := Tryz.func264.trans (congrArg some (by kernel_rfl))
  t0 := Tryz.underlying0
  a0 := Tryz.isAgg0
  z0 := Tryz.sizeOf0
  v0 := Tryz.zeroValue0
  t3 := Tryz.underlying3
  a3 := Tryz.isAgg3
  z3 := Tryz.sizeOf3
  v3 := Tryz.zeroValue3
  t4 := Tryz.underlying4
  a4 := Tryz.isAgg4
  z4 := Tryz.sizeOf4
  v4 := Tryz.zeroValue4
  t5 := Tryz.underlying5
  a5 := Tryz.isAgg5
  z5 := Tryz.sizeOf5
  v5 := Tryz.zeroValue5
  t9 := Tryz.underlying9
  a9 := Tryz.isAgg9
  z9 := Tryz.sizeOf9
  v9 := Tryz.zeroValue9
  t28 := Tryz.underlying55
  a28 := Tryz.isAgg55
  z28 := Tryz.sizeOf55
  v28 := Tryz.zeroValue55
  t46 := Tryz.underlying270
  a46 := Tryz.isAgg270
  z46 := Tryz.sizeOf270
  v46 := Tryz.zeroValue270
  t51 := Tryz.underlying329
  a51 := Tryz.isAgg329
  z51 := Tryz.sizeOf329
  v51 := Tryz.zeroValue329
  t53 := Tryz.underlying33
  a53 := Tryz.isAgg33
  z53 := Tryz.sizeOf33
  v53 := Tryz.zeroValue33
  t131 := Tryz.underlying94
  a131 := Tryz.isAgg94
  z131 := Tryz.sizeOf94
  v131 := Tryz.zeroValue94
  t182 := Tryz.underlying321
  a182 := Tryz.isAgg321
  z182 := Tryz.sizeOf321
  v182 := Tryz.zeroValue321
  t183 := Tryz.underlying322
  a183 := Tryz.isAgg322
  z183 := Tryz.sizeOf322
  v183 := Tryz.zeroValue322
  t218 := Tryz.underlying352
  a218 := Tryz.isAgg352
  z218 := Tryz.sizeOf352
  v218 := Tryz.zeroValue352
  t222 := Tryz.underlying355
  a222 := Tryz.isAgg355
  z222 := Tryz.sizeOf355
  v222 := Tryz.zeroValue355
  t228 := Tryz.underlying360
  a228 := Tryz.isAgg360
  z228 := Tryz.sizeOf360
  v228 := Tryz.zeroValue360
  t229 := Tryz.underlying83
  a229 := Tryz.isAgg83
  z229 := Tryz.sizeOf83
  v229 := Tryz.zeroValue83 }
end Go.Fg.X
namespace Go.Fg.X
open Go.Proofs Go.Fg
set_option maxRecDepth 100000
set_option maxHeartbeats 4000000
set_option linter.unusedSimpArgs false
set_option linter.unusedVariables false
theorem sortI_ok {h : List Ob} {l g off N : Nat} {row : Nat → List D} {zs : List Int} (ho : h[l]? = some ⟨.arr, g, 1, N, row⟩) (hn : off + zs.length ≤ N) (hr : ∀ i, i < zs.length → row (off + i) = [.raw (.int .i64 (zs.getD i 0))]) (hlen : zs.length < 4611686018427387904) :
    MFn Tryz.prog 128 h [.ref l g off zs.length] (fun d h' => d = .tup [] ∧ h' = h.set l ⟨.arr, g, 1, N, sortRow off row (sorted zs)⟩) := sort_ok Tryz.laysSort ho hn hr hlen
theorem sortN_ok (h : List Ob) : MFn Tryz.prog 128 h [.nil] (fun d h' => d = .tup [] ∧ h' = h) := sort_nil Tryz.laysSort h
theorem argEq_refl (d : D) : argEq d d := by unfold argEq; split <;> first | exact rfl | simp_all
theorem argsEq_refl : ∀ l : List D, argsEq l l
  | [] => trivial
  | d :: r => ⟨argEq_refl d, argsEq_refl r⟩
/-- What a function value tells of a class, whatever is lent to it. -/
def Tells (F : List Ob) (f nf : Nat) (caps : List D) (g : Kls → Bool) : Prop := ∀ (h : List Ob) (c : Kls), ExtF F h → RFn0 Tryz.prog f h (argsD nf caps [dkl c]) (fun d => d = dbool (g c))
structure WInv (t m c : Nat) (es : List Ent) (L : List Kls) (gk : Kls → Bool) (so : D) (F : List Ob) (n : Nat) (s : St) : Prop where
  ex : ∃ seen d out H, leftE es seen = n ∧ ExtF F H ∧ SlcH F.length H d out ∧ out.Perm ((es.filter fun e => seen.contains e.b && sel L gk e.k).map (·.k)) ∧ H[F.length]? = some (iterOb m c c seen) ∧
    s = ⟨[(0, .ptr t 0 0 0), (1, so), (5, d), (14, .mref F.length 0)], H⟩
section
variable (h : List Ob) (t m c : Nat) {es : List Ent} {L : List Kls} (T : TreeIs es L) (hlen : L.length < 1000000)
  (ht : (h.map Ob.ro)[t]? = some ⟨.rone, 0, 1, 1, fun _ => [.mref m 0]⟩) (hm : (h.map Ob.ro)[m]? = some (mapOb .i64 c es).ro)
include T ht hm hlen
theorem hwhich_ok (so : D) (f nf : Nat) (caps : List D) (hf : FnOk Tryz.prog f) (hso : calleeD so = some (f, nf, caps)) (gk : Kls → Bool) (hg : Tells (h.map Ob.ro) f nf caps gk) :
    RFn Tryz.prog 75 h [.ptr t 0 0 0, so] (fun d g => SlcH h.length (h ++ g) d ((L.filter gk).map (·.iD))) := by
  refine RFn_hx cx_ok 200 Tryz.func75 rfl Tryz.ntmps75 Tryz.results75 rfl fun base w pl F hF hFl hb => ?_
  rw [← hF] at ht hm
  have ht_l := hlt ht
  have hm_l := hlt hm
  simp only [go_sem, simprocAttr, hgetA, hgetL, hgetLk, hsetA, hsetL, hsetLk, List.length_append, List.length_set, List.append_assoc, List.set_set, ht, ht_l, hm, hm_l]
  refine kont_births (kd := .rmap) (q := .i64) (l := m) (c := c) (es := es) rfl (by simp only [go_sem, simprocAttr, hgetA, hgetL, hgetLk, hsetA, hsetL, hsetLk, List.length_append, List.length_set, List.append_assoc, List.set_set, hm, hm_l]; rfl) fun hB => ?_
  refine kont_loop (WInv t m c es L gk so F) (leftE es []) (s0 := ⟨[(0, .ptr t 0 0 0), (1, so), (5, .nil), (14, .mref F.length 0)], F ++ [iterOb m c c []]⟩) (Weak.frame (by simp only [go_sem, simprocAttr])) ⟨[], .nil, [], _, rfl, ⟨_, rfl⟩, .inl ⟨rfl, rfl⟩, by simp, by rw [hgetL rfl]; rfl, rfl⟩ ?_
  rintro n s ⟨seen, d, out, H, hn, hx, hs, hp, hit, rfl⟩
  have hm2 := hx.get hm
  have hm2_l := hlt hm2
  have hit_l := hlt hit
  refine kont_of_hx cx_ok hb 200 ?_
  simp only [go_sem, simprocAttr, hgetA, hgetL, hgetLk, hsetA, hsetL, hsetLk, List.length_append, List.length_set, List.append_assoc, List.set_set]
  refine kont_next hb (li := F.length) (l := m) (c := c) (es := es) (seen := seen) (q := .i64) (kd := .rmap) rfl hit rfl hm2 rfl (fun hall => ?_) (fun e he hns => ?_)
  · refine kont_of_hx cx_ok hb 200 ?_
    simp only [go_sem, simprocAttr, hgetA, hgetL, hgetLk, hsetA, hsetL, hsetLk, List.length_append, List.length_set, List.append_assoc, List.set_set]
    have hfin : sorted out = (L.filter gk).map (·.iD) := by
      refine sorted_of_perm (hp.trans ?_) (pick_rising T.sorted gk)
      have : (es.filter fun e => seen.contains e.b && sel L gk e.k) = es.filter fun e => sel L gk e.k := List.filter_congr fun e he => by
        have : seen.contains e.b = true := by simpa using hall e he
        rw [this, Bool.true_and]
      rw [this]
      exact T.pick gk
    have hol : out.length < 4611686018427387904 := by
      have h1 : out.length = ((L.filter gk).map (·.iD)).length := by rw [← hfin, sorted_len]
      have h2 := List.length_filter_le gk L
      rw [List.length_map] at h1
      omega
    rcases hs with ⟨rfl, rfl⟩ | ⟨lo, g, off, row, rfl, hlo, ho, hr⟩
    · refine kont_of_hx cx_ok hb 200 ?_
      simp only [go_sem, simprocAttr, hgetA, hgetL, hgetLk, hsetA, hsetL, hsetLk, List.length_append, List.length_set, List.append_assoc, List.set_set]
      refine kont_callH hb fn128 rfl ?_ (sortN_ok H) rfl fun d h hR => ?_
      · simp only [go_sem, simprocAttr]
      obtain ⟨rfl, rfl⟩ := hR
      refine kont_of_hx cx_ok hb 200 ?_
      simp only [go_sem, simprocAttr]
      exact SlcH.done hFl hx (.inl ⟨rfl, by rw [← hfin]; simp [sorted]⟩)
    · have ho_l := hlt ho
      refine kont_of_hx cx_ok hb 200 ?_
      simp only [go_sem, simprocAttr, hgetA, hgetL, hgetLk, hsetA, hsetL, hsetLk, List.length_append, List.length_set, List.append_assoc, List.set_set]
      refine kont_callH hb fn128 rfl ?_ (sortI_ok ho (Nat.le_refl _) hr hol) rfl fun d h hR => ?_
      · simp only [go_sem, simprocAttr]
      obtain ⟨rfl, rfl⟩ := hR
      refine kont_of_hx cx_ok hb 200 ?_
      simp only [go_sem, simprocAttr]
      refine SlcH.done hFl (hx.set hlo _) ?_
      have hSl : ((L.filter gk).map (·.iD)).length = out.length := by rw [← hfin, sorted_len]
      refine .inr ⟨lo, g, off, sortRow off row (sorted out), ?_, hlo, ?_, ?_⟩
      · rw [hSl]
      · rw [hSl]; exact hgetS ho_l
      · rw [hfin]
        intro i hi
        unfold sortRow
        rw [if_pos (by omega), show off + i - off = i by omega]
        rfl
  · obtain ⟨x, hfx, hev, hid⟩ := T.ent he
    rw [hev]
    have hsel : sel L gk e.k = gk x := by simp [sel, hfx]
    obtain ⟨H', hH'⟩ : ∃ H', H' = H.set F.length (iterOb m c c (seen ++ [e.b])) := ⟨_, rfl⟩
    have hx' : ExtF F H' := by rw [hH']; exact hx.set (Nat.le_refl _) _
    have hit' : H'[F.length]? = some (iterOb m c c (seen ++ [e.b])) := by rw [hH']; exact hgetS hit_l
    have hs' : SlcH F.length H' d out := by
      rcases hs with hs | ⟨lo, g, off, row, h1, h2, h3, h4⟩
      · exact .inl hs
      · refine .inr ⟨lo, g, off, row, h1, h2, ?_, h4⟩
        rw [hH', hgetN (by rintro rfl; rw [hit] at h3; cases h3)]
        exact h3
    have hm3 := hx'.get hm
    have hm3_l := hlt hm3
    have hit'_l := hlt hit'
    have hstep := filt_step (fun e => sel L gk e.k) hB.nodup he hns
    have hlt2 := leftE_lt he hns
    rw [← hH']
    refine kont_of_hx cx_ok hb 200 ?_
    simp only [go_sem, simprocAttr, hgetA, hgetL, hgetLk, hsetA, hsetL, hsetLk, List.length_append, List.length_set, List.append_assoc, List.set_set]
    refine kont_of_hx cx_ok hb 200 ?_
    simp only [go_sem, simprocAttr, hgetA, hgetL, hgetLk, hsetA, hsetL, hsetLk, List.length_append, List.length_set, List.append_assoc, List.set_set]
    refine kont_entry (li := F.length) (l := m) (c := c) (es := es) (seen := seen) (q := .i64) (kd := .rmap) (e := e) rfl hit' rfl hm3 he rfl ?_
    rw [hev]
    refine kont_of_hx cx_ok hb 200 ?_
    simp only [go_sem, simprocAttr, hgetA, hgetL, hgetLk, hsetA, hsetL, hsetLk, List.length_append, List.length_set, List.append_assoc, List.set_set]
    refine kont_of_hx cx_ok hb 200 ?_
    simp only [go_sem, simprocAttr, hgetA, hgetL, hgetLk, hsetA, hsetL, hsetLk, List.length_append, List.length_set, List.append_assoc, List.set_set]
    refine kont_callR0 hb hf hso ?_ (hg _ x ?_) rfl fun d2 hR => ?_
    · simp only [go_sem, simprocAttr]
      exact argsEq_refl _
    · rw [← hF]; exact hx'.app _
    subst hR
    refine kont_of_hx cx_ok hb 200 ?_
    have hol : out.length ≤ es.length := by
      have h1 := hp.length_eq
      rw [List.length_map] at h1
      rw [h1]; exact List.length_filter_le _ _
    have hol2 := T.len
    simp only [hsel] at hstep
    cases hgx : gk x
    · simp only [hgx, Bool.false_eq_true, if_false] at hstep
      simp only [go_sem, simprocAttr, hgetA, hgetL, hgetLk, hsetA, hsetL, hsetLk, List.length_append, List.length_set, List.append_assoc, List.set_set]
      exact ⟨leftE es (seen ++ [e.b]), ⟨[(0, .ptr t 0 0 0), (1, so), (5, d), (14, .mref F.length 0)], _⟩, by omega, Weak.frame (by simp only [go_sem, simprocAttr]), ⟨⟨seen ++ [e.b], d, out, _, rfl, hx'.app _, hs'.app _, hp.trans (hstep.map _).symm, by rw [hgetA hit'_l]; exact hit', rfl⟩⟩⟩
    · simp only [hgx, if_true] at hstep
      have hp2 : (out ++ [e.k]).Perm ((es.filter fun x => (seen ++ [e.b]).contains x.b && sel L gk x.k).map (·.k)) := by
        refine (List.perm_append_comm.trans ?_).trans (hstep.map _).symm
        exact hp.cons e.k
      rcases hs' with ⟨rfl, rfl⟩ | ⟨lo, g, off, row, rfl, hlo, ho, hr⟩
      · simp only [go_sem, simprocAttr, hgetA, hgetL, hgetLk, hsetA, hsetL, hsetLk, List.length_append, List.length_set, List.append_assoc, List.set_set]
        refine ⟨leftE es (seen ++ [e.b]), ⟨[(0, .ptr t 0 0 0), (1, so), (5, .ref (H'.length + 2) 0 0 1), (14, .mref F.length 0)], _⟩, by omega, Weak.frame (by simp only [go_sem, simprocAttr]), ⟨⟨seen ++ [e.b], _, [e.k], _, rfl, hx'.app _, ?_, hp2, by rw [hgetA hit'_l]; exact hit', rfl⟩⟩⟩
        have := hx'.len
        refine .inr ⟨H'.length + 2, 0, 0, _, rfl, by omega, by rw [hgetLk rfl]; rfl, fun i hi => ?_⟩
        have : i = 0 := by simp at hi; omega
        subst this; rfl
      · have ho_l := hlt ho
        have hne : F.length ≠ lo := by rintro rfl; rw [hit'] at ho; cases ho
        simp only [go_sem, simprocAttr, hgetA, hgetL, hgetLk, hsetA, hsetL, hsetLk, List.length_append, List.length_set, List.append_assoc, List.set_set, ho, ho_l]
        refine ⟨by omega, leftE es (seen ++ [e.b]), ⟨[(0, .ptr t 0 0 0), (1, so), (5, .ref lo (g + 1) 0 (out.length + 1)), (14, .mref F.length 0)], _⟩, by omega, Weak.frame (by simp only [go_sem, simprocAttr]), ⟨⟨seen ++ [e.b], _, out ++ [e.k], _, rfl, ?_, ?_, hp2, ?_, rfl⟩⟩⟩
        · exact (hx'.set hlo _).app _
        · refine .inr ⟨lo, g + 1, 0, _, by simp, by omega, ?_, slc_push hr⟩
          rw [hgetA (by simpa using ho_l), hgetS ho_l]
          simp [dint]
        · rw [hgetA (by simpa using hit'_l), hgetN (Ne.symm hne)]; exact hit'
end
end Go.Fg.X
namespace Go.Fg.X
open Go.Proofs Go.Fg
set_option maxRecDepth 100000
set_option maxHeartbeats 4000000
set_option linter.unusedSimpArgs false
set_option linter.unusedVariables false
/-- What a function value tells of a number, whatever is lent to it. -/
def TellsE (F : List Ob) (f nf : Nat) (caps : List D) (g : Ev → Bool) : Prop := ∀ (h : List Ob) (n : Ev), ExtF F h → RFn0 Tryz.prog f h (argsD nf caps [.agg n.cells]) (fun d => d = dbool (g n))
def firstE (g : Ev → Bool) (l : List Ev) : Int := match l.findIdx? g with
  | some i => i
  | none => -1
theorem firstE_at {g : Ev → Bool} {l : List Ev} {k : Nat} (hk : k < l.length) (h : ∀ i, i < k → g (l.getD i default) = false) (hg : g (l.getD k default) = true) : firstE g l = k := by
  have e : l.findIdx? g = some k := by
    rw [List.findIdx?_eq_some_iff_getElem]
    refine ⟨hk, by simpa [List.getD_eq_getElem?_getD, hk] using hg, fun i hi => ?_⟩
    have := h i hi
    simpa [List.getD_eq_getElem?_getD, show i < l.length by omega] using this
  rw [firstE, e]
theorem firstE_none {g : Ev → Bool} {l : List Ev} (h : ∀ i, i < l.length → g (l.getD i default) = false) : firstE g l = -1 := by
  have e : l.findIdx? g = none := by
    rw [List.findIdx?_eq_none_iff]
    intro x hx
    obtain ⟨i, hi, rfl⟩ := List.getElem_of_mem hx
    have := h i hi
    simpa [List.getD_eq_getElem?_getD, hi] using this
  rw [firstE, e]
section
variable (h : List Ob) (l : List Ev) (lo gn off : Nat) (row : Nat → List D) (hlen : l.length < 1000000) (ho : (h.map Ob.ro)[lo]? = some ⟨.rarr, gn, 12, off + l.length, row⟩) (hr : ∀ i, i < l.length → row (off + i) = (l.getD i default).cells)
include hlen ho hr
theorem indexFuncE_ok (so : D) (f nf : Nat) (caps : List D) (hf : FnOk Tryz.prog f) (hso : calleeD so = some (f, nf, caps)) (gk : Ev → Bool) (hg : TellsE (h.map Ob.ro) f nf caps gk) :
    RFn0 Tryz.prog 188 h [.ref lo gn off l.length, so] (fun d => d = dint (firstE gk l)) := by
  refine RFn0_hx cx_ok 200 Tryz.func188 rfl Tryz.ntmps188 Tryz.results188 rfl fun base w pl F hF hFl hb => ?_
  rw [← hF] at ho
  have ho_l := hlt ho
  simp only [go_sem, simprocAttr, hgetA, hgetL, hgetLk, hsetA, hsetL, hsetLk, List.length_append, List.length_set, List.append_assoc, List.set_set, ho, ho_l]
  refine kont_for (fun k s => (∀ i, i < k → gk (l.getD i default) = false) ∧ s = ⟨[(0, .ref lo gn off l.length), (1, so), (7, dint l.length), (8, dint k)], F⟩) l.length (Weak.frame (by simp only [go_sem, simprocAttr])) ⟨fun i hi => absurd hi (by omega), rfl⟩ ?_
  rintro k s hk ⟨hn, rfl⟩
  refine kont_of_hx cx_ok hb 200 ?_
  simp only [go_sem, simprocAttr, hgetA, hgetL, hgetLk, hsetA, hsetL, hsetLk, List.length_append, List.length_set, List.append_assoc, List.set_set]
  have ho_l := hlt ho
  have hwr := wrap_succ (show k < 4611686018427387904 by omega)
  first | refine hite_lt hk (fun hk1 => ?_) (fun hk1 => ?_) | refine hite_ltI hk (fun hk1 => ?_) (fun hk1 => ?_)
  · have hrk := hr k hk1
    have hk3 : off + k < off + l.length := by omega
    simp only [go_sem, simprocAttr, hgetA, hgetL, hgetLk, hsetA, hsetL, hsetLk, List.length_append, List.length_set, List.append_assoc, List.set_set, ho, ho_l, hk1, hrk, hk3]
    refine kont_callR0 hb hf hso ?_ (hg F (l.getD k default) (by rw [← hF]; exact ExtF.refl F)) rfl fun d2 hR => ?_
    · simp only [go_sem, simprocAttr]
      exact argsEq_refl _
    subst hR
    refine kont_of_hx cx_ok hb 200 ?_
    cases hgk : gk (l.getD k default)
    · simp only [go_sem, simprocAttr, hgetA, hgetL, hgetLk, hsetA, hsetL, hsetLk, List.length_append, List.length_set, List.append_assoc, List.set_set]
      refine ⟨hk1, _, Weak.frame (by simp only [go_sem, simprocAttr, hwr]), fun i hi => ?_, rfl⟩
      by_cases h1 : i < k
      · exact hn i h1
      · have : i = k := by omega
        subst this; exact hgk
    · rw [firstE_at hk1 hn hgk]
      simp only [go_sem, simprocAttr, hgetA, hgetL, hgetLk, hsetA, hsetL, hsetLk, List.length_append, List.length_set, List.append_assoc, List.set_set]
      exact ⟨[], (List.append_nil F).symm⟩
  · have hk1 : k = l.length := by omega
    subst hk1
    simp only [go_sem, simprocAttr, Nat.lt_irrefl]
    rw [firstE_none hn]
    refine kont_of_hx cx_ok hb 200 ?_
    simp only [go_sem, simprocAttr, hgetA, hgetL, hgetLk, hsetA, hsetL, hsetLk, List.length_append, List.length_set, List.append_assoc, List.set_set]
    exact ⟨[], (List.append_nil F).symm⟩
end
theorem indexFuncEN_ok (h : List Ob) (so : D) : RFn0 Tryz.prog 188 h [.nil, so] (fun d => d = dint (-1)) := by
  refine RFn0_hx cx_ok 200 Tryz.func188 rfl Tryz.ntmps188 Tryz.results188 rfl fun base w pl F hF hFl hb => ?_
  simp only [go_sem, simprocAttr, hgetA, hgetL, hgetLk, hsetA, hsetL, hsetLk, List.length_append, List.length_set, List.append_assoc, List.set_set]
  refine kont_for (fun k s => s = ⟨[(7, dint 0), (8, dint 0)], F⟩) 0 (Weak.frame (by simp only [go_sem, simprocAttr])) rfl ?_
  rintro k s hk rfl
  refine kont_of_hx cx_ok hb 200 ?_
  simp only [go_sem, simprocAttr, hgetA, hgetL, hgetLk, hsetA, hsetL, hsetLk, List.length_append, List.length_set, List.append_assoc, List.set_set]
  refine kont_of_hx cx_ok hb 200 ?_
  simp only [go_sem, simprocAttr, hgetA, hgetL, hgetLk, hsetA, hsetL, hsetLk, List.length_append, List.length_set, List.append_assoc, List.set_set]
  exact ⟨[], (List.append_nil F).symm⟩
end Go.Fg.X
/- A slice that a call built and hands back, told as a closed value. No conditions. -/
namespace Go.Fg.X
set_option linter.unusedSimpArgs false
set_option linter.unusedVariables false
open Go.Proofs Go.Fg
open Go.RowKit (Below)
set_option maxRecDepth 100000
theorem RelO.nil {Z : Nat → Prop} {base : Nat} {w : World} : RelO Z base [] [] w := ⟨rfl, fun l l' b q q' e1 e2 => by simp at e1, fun l o e => by simp at e, fun l o b q e => by simp at e⟩
/-- What a call built and hands back within something, told as a closed value. -/
theorem freezeG {P : Program} {f : FuncId} {args : List D} {R : D → List Ob → Prop} (d2 : D) (hu : d2.upto 0 = true)
    (hd : ∀ d hh, R d hh → ∃ g sz n row, hh = [⟨.arr, g, sz, n, row⟩] ∧ (∀ i, i < n → (row i).all D.cl1 = true) ∧ dLe 6 (D.fz 0 g n sz row d) d2) (h : AFn P f args R) : AFn P f args (Ret d2) := by
  intro Z base w pl vs h1 h2 h3 hl hc
  have hpl : pl = [] := by have := h3.len; simpa using this
  subst hpl
  refine (h Z base w [] vs h1 h2 h3 hl hc).mono fun e w' he => ?_
  obtain ⟨v, d, hh, pl', rfl, hR, hO, hV, hT, hB⟩ := he
  obtain ⟨g, sz, n, row, rfl, hcl, hle⟩ := hd _ _ hR
  have hlen : pl'.length = 1 := by have := hO.len; simpa using this
  obtain ⟨p, rfl⟩ : ∃ p, pl' = [p] := by
    match pl', hlen with
    | [p], _ => exact ⟨p, rfl⟩
  have hfz := hV.fz (l := 0) (o := ⟨.arr, g, sz, n, row⟩) (p := p) rfl rfl rfl (fun b q e => by
    subst e
    refine ⟨h2 b ?_, fun l' q' e' => ?_, (hO.at_ 0 _ b q rfl rfl).2.cells rfl⟩
    · rcases Nat.lt_or_ge b w.heap.size with hlt | hge
      · exact absurd rfl ((hT.old b (fun i q e => by simp at e) hlt).1 0 q)
      · exact hge
    · have := ltp_of_some e'; simp at this; exact this) hcl (h' := [Ob.gone ⟨.arr, g, sz, n, row⟩]) (fun l' o' hne e => by
    have := lt_of_some e
    simp at this; exact absurd this hne)
  have h5 := (dLe_rel 6 hle hfz).take hu
  exact ⟨v, _, [], [], rfl, ⟨rfl, rfl⟩, RelO.nil, h5, ⟨fun b hb hlt => ⟨hb, (hT.old b hb hlt).2⟩, fun l o p e => by simp at e, fun l o o' b q e => by simp at e⟩, hB⟩

/-- The same, of the slice alone. -/
theorem freezeR {P : Program} {f : FuncId} {args : List D} {sz n : Nat} {row : Nat → List D} (hcl : ∀ i, i < n → (row i).all D.cl1 = true)
    (h : AFn P f args (fun d hh => ∃ g row', d = .ref 0 g 0 n ∧ hh = [⟨.arr, g, sz, n, row'⟩] ∧ ∀ i, i < n → row' i = row i)) : AFn P f args (Ret (.imm sz n row)) := by
  refine freezeG _ rfl ?_ h
  rintro d hh ⟨g, row', rfl, rfl, hr⟩
  refine ⟨g, sz, _, row', rfl, fun i hi => by rw [hr i hi]; exact hcl i hi, ?_⟩
  have e1 : D.fz 0 g n sz row' (.ref 0 g 0 n) = .imm sz n (rowFrom 0 row') := by simp [D.fz, nat_ble]
  rw [e1, dLe_imm]
  refine ⟨rfl, rfl, fun i hi => ?_⟩
  rw [rowFrom_at, Nat.zero_add, hr i hi]
  exact lLeOf_refl (dLe_refl _) _
end Go.Fg.X
/- A slice that a call built beside other objects and hands back, told as a closed value; the other objects are forgotten. No conditions. -/
namespace Go.Fg.X
set_option linter.unusedSimpArgs false
set_option linter.unusedVariables false
open Go.Proofs Go.Fg
open Go.RowKit (Below)
set_option maxRecDepth 100000
theorem freezeH {P : Program} {f : FuncId} {args : List D} {R : D → List Ob → Prop} (d2 : D) (hu : d2.upto 0 = true)
    (hd : ∀ d hh, R d hh → dLe 6 d d2 ∨ ∃ lo g sz n row, hh[lo]? = some ⟨.arr, g, sz, n, row⟩ ∧ (∀ i, i < n → (row i).all D.cl1 = true) ∧ dLe 6 (D.fz lo g n sz row d) d2) (h : AFn P f args R) : AFn P f args (Ret d2) := by
  intro Z base w pl vs h1 h2 h3 hl hc
  have hpl : pl = [] := by have := h3.len; simpa using this
  subst hpl
  refine (h Z base w [] vs h1 h2 h3 hl hc).mono fun e w' he => ?_
  obtain ⟨v, d, hh, pl', rfl, hR, hO, hV, hT, hB⟩ := he
  suffices fin : RelV Z [] [] w' d2 v by
    exact ⟨v, _, [], [], rfl, ⟨rfl, rfl⟩, RelO.nil, fin, ⟨fun b hb hlt => ⟨hb, (hT.old b hb hlt).2⟩, fun l o p e => by simp at e, fun l o o' b q e => by simp at e⟩, hB⟩
  rcases hd _ _ hR with hle | ⟨lo, g, sz, n, row, hlo, hcl, hle⟩
  · exact (dLe_rel 6 hle hV).take hu
  have hlt : lo < pl'.length := by rw [hO.len]; exact (List.getElem?_eq_some_iff.1 hlo).1
  obtain ⟨p, hp⟩ : ∃ p, pl'[lo]? = some p := ⟨_, List.getElem?_eq_getElem hlt⟩
  have hfz := hV.fz (l := lo) (o := ⟨.arr, g, sz, n, row⟩) (p := p) hlo hp rfl (fun b q e => by
    subst e
    refine ⟨h2 b ?_, fun l' q' e' => ?_, (hO.at_ lo _ b q hlo hp).2.cells rfl⟩
    · rcases Nat.lt_or_ge b w.heap.size with hlt | hge
      · exact absurd hp ((hT.old b (fun i q e => by simp at e) hlt).1 lo q)
      · exact hge
    · exact hO.inj _ _ _ _ _ e' hp) hcl (h' := hh.set lo (Ob.gone ⟨.arr, g, sz, n, row⟩)) (fun l' o' hne e => by
    exact ⟨o', by rw [List.getElem?_set_ne (Ne.symm hne)]; exact e, rfl, rfl, rfl⟩)
  exact (dLe_rel 6 hle hfz).take hu
/-- The same of two slices. -/
theorem freezeH2 {P : Program} {f : FuncId} {args : List D} {R : D → List Ob → Prop} (d2 : D) (hu : d2.upto 0 = true)
    (hd : ∀ d hh, R d hh → ∃ lo g sz n row lo' g' sz' n' row', hh[lo]? = some ⟨.arr, g, sz, n, row⟩ ∧ hh[lo']? = some ⟨.arr, g', sz', n', row'⟩ ∧ lo' ≠ lo ∧ (∀ i, i < n → (row i).all D.cl1 = true) ∧ (∀ i, i < n' → (row' i).all D.cl1 = true) ∧ dLe 6 (D.fz lo' g' n' sz' row' (D.fz lo g n sz row d)) d2) (h : AFn P f args R) : AFn P f args (Ret d2) := by
  intro Z base w pl vs h1 h2 h3 hl hc
  have hpl : pl = [] := by have := h3.len; simpa using this
  subst hpl
  refine (h Z base w [] vs h1 h2 h3 hl hc).mono fun e w' he => ?_
  obtain ⟨v, d, hh, pl', rfl, hR, hO, hV, hT, hB⟩ := he
  suffices fin : RelV Z [] [] w' d2 v by
    exact ⟨v, _, [], [], rfl, ⟨rfl, rfl⟩, RelO.nil, fin, ⟨fun b hb hlt => ⟨hb, (hT.old b hb hlt).2⟩, fun l o p e => by simp at e, fun l o o' b q e => by simp at e⟩, hB⟩
  obtain ⟨lo, g, sz, n, row, lo', g', sz', n', row', hlo, hlo', hdif, hcl, hcl', hle⟩ := hd _ _ hR
  have pos : ∀ {lo : Nat} {o : Ob}, hh[lo]? = some o → ∃ p, pl'[lo]? = some p := fun {lo o} hlo => by
    have hlt : lo < pl'.length := by rw [hO.len]; exact (List.getElem?_eq_some_iff.1 hlo).1
    exact ⟨_, List.getElem?_eq_getElem hlt⟩
  have zb : ∀ {lo b q : Nat}, pl'[lo]? = some (some (b, q)) → Z b := fun {lo b q} hp => h2 b (by
    rcases Nat.lt_or_ge b w.heap.size with hlt | hge
    · exact absurd hp ((hT.old b (fun i q e => by simp at e) hlt).1 lo q)
    · exact hge)
  obtain ⟨p, hp⟩ := pos hlo
  obtain ⟨p', hp'⟩ := pos hlo'
  have r1 := hV.fz (l := lo) (o := ⟨.arr, g, sz, n, row⟩) (p := p) hlo hp rfl (fun b q e => by
    subst e
    exact ⟨zb hp, fun l' q' e' => hO.inj _ _ _ _ _ e' hp, (hO.at_ lo _ b q hlo hp).2.cells rfl⟩) hcl (h' := hh) (fun l' o' hne e => ⟨o', e, rfl, rfl, rfl⟩)
  have hpl : ∀ (l' : Nat), l' ≠ lo → (pl'.set lo none)[l']? = pl'[l']? := fun l' hl' => by rw [List.getElem?_set_ne (Ne.symm hl')]
  have hne : lo' ≠ lo := hdif
  have r2 := r1.fz (l := lo') (o := ⟨.arr, g', sz', n', row'⟩) (p := p') hlo' ((hpl _ hne).trans hp') rfl (fun b q e => by
    subst e
    refine ⟨zb hp', fun l' q' e' => ?_, ?_⟩
    · by_cases e1 : l' = lo
      · subst e1; rw [List.getElem?_set_self (ltp_of_some hp)] at e'; cases e'
      · rw [hpl _ e1] at e'; exact hO.inj _ _ _ _ _ e' hp'
    · obtain ⟨c, el, c1, c2, c3, c4⟩ := (hO.at_ lo' _ b q hlo' hp').2.cells rfl
      refine ⟨c, el, c1, c2, c3, fun i j hi hj => ?_⟩
      obtain ⟨v, hv, hr⟩ := c4 i j hi hj
      have h5 := hcl' i hi
      rw [List.all_eq_true] at h5
      have h6 : j < (row' i).length := by rw [c3 i hi]; exact hj
      have h7 : (nth (row' i) j).cl1 = true := h5 _ (by
        simp only [nth, List.getD_eq_getElem?_getD, List.getElem?_eq_getElem h6, Option.getD_some]
        exact List.getElem_mem h6)
      exact ⟨v, hv, .cl _ _ ((cl1_ok hr h7).mono (N' := free Z (pl'.set lo none)) (w' := w') fun b hb _ => ⟨⟨hb.1, fun l q e => by
        by_cases e1 : l = lo
        · subst e1; rw [List.getElem?_set_self (ltp_of_some hp)] at e; cases e
        · rw [hpl _ e1] at e; exact hb.2 l q e⟩, rfl⟩)⟩) hcl' (h' := hh) (fun l' o' hne e => ⟨o', e, rfl, rfl, rfl⟩)
  exact (dLe_rel 6 hle r2).take hu
end Go.Fg.X
namespace Go.Fg.X
open Go.Proofs Go.Fg
set_option maxRecDepth 100000
set_option maxHeartbeats 4000000
set_option linter.unusedSimpArgs false
set_option linter.unusedVariables false
theorem takeF_succ {α : Type} [Inhabited α] (L : List α) (g : α → Bool) (i : Nat) (h : i < L.length) : (L.take (i + 1)).filter g = if g (L.getD i default) = true then (L.take i).filter g ++ [L.getD i default] else (L.take i).filter g := by
  rw [List.take_add_one, List.getElem?_eq_getElem h]
  simp only [Option.toList_some, List.filter_append, List.getD_eq_getElem?_getD, List.getElem?_eq_getElem h, Option.getD_some]
  by_cases hg : g L[i] = true
  · rw [if_pos hg, List.filter_cons_of_pos hg]; rfl
  · rw [if_neg hg, List.filter_cons_of_neg hg]; simp
theorem takeF_len {α : Type} (L : List α) (g : α → Bool) (i : Nat) : ((L.take i).filter g).length ≤ i := by
  have := List.length_filter_le g (L.take i)
  simp at this; omega
/-- What a function value tells of a number, whatever is lent to it, and whatever object lo holds. -/
def TellsXE (F : List Ob) (lo : Nat) (f nf : Nat) (caps : List D) (g : Ev → Bool) : Prop := ∀ (h : List Ob) (n : Ev), F.length ≤ h.length → (∀ l, l < F.length → l ≠ lo → h[l]? = F[l]?) → RFn0 Tryz.prog f h (argsD nf caps [.agg n.cells]) (fun d => d = dbool (g n))
def keepE (g : Ev → Bool) (l : List Ev) : List Ev := l.filter fun x => !g x
theorem keep_first {g : Ev → Bool} {l : List Ev} : (firstE g l = -1 ∧ keepE g l = l) ∨ ∃ i, i < l.length ∧ firstE g l = (i : Int) ∧ g (l.getD i default) = true ∧ (l.take (i + 1)).filter (fun x => !g x) = l.take i := by
  unfold firstE
  cases h : l.findIdx? g with
  | none =>
    refine .inl ⟨rfl, List.filter_eq_self.2 fun x hx => ?_⟩
    simp [List.findIdx?_eq_none_iff.1 h x hx]
  | some i =>
    obtain ⟨h1, h2, h3⟩ := List.findIdx?_eq_some_iff_getElem.1 h
    refine .inr ⟨i, h1, rfl, by simpa [List.getD_eq_getElem?_getD, h1] using h2, ?_⟩
    rw [takeF_succ l _ i h1, if_neg (by simpa [List.getD_eq_getElem?_getD, h1] using h2)]
    refine List.filter_eq_self.2 fun x hx => ?_
    obtain ⟨j, hj, rfl⟩ := List.getElem_of_mem hx
    simp at hj
    simpa using h3 j (by omega)
theorem st_eq {fr fr' : List (Nat × D)} {H : List Ob} (e : fr = fr') : (⟨fr, H⟩ : St) = ⟨fr', H⟩ := by rw [e]
section
variable (h : List Ob) (l : List Ev) (lo gn off : Nat) (row : Nat → List D) (hlen : l.length < 1000000) (ho : h[lo]? = some ⟨.arr, gn, 12, off + l.length, row⟩) (hr : ∀ i, i < l.length → row (off + i) = (l.getD i default).cells)
include hlen ho hr
theorem deleteFuncE_ok (so : D) (f nf : Nat) (caps : List D) (hf : FnOk Tryz.prog f) (hso : calleeD so = some (f, nf, caps)) (gk : Ev → Bool) (hg : TellsXE h lo f nf caps gk) (hg2 : TellsXE (h.map Ob.ro) lo f nf caps gk) :
    MFn Tryz.prog 144 h [.ref lo gn off l.length, so] (fun d h' => d = .ref lo gn off (keepE gk l).length ∧ ∃ row', h'[lo]? = some ⟨.arr, gn, 12, off + l.length, row'⟩ ∧ (∀ i, i < (keepE gk l).length → row' (off + i) = ((keepE gk l).getD i default).cells)) := by
  refine MFn_hx cx_ok 200 Tryz.func144 rfl Tryz.ntmps144 Tryz.results144 rfl fun base w pl hb => ?_
  have ho_l := hlt ho
  simp only [go_sem, simprocAttr, hgetA, hgetL, hgetLk, hsetA, hsetL, hsetLk, List.length_append, List.length_set, List.append_assoc, List.set_set, ho, ho_l]
  refine kont_callR0 hb fn188 rfl ?_ (indexFuncE_ok h l lo gn off row hlen (ro_get ho) hr so f nf caps hf hso gk (fun h' n hx => ?_)) rfl fun d2 hR => ?_
  · simp only [go_sem, simprocAttr]
    exact argEq_refl so
  · obtain ⟨g, rfl⟩ := hx
    exact hg2 _ n (by simp) fun l hl _ => hgetA hl
  subst hR
  rcases keep_first (g := gk) (l := l) with ⟨h1, h2⟩ | ⟨i, hi, h1, h2, h3⟩
  · rw [h1, h2]
    refine kont_of_hx cx_ok hb 200 ?_
    simp only [go_sem, simprocAttr, hgetA, hgetL, hgetLk, hsetA, hsetL, hsetLk, List.length_append, List.length_set, List.append_assoc, List.set_set, ho, ho_l]
    exact ⟨row, rfl, hr⟩
  · rw [h1]
    have hne : (((i : Nat) : Int) == -1) = false := by simp
    have hwr := wrap_succ (show i < 4611686018427387904 by omega)
    refine kont_of_hx cx_ok hb 200 ?_
    simp only [go_sem, simprocAttr, hgetA, hgetL, hgetLk, hsetA, hsetL, hsetLk, List.length_append, List.length_set, List.append_assoc, List.set_set, ho, ho_l, hne, hwr]
    refine kont_for (fun k s => ∃ (H : List Ob) (r2 : Nat → List D), H[lo]? = some ⟨.arr, gn, 12, off + l.length, r2⟩ ∧ (∀ x, x < h.length → x ≠ lo → H[x]? = h[x]?) ∧ h.length ≤ H.length ∧ (∀ x, x < l.length → (r2 (off + x)).length = 12) ∧ (∀ j, j < ((l.take (i + 1 + k)).filter fun x => !gk x).length → r2 (off + j) = (((l.take (i + 1 + k)).filter fun x => !gk x).getD j default).cells) ∧ (∀ j, i + 1 + k ≤ j → j < l.length → r2 (off + j) = (l.getD j default).cells) ∧
      s = ⟨[(0, .ref lo gn off l.length), (1, so), (5, dint ((l.take (i + 1 + k)).filter fun x => !gk x).length), (6, dint (i + 1 + k : Nat))], H⟩) (l.length - (i + 1))
      (s0 := ⟨[(0, .ref lo gn off l.length), (1, so), (5, dint i), (6, dint (i + 1 : Nat))], h⟩) (Weak.frame (by simp only [go_sem, simprocAttr])) ⟨h, row, ho, fun _ _ _ => rfl, Nat.le_refl _, fun x hx => by rw [hr x hx]; rfl, ?_, fun j _ hj => hr j hj, ?_⟩ ?_
    · rw [Nat.add_zero, h3]
      intro j hj
      simp at hj
      rw [hr j (by omega)]
      simp [List.getD_eq_getElem?_getD, hj, show j < l.length by omega]
    · rw [Nat.add_zero, h3]
      simp [Nat.min_eq_left (Nat.le_of_lt hi)]
    rintro k s hk ⟨H, r2, hget, hagree, hle, hr1, hr2, hr3, rfl⟩
    have hlen2 := takeF_len l (fun x => !gk x) (i + 1 + k)
    obtain ⟨M, hM⟩ : ∃ M, M = (l.take (i + 1 + k)).filter fun x => !gk x := ⟨_, rfl⟩
    obtain ⟨j, hj⟩ : ∃ j, j = i + 1 + k := ⟨_, rfl⟩
    have hl1 := hlt hget
    rw [← hj] at hM hr2 hr3 hlen2 ⊢
    rw [← hM] at hr2 hlen2 ⊢
    have hjl : j ≤ l.length := by omega
    have hwr := wrap_succ (show j < 4611686018427387904 by omega)
    have hwr2 := wrap_succ (show M.length < 4611686018427387904 by omega)
    refine kont_of_hx cx_ok hb 200 ?_
    simp only [go_sem, simprocAttr, hgetA, hgetL, hgetLk, hsetA, hsetL, hsetLk, List.length_append, List.length_set, List.append_assoc, List.set_set, hget, hl1]
    first | refine hite_lt hjl (fun hk1 => ?_) (fun hk1 => ?_) | refine hite_ltI hjl (fun hk1 => ?_) (fun hk1 => ?_)
    · have hrj := hr3 j (Nat.le_refl _) hk1
      have hb1 : off + j < off + l.length := by omega
      simp only [go_sem, simprocAttr, hgetA, hgetL, hgetLk, hsetA, hsetL, hsetLk, List.length_append, List.length_set, List.append_assoc, List.set_set, hk1, hget, hl1, hrj, hb1]
      refine kont_callR0 hb hf hso ?_ (hg _ (l.getD j default) (by simp; omega) (fun x h1 h2 => by rw [hgetA (Nat.lt_of_lt_of_le h1 hle)]; exact hagree x h1 h2)) rfl fun d2 hR => ?_
      · simp only [go_sem, simprocAttr, hgetA, hgetL, hgetLk, hsetA, hsetL, hsetLk, List.length_append, List.length_set, List.append_assoc, List.set_set]
        exact argsEq_refl _
      subst hR
      have hst := takeF_succ l (fun x => !gk x) j hk1
      rw [← hM] at hst
      have ej : i + 1 + (k + 1) = j + 1 := by omega
      cases hgk : gk (l.getD j default)
      · rw [if_pos (by simp only [hgk, Bool.not_false])] at hst
        have hb2 : M.length < l.length := by omega
        have hb3 : off + M.length < off + l.length := by omega
        have hdrop : List.drop 12 (r2 (off + M.length)) = [] := List.drop_eq_nil_of_le (by rw [hr1 _ hb2]; exact Nat.le_refl _)
        refine kont_of_hx cx_ok hb 200 ?_
        simp only [go_sem, simprocAttr, hgetA, hgetL, hgetLk, hsetA, hsetL, hsetLk, List.length_append, List.length_set, List.append_assoc, List.set_set, hget, hl1, hwr, hwr2, hb2, hb3, hdrop, hr1 M.length hb2]
        have hb5 : (M ++ [l.getD j default]).length = M.length + 1 := by simp
        refine ⟨by omega, _, Weak.frame (fr' := [(0, .ref lo gn off l.length), (1, so), (5, dint (M.length + 1 : Nat)), (6, dint (j + 1 : Nat))]) (by simp only [go_sem, simprocAttr]), _, fun x => bif x == off + M.length then (l.getD j default).cells else r2 x, ?_, ?_, ?_, ?_, ?_, ?_, st_eq (by rw [ej, hst, hb5]; rfl)⟩
        · rw [hgetA (by simp; exact hl1), List.getElem?_set_self hl1]; rfl
        · intro x hx1 hx2
          rw [hgetA (by simp; omega), List.getElem?_set_ne (Ne.symm hx2)]; exact hagree x hx1 hx2
        · simp; omega
        · intro x hx
          show (bif off + x == off + M.length then (l.getD j default).cells else r2 (off + x)).length = 12
          cases (off + x == off + M.length)
          · exact hr1 x hx
          · rfl
        · rw [ej, hst]
          intro x hx
          simp at hx
          by_cases hxm : x = M.length
          · subst hxm; simp only [beq_self_eq_true, cond_true]; simp; rfl
          · have e1 : (off + x == off + M.length) = false := by simp; omega
            have := hr2 x (by omega)
            simp only [e1, cond_false, this]
            rw [List.getD_eq_getElem?_getD, List.getD_eq_getElem?_getD, List.getElem?_append_left (by omega)]; rfl
        · intro x hx1 hx2
          have e1 : (off + x == off + M.length) = false := by simp; omega
          simp only [e1, cond_false]
          exact hr3 x (by omega) hx2
      · rw [if_neg (by simp only [hgk, Bool.not_true]; decide)] at hst
        refine kont_of_hx cx_ok hb 200 ?_
        simp only [go_sem, simprocAttr, hgetA, hgetL, hgetLk, hsetA, hsetL, hsetLk, List.length_append, List.length_set, List.append_assoc, List.set_set, hget, hl1, hwr]
        refine ⟨by omega, _, Weak.frame (fr' := [(0, .ref lo gn off l.length), (1, so), (5, dint M.length), (6, dint (j + 1 : Nat))]) (by simp only [go_sem, simprocAttr]), _, r2, ?_, ?_, ?_, hr1, ?_, ?_, st_eq (by rw [ej, hst]; rfl)⟩
        · rw [hgetA hl1]; exact hget
        · intro x hx1 hx2
          rw [hgetA (by omega)]; exact hagree x hx1 hx2
        · simp; omega
        · rw [ej, hst]; exact hr2
        · intro x hx1 hx2; exact hr3 x (by omega) hx2
    · subst hk1
      rw [List.take_length] at hM
      have hM2 : M = keepE gk l := hM
      rw [← hM2]
      have hb1 : M.length ≤ l.length := by omega
      refine kont_of_hx cx_ok hb 200 ?_
      simp only [go_sem, simprocAttr, hgetA, hgetL, hgetLk, hsetA, hsetL, hsetLk, List.length_append, List.length_set, List.append_assoc, List.set_set, hget, hl1, hb1]
      refine kont_clearN lay_ok hb rfl hget rfl rfl rfl (by simp; omega) rfl rfl rfl (by decide) rfl rfl ?_
      have hgS : ∀ r : Ob, (H.set lo r)[lo]? = some r := fun r => hgetS hl1
      refine kont_of_hx cx_ok hb 200 ?_
      simp only [go_sem, simprocAttr, hgetA, hgetL, hgetLk, hsetA, hsetL, hsetLk, List.length_append, List.length_set, List.append_assoc, List.set_set, hgS, hl1, hb1]
      refine ⟨by simp, _, rfl, fun x hx => by rw [clearRow_lt (by omega)]; exact hr2 x hx⟩
theorem deleteFuncE2_ok (so : D) (f nf : Nat) (caps : List D) (hf : FnOk Tryz.prog f) (hso : calleeD so = some (f, nf, caps)) (gk : Ev → Bool) (hg : TellsXE h lo f nf caps gk) (hg2 : TellsXE (h.map Ob.ro) lo f nf caps gk) :
    MFn Tryz.prog 144 h [.ref lo gn off l.length, so] (fun d h' => d = .ref lo gn off (keepE gk l).length ∧ ∃ row', h'[lo]? = some ⟨.arr, gn, 12, off + (keepE gk l).length, row'⟩ ∧ ∀ i, i < (keepE gk l).length → row' (off + i) = ((keepE gk l).getD i default).cells) := by
  refine MFn.cut (deleteFuncE_ok h l lo gn off row hlen ho hr so f nf caps hf hso gk hg hg2) ?_
  rintro d h' ⟨rfl, row', h1, hr'⟩
  have := List.length_filter_le (fun x => !gk x) l
  exact ⟨lo, ⟨.arr, gn, 12, off + l.length, row'⟩, off + (keepE gk l).length, h1, rfl, by simp only [keepE]; omega, rfl, row', hgetS (hlt h1), hr'⟩
end
theorem deleteFuncEN_ok (h : List Ob) (so : D) : RFn0 Tryz.prog 144 h [.nil, so] (fun d => d = .nil) := by
  refine RFn0_hx cx_ok 200 Tryz.func144 rfl Tryz.ntmps144 Tryz.results144 rfl fun base w pl F hF hFl hb => ?_
  simp only [go_sem, simprocAttr, hgetA, hgetL, hgetLk, hsetA, hsetL, hsetLk, List.length_append, List.length_set, List.append_assoc, List.set_set]
  refine kont_callR0 hb fn188 rfl ?_ (indexFuncEN_ok F so) rfl fun d2 hR => ?_
  · simp only [go_sem, simprocAttr]
    exact argEq_refl so
  subst hR
  refine kont_of_hx cx_ok hb 200 ?_
  simp only [go_sem, simprocAttr, hgetA, hgetL, hgetLk, hsetA, hsetL, hsetLk, List.length_append, List.length_set, List.append_assoc, List.set_set]
  exact ⟨[], (List.append_nil F).symm⟩
end Go.Fg.X
/- Events of an operation: walked. Conditions: below a million events. -/
namespace Go.Fg.X
open Go.Proofs Go.Fg
set_option maxRecDepth 100000
set_option maxHeartbeats 4000000
set_option linter.unusedSimpArgs false
set_option linter.unusedVariables false
theorem cloneE_ok (h : List Ob) (l : List Ev) (hl : l.length < 1000000) : MFn Tryz.prog 145 h [evs l] (fun d h' => (l = [] ∧ d = .nil ∧ h' = h) ∨ (∃ g row, d = .ref h.length g 0 l.length ∧ h' = h ++ [⟨.arr, g, 12, l.length, row⟩] ∧ ∀ i, i < l.length → row i = (l.getD i default).cells)) := by
  refine MFn_hx cx_ok 200 Tryz.func145 rfl Tryz.ntmps145 Tryz.results145 rfl fun base w pl hb => ?_
  simp only [go_sem, simprocAttr, hgetA, hgetL, hgetLk, hsetA, hsetL, hsetLk, List.length_append, List.length_set, List.append_assoc, List.set_set]
  refine kont_eqNil lay_ok (by simp only [go_sem, simprocAttr]; rfl) rfl rfl fun b hb0 => ?_
  cases b with
  | true =>
    have h0 := hb0 rfl
    simp only [go_sem, simprocAttr, lenI] at h0
    refine kont_of_hx cx_ok hb 200 ?_
    simp only [go_sem, simprocAttr, hgetA, hgetL, hgetLk, hsetA, hsetL, hsetLk, List.length_append, List.length_set, List.append_assoc, List.set_set]
    exact .inl (List.length_eq_zero_iff.1 h0)
  | false =>
    refine kont_of_hx cx_ok hb 200 ?_
    simp only [go_sem, simprocAttr, hgetA, hgetL, hgetLk, hsetA, hsetL, hsetLk, List.length_append, List.length_set, List.append_assoc, List.set_set]
    refine ⟨by omega, .inr ⟨_, _, rfl, rfl, fun i hi => ?_⟩⟩
    rw [appRow_ge (Nat.zero_le _)]; rfl
def evOf (l : List Ev) (op : Int) : List Ev := l.filter fun e => e.op == op
theorem keep_of (l : List Ev) (op : Int) : keepE (fun e => e.op != op) l = evOf l op := by
  unfold keepE evOf
  exact List.filter_congr fun e _ => by simp [bne]
theorem of1_ok (h : List Ob) (lb : Nat) (op : Int) (e : Ev) (hl : (h.map Ob.ro)[lb]? = some ⟨.rone, 0, 1, 1, fun _ => [dint op]⟩) : RFn0 Tryz.prog 146 h [.agg e.cells, .ptr lb 0 0 0] (fun d => d = dbool (e.op != op)) := by
  refine RFn0_hx cx_ok 200 Tryz.func146 rfl Tryz.ntmps146 Tryz.results146 rfl fun base w pl F hF hFl hb => ?_
  rw [← hF] at hl
  have hl_l := hlt hl
  simp only [go_sem, simprocAttr, hgetA, hgetL, hgetLk, hsetA, hsetL, hsetLk, List.length_append, List.length_set, List.append_assoc, List.set_set, hl, hl_l]
  exact ⟨_, rfl⟩
theorem of_ok (l : List Ev) (op : Int) (hlen : l.length < 1000000) : AFn Tryz.prog 87 [evs l, dint op] (Ret (evs (evOf l op))) := by
  refine freezeH (R := fun d hh => (evOf l op = [] ∧ d = .nil) ∨ ∃ lo g row, hh[lo]? = some ⟨.arr, g, 12, (evOf l op).length, row⟩ ∧ d = .ref lo g 0 (evOf l op).length ∧ ∀ i, i < (evOf l op).length → row i = ((evOf l op).getD i default).cells) _ rfl ?_ ?_
  · rintro d hh (⟨h1, rfl⟩ | ⟨lo, g, row, h1, rfl, h2⟩)
    · rw [h1]; exact .inl rfl
    · refine .inr ⟨lo, g, 12, _, row, h1, fun i hi => by rw [h2 i hi]; rfl, ?_⟩
      have e1 : D.fz lo g (evOf l op).length 12 row (.ref lo g 0 (evOf l op).length) = .imm 12 (evOf l op).length (rowFrom 0 row) := by simp [D.fz, nat_ble]
      rw [e1]
      simp only [evs]
      rw [dLe_imm]
      refine ⟨rfl, rfl, fun i hi => ?_⟩
      rw [rowFrom_at, Nat.zero_add, h2 i hi]
      exact lLeOf_refl (dLe_refl _) _
  refine MFn_hx cx_ok 200 Tryz.func87 rfl Tryz.ntmps87 Tryz.results87 rfl fun base w pl hb => ?_
  simp only [go_sem, simprocAttr, hgetA, hgetL, hgetLk, hsetA, hsetL, hsetLk, List.length_append, List.length_set, List.append_assoc, List.set_set]
  refine kont_callH hb fn145 rfl ?_ (cloneE_ok _ l hlen) rfl fun d h hR => ?_
  · simp only [go_sem, simprocAttr, hgetA, hgetL, hgetLk, hsetA, hsetL, hsetLk, List.length_append, List.length_set, List.append_assoc, List.set_set]
  obtain (⟨rfl, rfl, rfl⟩ | ⟨g, row, rfl, rfl, hr⟩) := hR
  refine kont_of_hx cx_ok hb 200 ?_
  simp only [go_sem, simprocAttr, hgetA, hgetL, hgetLk, hsetA, hsetL, hsetLk, List.length_append, List.length_set, List.append_assoc, List.set_set]
  · refine kont_callR0 hb fn144 rfl ?_ (deleteFuncEN_ok _ (.clo 146 0 [.ptr 0 0 0 0])) rfl fun d2 hR => ?_
    · simp only [go_sem, simprocAttr, hgetA, hgetL, hgetLk, hsetA, hsetL, hsetLk, List.length_append, List.length_set, List.append_assoc, List.set_set]
    subst hR
    refine kont_of_hx cx_ok hb 200 ?_
    simp only [go_sem, simprocAttr, hgetA, hgetL, hgetLk, hsetA, hsetL, hsetLk, List.length_append, List.length_set, List.append_assoc, List.set_set]
    exact .inl rfl
  · refine kont_of_hx cx_ok hb 200 ?_
    simp only [go_sem, simprocAttr, hgetA, hgetL, hgetLk, hsetA, hsetL, hsetLk, List.length_append, List.length_set, List.append_assoc, List.set_set, List.length_singleton, List.cons_append, List.nil_append]
    have hx : ∀ (F : List Ob) (h' : List Ob), (F.map Ob.ro)[0]? = some ⟨.rone, 0, 1, 1, fun _ => [dint op]⟩ → F.length = 2 → (∀ l, l < F.length → l ≠ 1 → h'[l]? = F[l]?) → (h'.map Ob.ro)[0]? = some ⟨.rone, 0, 1, 1, fun _ => [dint op]⟩ := fun F h' h1 h2 h3 => by
      rw [List.getElem?_map] at h1 ⊢
      rw [h3 0 (by omega) (by omega)]; exact h1
    obtain ⟨F, hF⟩ : ∃ F : List Ob, F = [⟨.one, 0, 1, 1, fun _ => [dint op]⟩, ⟨.arr, g, 12, l.length, row⟩] := ⟨_, rfl⟩
    have ho : F[1]? = some ⟨.arr, g, 12, 0 + l.length, row⟩ := by rw [hF, Nat.zero_add]; rfl
    have hT : TellsXE F 1 146 0 [.ptr 0 0 0 0] (fun e => e.op != op) := fun h' e h1 h2 => of1_ok h' 0 op e (hx F h' (by rw [hF]; rfl) (by rw [hF]; rfl) h2)
    have hT2 : TellsXE (F.map Ob.ro) 1 146 0 [.ptr 0 0 0 0] (fun e => e.op != op) := fun h' e h1 h2 => of1_ok h' 0 op e (hx (F.map Ob.ro) h' (by rw [hF]; rfl) (by rw [hF]; rfl) h2)
    have hd := deleteFuncE2_ok F l 1 g 0 row hlen ho (fun i hi => by rw [Nat.zero_add]; exact hr i hi) (.clo 146 0 [.ptr 0 0 0 0]) 146 0 [.ptr 0 0 0 0] fn146 rfl _ hT hT2
    rw [keep_of] at hd
    simp only [go_sem, simprocAttr] at hF
    rw [← hF]
    refine kont_callH hb fn144 rfl ?_ hd rfl fun d h hR => ?_
    · simp only [go_sem, simprocAttr]
    obtain ⟨rfl, row', h1, h2⟩ := hR
    refine kont_of_hx cx_ok hb 200 ?_
    simp only [go_sem, simprocAttr]
    rw [Nat.zero_add] at h1
    exact .inr ⟨1, _, row', h1, rfl, fun i hi => by have := h2 i hi; rw [Nat.zero_add] at this; exact this⟩
end Go.Fg.X
/- Events held against one another: walked. Conditions: below a million events. -/
namespace Go.Fg.X
open Go.Proofs Go.Fg
set_option maxRecDepth 100000
set_option maxHeartbeats 4000000
set_option linter.unusedSimpArgs false
set_option linter.unusedVariables false
def Ev.eqb (x y : Ev) : Bool := x.op == y.op && (x.inn == y.inn && (x.real == y.real && (x.at_ == y.at_ && (x.done == y.done && (x.cls == y.cls && (x.id == y.id && (x.len == y.len && (x.h0 == y.h0 && (x.h1 == y.h1 && (x.h2 == y.h2 && x.h3 == y.h3))))))))))
theorem Ev.eqb_iff {x y : Ev} : x.eqb y = true ↔ x = y := by
  cases x; cases y
  simp [Ev.eqb]
theorem Ev.eqb_self (x : Ev) : x.eqb x = true := Ev.eqb_iff.2 rfl
theorem Ev.eqb_ne {x y : Ev} (h : x ≠ y) : x.eqb y = false := by
  cases e : x.eqb y with
  | false => rfl
  | true => exact absurd (Ev.eqb_iff.1 e) h
instance : DecidableEq Ev := fun x y => decidable_of_iff _ Ev.eqb_iff
def Res.eqb (x y : Res) : Bool := x.err == y.err && (x.place == y.place && x.cls == y.cls)
theorem Res.eqb_iff {x y : Res} : x.eqb y = true ↔ x = y := by
  cases x; cases y
  simp [Res.eqb]
theorem Res.eqb_self (x : Res) : x.eqb x = true := Res.eqb_iff.2 rfl
theorem Res.eqb_ne {x y : Res} (h : x ≠ y) : x.eqb y = false := by
  cases e : x.eqb y with
  | false => rfl
  | true => exact absurd (Res.eqb_iff.1 e) h
instance : DecidableEq Res := fun x y => decidable_of_iff _ Res.eqb_iff
theorem eq_of_gets {α : Type} [Inhabited α] {a b : List α} (hl : a.length = b.length) (h : ∀ i, i < a.length → a.getD i default = b.getD i default) : a = b := by
  apply List.ext_getElem hl
  intro i h1 h2
  have := h i h1
  simpa [List.getD_eq_getElem?_getD, h1, h2] using this
theorem equalE_ok (a b : List Ev) (ha : a.length < 1000000) (hb0 : b.length < 1000000) : AFn Tryz.prog 86 [evs a, evs b] (Ret (dbool (decide (a = b)))) := by
  by_cases hl : a.length = b.length
  · have hl2 : (((a.length : Nat) : Int) != ((b.length : Nat) : Int)) = false := by rw [hl]; simp
    refine AFn_hxk 0 cx_ok 200 Tryz.func86 rfl Tryz.ntmps86 Tryz.results86 rfl fun base w hb => ?_
    simp only [go_sem, simprocAttr]
    simp only [hl2, go_sem, simprocAttr]
    refine kont_for (fun i s => (∀ k, k < i → a.getD k default = b.getD k default) ∧ s = ⟨[(0, evs a), (1, evs b), (12, dint a.length), (13, dint i)], []⟩) a.length (Weak.frame (by simp only [go_sem, simprocAttr])) ⟨fun k hk => by omega, rfl⟩ ?_
    rintro i s hi ⟨hno, rfl⟩
    have hwr := wrap_succ (show i < 4611686018427387904 by omega)
    refine kont_of_hx cx_ok hb 200 ?_
    simp only [go_sem, simprocAttr]
    first | refine hite_lt hi (fun hk1 => ?_) (fun hk1 => ?_) | refine hite_ltI hi (fun hk1 => ?_) (fun hk1 => ?_)
    · have hi2 : i < b.length := by omega
      simp only [go_sem, simprocAttr, hk1]
      refine kont_hax cx_ok hb 200 mixed [(0, true), (1, true), (2, true), (3, true), (4, true), (5, true), (6, true), (7, true), (8, true)] (by kernel_rfl) (by kernel_rfl) ?_
      simp only [go_sem, simprocAttr, hk1, hi2]
      by_cases he : a.getD i default = b.getD i default
      · have hq := Ev.eqb_self (b.getD i default)
        simp only [Ev.eqb] at hq
        simp only [go_sem, simprocAttr, he, hq]
        refine ⟨hk1, _, Weak.frame (fr' := [(0, evs a), (1, evs b), (12, dint a.length), (13, dint (i + 1 : Nat))]) (by simp only [go_sem, simprocAttr, hwr]), fun k hk => ?_, rfl⟩
        rcases Nat.lt_succ_iff_lt_or_eq.1 hk with h3 | rfl
        · exact hno k h3
        · exact he
      · have hq := Ev.eqb_ne he
        simp only [Ev.eqb] at hq
        have e : decide (a = b) = false := decide_eq_false (by rintro rfl; exact he rfl)
        simp only [go_sem, simprocAttr, hq, e]
    · subst hk1
      have e : decide (a = b) = true := decide_eq_true (eq_of_gets hl hno)
      refine kont_of_hx cx_ok hb 200 ?_
      simp only [go_sem, simprocAttr, e]
  · have hl2 : (((a.length : Nat) : Int) != ((b.length : Nat) : Int)) = true := by simp; omega
    have e : decide (a = b) = false := decide_eq_false (by rintro rfl; exact hl rfl)
    rw [e]
    refine AFn_hxk 0 cx_ok 200 Tryz.func86 rfl Tryz.ntmps86 Tryz.results86 rfl fun base w hb => ?_
    simp only [go_sem, simprocAttr]
    simp only [hl2, go_sem, simprocAttr]
/-- Do two outcomes differ at an operation? -/
structure Outc.Small (o : Outc) : Prop where
  r : o.results.length < 1000000
  e : o.events.length < 1000000
def apartV (a b : Outc) (i : Nat) : Bool := decide (a.results.length ≤ i) || (decide (b.results.length ≤ i) || (!decide (a.results.getD i default = b.results.getD i default) || !decide (evOf a.events i = evOf b.events i)))
def differV (a b : Outc) : Option Nat := (List.range (max a.results.length b.results.length)).find? (apartV a b)
theorem apartV_symm (a b : Outc) (i : Nat) : apartV a b i = apartV b a i := by
  unfold apartV
  rw [show decide (a.results.getD i default = b.results.getD i default) = decide (b.results.getD i default = a.results.getD i default) from decide_eq_decide.2 eq_comm, show decide (evOf a.events i = evOf b.events i) = decide (evOf b.events i = evOf a.events i) from decide_eq_decide.2 eq_comm]
  cases decide (a.results.length ≤ i) <;> cases decide (b.results.length ≤ i) <;> rfl
theorem differV_symm (a b : Outc) : differV a b = differV b a := by
  unfold differV
  rw [Nat.max_comm]
  congr 1
  funext i; exact apartV_symm a b i
end Go.Fg.X
/- The document's answers about outcomes: walked. Conditions: below a million events. -/
namespace Go.Fg.X
open Go.Proofs Go.Fg
set_option maxRecDepth 100000
set_option maxHeartbeats 4000000
set_option linter.unusedSimpArgs false
set_option linter.unusedVariables false
theorem evOf_succ (l : List Ev) (op : Int) (k : Nat) (h : k < l.length) : evOf (l.take (k + 1)) op = if (l.getD k default).op == op then evOf (l.take k) op ++ [l.getD k default] else evOf (l.take k) op := takeF_succ l (fun e => e.op == op) k h
theorem evOf_len (l : List Ev) (op : Int) (k : Nat) : (evOf (l.take k) op).length ≤ k := takeF_len l (fun e => e.op == op) k
theorem evOf_len2 (l : List Ev) (op : Int) : (evOf l op).length ≤ l.length := List.length_filter_le _ _
theorem evcl (x : Ev) : x.cells.all D.cl1 = true := rfl
theorem evs_cl (l : List Ev) : ∀ i, i < l.length → (Ev.rows l i).all D.cl1 = true := fun i _ => rfl
theorem rof_ok (l : List Ev) (op : Int) (hlen : l.length < 1000000) : AFn Tryz.prog 88 [evs l, dint op] (Ret (evs (evOf l op))) := by
  refine freezeR (evs_cl _) ?_
  refine AFn_hxk 1 cx_ok 200 Tryz.func88 rfl Tryz.ntmps88 Tryz.results88 rfl fun base w hb => ?_
  simp only [go_sem, simprocAttr]
  refine kont_weak_code (Weak.phantom 5 12 (Ev.rows []) rfl) ?_
  simp only [go_sem, simprocAttr]
  refine kont_forF (G := Nat) [1, 8, 9] (fun k => True) (fun k γ => [(5, .ref 0 (evOf (l.take k) op).length 0 (evOf (l.take k) op).length), (10, dint k)]) (fun k γ => [⟨.arr, (evOf (l.take k) op).length, 12, (evOf (l.take k) op).length, Ev.rows (evOf (l.take k) op)⟩]) (l.length) (0) rfl (Weak.to 1 (by (simp only [go_sem, simprocAttr, List.take_zero, evOf, List.filter_nil]) <;> simp)) trivial ?_
  intro k γ hk _
  refine kont_of_hx cx_ok hb 200 ?_
  simp only [go_sem, simprocAttr]
  have hwr := wrap_succ (show k < 4611686018427387904 by omega)
  have hlk := evOf_len l op k
  first | refine hite_lt hk (fun hk1 => ?_) (fun hk1 => ?_) | refine hite_ltI hk (fun hk1 => ?_) (fun hk1 => ?_)
  · have hst := evOf_succ l op k hk1
    generalize evOf (l.take k) op = L at *
    generalize hee : l.getD k default = e at *
    simp only [go_sem, simprocAttr, hk1, hee]
    by_cases hc : e.op = op
    · have hc2 := beqT hc
      rw [hc2, if_pos rfl] at hst
      simp only [go_sem, simprocAttr, hc2]
      repeat (refine And.intro (by first | assumption | omega) ?_)
      refine ⟨_, Weak.to 1 ⟨?_, ?_, ?_, ?_⟩, ForS.mk γ trivial⟩
      · simp only [go_sem, simprocAttr, hwr, hst, List.length_append, List.length_singleton]
      · simp only [go_sem, simprocAttr]
      · simp only [go_sem, simprocAttr]
      · simp only [go_sem, simprocAttr, hst, List.length_append, List.length_singleton]
        intro i hi
        rw [getD_app _ _ _ _ hi]
        cases decide (i < L.length) <;> rfl
    · have hc2 := beqF hc
      rw [hc2, if_neg (by decide)] at hst
      simp only [go_sem, simprocAttr, hc2]
      repeat (refine And.intro (by first | assumption | omega) ?_)
      refine ⟨_, Weak.to 1 (by (simp only [go_sem, simprocAttr, hwr, hst]) <;> simp), ForS.mk (γ) (trivial)⟩
  · have hk2 : k = l.length := by omega
    subst hk2
    simp only [List.take_length]
    refine kont_of_hx cx_ok hb 200 ?_
    simp only [go_sem, simprocAttr]
    exact ⟨_, _, rfl, rfl, fun i hi => rfl⟩
theorem rsame_ok (l : List Ev) (hlen : l.length < 1000000) : AFn Tryz.prog 85 [evs l, evs l] (Ret (dbool true)) := by
  refine AFn_hxk 0 cx_ok 200 Tryz.func85 rfl Tryz.ntmps85 Tryz.results85 rfl fun base w hb => ?_
  simp only [go_sem, simprocAttr]
  simp only [go_sem, simprocAttr, bne_self_eq_false]
  refine kont_for (fun i s => s = ⟨[(0, evs l), (1, evs l), (12, evs l), (13, dint l.length), (14, dint i)], []⟩) l.length (Weak.frame (by simp only [go_sem, simprocAttr])) rfl ?_
  rintro i s hi rfl
  have hwr := wrap_succ (show i < 4611686018427387904 by omega)
  refine kont_of_hx cx_ok hb 200 ?_
  simp only [go_sem, simprocAttr]
  first | refine hite_lt hi (fun hk1 => ?_) (fun hk1 => ?_) | refine hite_ltI hi (fun hk1 => ?_) (fun hk1 => ?_)
  · simp only [go_sem, simprocAttr, hk1]
    refine kont_hax cx_ok hb 200 mixed [(0, true), (1, true), (2, true), (3, true), (4, true), (5, true)] (by kernel_rfl) (by kernel_rfl) ?_
    simp only [go_sem, simprocAttr, hk1]
    refine ⟨_, Weak.to 0 ⟨?_, by simp only [go_sem, simprocAttr], ?_, ?_⟩, rfl⟩
    · simp only [go_sem, simprocAttr, hwr]
    · simp only [go_sem, simprocAttr]
    · simp only [go_sem, simprocAttr]
  · subst hk1
    refine kont_of_hx cx_ok hb 200 ?_
    simp only [go_sem, simprocAttr]
theorem ralike_ok (x : Outc) (h : x.Small) : AFn Tryz.prog 30 [.agg x.cells, .agg x.cells] (Ret (dbool true)) := by
  have hr := h.r
  have hc := rsame_ok x.events h.e
  refine AFn_hxk 0 cx_ok 200 Tryz.func30 rfl Tryz.ntmps30 Tryz.results30 rfl fun base w hb => ?_
  simp only [go_sem, simprocAttr]
  simp only [go_sem, simprocAttr, bne_self_eq_false]
  refine kont_for (fun i s => s = ⟨[(2, .ptr 0 0 0 0), (3, .ptr 1 0 0 0), (15, .imm 3 x.results.length (Res.rows x.results)), (16, dint x.results.length), (17, dint i)], [⟨.one, 0, 2, 1, fun _ => x.cells⟩, ⟨.one, 0, 2, 1, fun _ => x.cells⟩]⟩) x.results.length (Weak.frame (by simp only [go_sem, simprocAttr])) rfl ?_
  rintro i s hi rfl
  have hwr := wrap_succ (show i < 4611686018427387904 by omega)
  refine kont_of_hx cx_ok hb 200 ?_
  simp only [go_sem, simprocAttr]
  first | refine hite_lt hi (fun hk1 => ?_) (fun hk1 => ?_) | refine hite_ltI hi (fun hk1 => ?_) (fun hk1 => ?_)
  · simp only [go_sem, simprocAttr, hk1]
    refine kont_hax cx_ok hb 200 mixed [(0, true), (1, true), (2, true), (3, true), (4, true), (5, true), (6, true)] (by kernel_rfl) (by kernel_rfl) ?_
    simp only [go_sem, simprocAttr, hk1]
    refine ⟨_, Weak.to 2 ⟨?_, by simp only [go_sem, simprocAttr], ?_, ?_⟩, rfl⟩
    · simp only [go_sem, simprocAttr, hwr]
    · simp only [go_sem, simprocAttr]
    · simp only [go_sem, simprocAttr]
  · subst hk1
    refine kont_of_hx cx_ok hb 200 ?_
    simp only [go_sem, simprocAttr]
    refine kont_call hb fn85 rfl ?_ hc (Ret.flat rfl) rfl fun d h hR => ?_
    · simp only [go_sem, simprocAttr]
    obtain ⟨rfl, rfl⟩ := hR
    refine kont_of_hx cx_ok hb 200 ?_
    simp only [go_sem, simprocAttr]
theorem rapart_ok (a b : Outc) (i : Nat) (ha : a.Small) (hb0 : b.Small) (hi : i < 4000000) : AFn Tryz.prog 33 [.agg a.cells, .agg b.cells, dint i] (Ret (dbool (apartV a b i))) := by
  have hr1 := ha.r
  have hr2 := hb0.r
  have l1 := evOf_len2 a.events i
  have l2 := evOf_len2 b.events i
  have he1 := ha.e
  have he2 := hb0.e
  unfold apartV
  by_cases h1 : a.results.length ≤ i
  · simp only [decide_eq_true h1, Bool.true_or]
    refine AFn_hxk 0 cx_ok 200 Tryz.func33 rfl Tryz.ntmps33 Tryz.results33 rfl fun base w hb => ?_
    simp only [go_sem, simprocAttr]
    refine kont_hax cx_ok hb 200 mixed [(0, true), (1, true), (2, true), (3, true), (4, true), (5, true), (6, true), (7, true), (8, true), (9, true), (10, true), (11, true), (12, true), (13, true), (14, true), (15, true), (16, true), (17, true), (18, true), (19, true), (20, true), (21, true), (22, true), (23, true), (24, true)] (by kernel_rfl) (by kernel_rfl) ?_
    simp only [go_sem, simprocAttr, decide_eq_true h1]
  · simp only [decide_eq_false h1, Bool.false_or]
    have h1' : i < a.results.length := by omega
    by_cases h2 : b.results.length ≤ i
    · simp only [decide_eq_true h2, Bool.true_or]
      refine AFn_hxk 0 cx_ok 200 Tryz.func33 rfl Tryz.ntmps33 Tryz.results33 rfl fun base w hb => ?_
      simp only [go_sem, simprocAttr]
      refine kont_hax cx_ok hb 200 mixed [(0, true), (1, true), (2, true), (3, true), (4, true), (5, true), (6, true), (7, true), (8, true), (9, true), (10, true), (11, true), (12, true), (13, true), (14, true), (15, true), (16, true), (17, true), (18, true), (19, true), (20, true), (21, true), (22, true), (23, true), (24, true)] (by kernel_rfl) (by kernel_rfl) ?_
      simp only [go_sem, simprocAttr, decide_eq_false h1, decide_eq_true h2]
    · simp only [decide_eq_false h2, Bool.false_or]
      have h2' : i < b.results.length := by omega
      by_cases h3 : a.results.getD i default = b.results.getD i default
      · simp only [decide_eq_true h3, Bool.not_true, Bool.false_or]
        refine AFn_hxk 0 cx_ok 200 Tryz.func33 rfl Tryz.ntmps33 Tryz.results33 rfl fun base w hb => ?_
        simp only [go_sem, simprocAttr]
        refine kont_hax cx_ok hb 200 mixed [(0, true), (1, true), (2, true), (3, true), (4, true), (5, true), (6, true), (7, true), (8, true), (9, true), (10, true), (11, true), (12, true), (13, true), (14, true), (15, true), (16, true), (17, true), (18, true), (19, true), (20, true), (21, true), (22, true), (23, true), (24, true)] (by kernel_rfl) (by kernel_rfl) ?_
        simp only [go_sem, simprocAttr, decide_eq_false h1, decide_eq_false h2, h1', h2', h3]
        refine kont_callM hb [] fn88 rfl ?_ (rof_ok a.events i he1) rfl fun d h hR => ?_
        · simp only [go_sem, simprocAttr]
        obtain ⟨rfl, rfl⟩ := hR
        simp only [go_sem, simprocAttr]
        refine kont_of_hx cx_ok hb 200 ?_
        simp only [go_sem, simprocAttr]
        refine kont_callM hb [] fn88 rfl ?_ (rof_ok b.events i he2) rfl fun d h hR => ?_
        · simp only [go_sem, simprocAttr]
        obtain ⟨rfl, rfl⟩ := hR
        simp only [go_sem, simprocAttr]
        refine kont_of_hx cx_ok hb 200 ?_
        simp only [go_sem, simprocAttr]
        generalize evOf a.events i = u at *
        generalize evOf b.events i = v at *
        by_cases hl : u.length = v.length
        · have hl2 : (((u.length : Nat) : Int) != ((v.length : Nat) : Int)) = false := by rw [hl]; simp
          simp only [go_sem, simprocAttr, hl2]
          refine kont_for (fun k s => (∀ j, j < k → u.getD j default = v.getD j default) ∧ s = ⟨[(8, evs v), (49, evs u), (50, dint u.length), (51, dint k)], []⟩) u.length (Weak.to 0 (by simp only [go_sem, simprocAttr])) ⟨fun j hj => by omega, rfl⟩ ?_
          rintro k s hk ⟨hno, rfl⟩
          have hwr := wrap_succ (show k < 4611686018427387904 by omega)
          refine kont_of_hx cx_ok hb 200 ?_
          simp only [go_sem, simprocAttr]
          first | refine hite_lt hk (fun hk1 => ?_) (fun hk1 => ?_) | refine hite_ltI hk (fun hk1 => ?_) (fun hk1 => ?_)
          · have hk2 : k < v.length := by omega
            simp only [go_sem, simprocAttr, hk1]
            refine kont_hax cx_ok hb 200 mixed [(0, true), (1, true), (2, true), (3, true), (4, true), (5, true)] (by kernel_rfl) (by kernel_rfl) ?_
            simp only [go_sem, simprocAttr, hk1, hk2]
            by_cases he : u.getD k default = v.getD k default
            · simp only [go_sem, simprocAttr, he]
              refine ⟨by omega, _, Weak.to 0 ⟨?_, by simp only [go_sem, simprocAttr], ?_, ?_⟩, fun j hj => ?_, rfl⟩
              · simp only [go_sem, simprocAttr, hwr]
              · simp only [go_sem, simprocAttr]
              · simp only [go_sem, simprocAttr]
              · rcases Nat.lt_succ_iff_lt_or_eq.1 hj with h4 | rfl
                · exact hno j h4
                · exact he
            · have hq := Ev.eqb_ne he
              simp only [Ev.eqb] at hq
              have e : decide (u = v) = false := decide_eq_false (by rintro rfl; exact he rfl)
              simp only [go_sem, simprocAttr, hq, e]
          · subst hk1
            have e : decide (u = v) = true := decide_eq_true (eq_of_gets hl hno)
            refine kont_of_hx cx_ok hb 200 ?_
            simp only [go_sem, simprocAttr, e]
        · have hl2 : (((u.length : Nat) : Int) != ((v.length : Nat) : Int)) = true := by simp; omega
          have e : decide (u = v) = false := decide_eq_false (by rintro rfl; exact hl rfl)
          simp only [go_sem, simprocAttr, hl2, e]
      · have hq := Res.eqb_ne h3
        simp only [Res.eqb] at hq
        simp only [decide_eq_false h3, Bool.not_false, Bool.true_or]
        refine AFn_hxk 0 cx_ok 200 Tryz.func33 rfl Tryz.ntmps33 Tryz.results33 rfl fun base w hb => ?_
        simp only [go_sem, simprocAttr]
        refine kont_hax cx_ok hb 200 mixed [(0, true), (1, true), (2, true), (3, true), (4, true), (5, true), (6, true), (7, true), (8, true), (9, true), (10, true), (11, true), (12, true), (13, true), (14, true), (15, true), (16, true), (17, true), (18, true), (19, true), (20, true), (21, true), (22, true), (23, true), (24, true)] (by kernel_rfl) (by kernel_rfl) ?_
        simp only [go_sem, simprocAttr, decide_eq_false h1, decide_eq_false h2, h1', h2', hq]
end Go.Fg.X
/- The outcome of the first operations: walked. Conditions: below a million results and events. -/
namespace Go.Fg.X
open Go.Proofs Go.Fg
set_option maxRecDepth 100000
set_option maxHeartbeats 4000000
set_option linter.unusedSimpArgs false
set_option linter.unusedVariables false
def evBef (l : List Ev) (n : Int) : List Ev := l.filter fun e => decide (e.op < n)
def aheadV (o : Outc) (n : Int) : Outc := ⟨o.results.take n.toNat, evBef o.events n⟩
theorem evBef_succ (l : List Ev) (n : Int) (k : Nat) (h : k < l.length) : evBef (l.take (k + 1)) n = if decide ((l.getD k default).op < n) then evBef (l.take k) n ++ [l.getD k default] else evBef (l.take k) n := takeF_succ l (fun e => decide (e.op < n)) k h
theorem evBef_len (l : List Ev) (n : Int) (k : Nat) : (evBef (l.take k) n).length ≤ k := takeF_len l (fun e => decide (e.op < n)) k
theorem aheadV_twice (o : Outc) (n m : Int) : aheadV (aheadV o n) m = aheadV o (min n m) := by
  unfold aheadV evBef
  simp only [List.take_take, List.filter_filter]
  congr 1
  · congr 1; omega
  · apply List.filter_congr
    intro e _
    rw [Bool.eq_iff_iff]
    simp only [Bool.and_eq_true, decide_eq_true_eq]; omega
theorem res_cl (l : List Res) : ∀ i, i < l.length → (Res.rows l i).all D.cl1 = true := fun i _ => rfl
theorem rahead_ok (o : Outc) (n : Int) (h : o.Small) : AFn Tryz.prog 31 [.agg o.cells, dint n] (Ret (.agg (aheadV o n).cells)) := by
  have h1 := h.r
  have h2 := h.e
  refine freezeH2 (R := fun d hh => ∃ g g' x y, d = .agg [.ref 2 g 0 (aheadV o n).results.length, .ref 3 g' 0 (aheadV o n).events.length] ∧ hh = [x, y, ⟨.arr, g, 3, (aheadV o n).results.length, Res.rows (aheadV o n).results⟩, ⟨.arr, g', 12, (aheadV o n).events.length, Ev.rows (aheadV o n).events⟩]) _ rfl ?_ ?_
  · rintro d hh ⟨g, g', x, y, rfl, rfl⟩
    refine ⟨2, g, 3, _, _, 3, g', 12, _, _, rfl, rfl, by decide, res_cl _, evs_cl _, ?_⟩
    generalize aheadV o n = q
    simp [D.fz, fzL, nat_ble, show Nat.beq 3 2 = false from rfl]
    simp only [Outc.cells, dLe_agg, lLe_cons, lLe_nil, dLe_imm, rowFrom_at, Nat.zero_add, lLe_self, implies_true, and_self]
  refine MFn_hx cx_ok 200 Tryz.func31 rfl Tryz.ntmps31 Tryz.results31 rfl fun base w pl hb => ?_
  simp only [go_sem, simprocAttr, hgetA, hgetL, hgetLk, hsetA, hsetL, hsetLk, List.length_append, List.length_set, List.append_assoc, List.set_set]
  refine kont_weak_code (Weak.phantom 5 3 (Res.rows []) rfl) ?_
  simp only [go_sem, simprocAttr]
  obtain ⟨N, hN⟩ : ∃ N : List Res, N = (aheadV o n).results := ⟨_, rfl⟩
  have hst0 : ∀ k, k < o.results.length → (k : Int) < n → o.results.take (k + 1) = o.results.take k ++ [o.results.getD k default] := fun k hk _ => getD_take _ _ _ hk
  refine kont_for (fun k s => s = ⟨[(1, dint n), (2, .ptr 0 0 0 0), (4, .ptr 1 0 0 0), (5, .ref 2 (o.results.take (min k n.toNat)).length 0 (o.results.take (min k n.toNat)).length), (12, .imm 3 o.results.length (Res.rows o.results)), (13, dint o.results.length), (14, dint k)],
    [⟨.one, 0, 2, 1, fun _ => o.cells⟩, ⟨.one, 0, 2, 1, fun _ => [.nil, .nil]⟩, ⟨.arr, (o.results.take (min k n.toNat)).length, 3, (o.results.take (min k n.toNat)).length, Res.rows (o.results.take (min k n.toNat))⟩]⟩) o.results.length (Weak.to 3 (by simp only [go_sem, simprocAttr, Nat.zero_min, List.take_zero, List.length_nil])) rfl ?_
  rintro k s hk rfl
  have hwr := wrap_succ (show k < 4611686018427387904 by omega)
  refine kont_of_hx cx_ok hb 200 ?_
  simp only [go_sem, simprocAttr]
  first | refine hite_lt hk (fun hk1 => ?_) (fun hk1 => ?_) | refine hite_ltI hk (fun hk1 => ?_) (fun hk1 => ?_)
  · simp only [go_sem, simprocAttr, hk1]
    by_cases hc : (k : Int) < n
    · have m1 : min k n.toNat = k := by omega
      have m2 : min (k + 1) n.toNat = k + 1 := by omega
      have hst : o.results.take (min (k + 1) n.toNat) = o.results.take k ++ [o.results.getD k default] := by rw [m2]; exact hst0 k hk1 hc
      have hlk : (o.results.take k).length ≤ k := by simp; omega
      rw [m1]
      generalize o.results.take k = L at *
      generalize o.results.getD k default = e at *
      simp only [go_sem, simprocAttr, decide_eq_true hc]
      repeat (refine And.intro (by first | assumption | omega) ?_)
      refine ⟨_, Weak.to 3 ⟨?_, ?_, ?_, ?_⟩, rfl⟩
      · simp only [go_sem, simprocAttr, hwr, hst, List.length_append, List.length_singleton]
      · simp only [go_sem, simprocAttr]
      · simp only [go_sem, simprocAttr]
      · simp only [go_sem, simprocAttr, hst, List.length_append, List.length_singleton]
        intro i hi
        rw [getD_app _ _ _ _ hi]
        cases decide (i < L.length) <;> rfl
    · have m1 : min (k + 1) n.toNat = min k n.toNat := by omega
      simp only [go_sem, simprocAttr, decide_eq_false hc]
      repeat (refine And.intro (by first | assumption | omega) ?_)
      refine ⟨_, Weak.to 3 ⟨?_, ?_, ?_, ?_⟩, rfl⟩
      · simp only [go_sem, simprocAttr, hwr, m1]
      · simp only [go_sem, simprocAttr]
      · simp only [go_sem, simprocAttr]
      · simp only [go_sem, simprocAttr, m1]
  · have hk2 : k = o.results.length := by omega
    subst hk2
    have e1 : o.results.take (min o.results.length n.toNat) = (aheadV o n).results := by
      unfold aheadV
      apply List.ext_getElem?
      intro i
      simp only [List.getElem?_take]
      by_cases h5 : i < n.toNat
      · by_cases h6 : i < o.results.length
        · rw [if_pos (by omega), if_pos h5]
        · rw [if_neg (by omega), if_pos h5, List.getElem?_eq_none (by omega)]
      · rw [if_neg (by omega), if_neg h5]
    rw [e1]
    refine kont_of_hx cx_ok hb 200 ?_
    simp only [go_sem, simprocAttr]
    refine kont_weak_code (Weak.phantom 8 12 (Ev.rows []) rfl) ?_
    simp only [go_sem, simprocAttr]
    obtain ⟨M, hM⟩ : ∃ M : List Res, M = (aheadV o n).results := ⟨_, rfl⟩
    rw [← hM]
    refine kont_for (fun k s => s = ⟨[(1, dint n), (4, .ptr 1 0 0 0), (5, .ref 2 M.length 0 M.length), (8, .ref 3 (evBef (o.events.take k) n).length 0 (evBef (o.events.take k) n).length), (28, evs o.events), (29, dint o.events.length), (30, dint k)],
      [⟨.one, 0, 2, 1, fun _ => o.cells⟩, ⟨.one, 0, 2, 1, fun _ => [.nil, .nil]⟩, ⟨.arr, M.length, 3, M.length, Res.rows M⟩, ⟨.arr, (evBef (o.events.take k) n).length, 12, (evBef (o.events.take k) n).length, Ev.rows (evBef (o.events.take k) n)⟩]⟩) o.events.length (Weak.to 4 (by simp only [go_sem, simprocAttr, List.take_zero, evBef, List.filter_nil, List.length_nil])) rfl ?_
    rintro k s hk rfl
    have hwr := wrap_succ (show k < 4611686018427387904 by omega)
    have hlk := evBef_len o.events n k
    refine kont_of_hx cx_ok hb 200 ?_
    simp only [go_sem, simprocAttr]
    first | refine hite_lt hk (fun hk1 => ?_) (fun hk1 => ?_) | refine hite_ltI hk (fun hk1 => ?_) (fun hk1 => ?_)
    · have hst := evBef_succ o.events n k hk1
      generalize evBef (o.events.take k) n = L at *
      generalize hee : o.events.getD k default = e at *
      simp only [go_sem, simprocAttr, hk1, hee]
      by_cases hc : e.op < n
      · rw [decide_eq_true hc, if_pos rfl] at hst
        simp only [go_sem, simprocAttr, decide_eq_true hc]
        repeat (refine And.intro (by first | assumption | omega) ?_)
        refine ⟨_, Weak.to 4 ⟨?_, ?_, ?_, ?_⟩, rfl⟩
        · simp only [go_sem, simprocAttr, hwr, hst, List.length_append, List.length_singleton]
        · simp only [go_sem, simprocAttr]
        · simp only [go_sem, simprocAttr]
        · simp only [go_sem, simprocAttr, hst, List.length_append, List.length_singleton]
          intro i hi
          rw [getD_app _ _ _ _ hi]
          cases decide (i < L.length) <;> rfl
      · rw [decide_eq_false hc, if_neg (by decide)] at hst
        simp only [go_sem, simprocAttr, decide_eq_false hc]
        repeat (refine And.intro (by first | assumption | omega) ?_)
        refine ⟨_, Weak.to 4 ⟨?_, ?_, ?_, ?_⟩, rfl⟩
        · simp only [go_sem, simprocAttr, hwr, hst]
        · simp only [go_sem, simprocAttr]
        · simp only [go_sem, simprocAttr]
        · simp only [go_sem, simprocAttr, hst]
    · have hk3 : k = o.events.length := by omega
      subst hk3
      rw [List.take_length]
      have e2 : (aheadV o n).events = evBef o.events n := rfl
      rw [e2]
      refine kont_of_hx cx_ok hb 200 ?_
      simp only [go_sem, simprocAttr]
      exact ⟨_, _, _, _, rfl, rfl⟩
end Go.Fg.X
namespace Go.Fg
set_option linter.unusedSimpArgs false
set_option linter.unusedVariables false
open Go.RowKit (Below)
section
variable {P : Program} {L : Lay} {base nt : Nat} {s : St} {o : Oper}
theorem run_makeSlice_zeros {t e : TypeId} {y : Ty} {k : IntKind} (ht : P.underlying t = some (.slice e)) (hy : TyOk P e y) (hz : y.zero.length = y.size) (hs : 0 < y.size) (w : World) (n : Nat)
    (h63 : n ≤ 4294967296) (hby : y.bytes ≤ 1024) :
    (Instr.makeSlice t (.int k n) (.int k n)).run P w = .ok (.slice (some ⟨w.heap.size, 0, none⟩) n n) (w.alloc (.cells (flat n y.size fun _ j => nthV y.zero j).toArray e)) := by
  obtain ⟨z, hzz, hzr⟩ := hy.zeroValue
  obtain ⟨i, hi, hi1, hi2⟩ := hy.typeInfo w
  have hi' : ∀ w, (typeInfo e).run P w = .ok i w := fun w => by
    have h4 := hy.info
    cases hx : P.info? e with
    | none => rw [hx] at h4; cases h4
    | some k =>
      simp [typeInfo, hx] at hi ⊢
      exact hi
  have hw : IntKind.i64.wrap (n : Int) = n := by rw [IntKind.wrap_i64]; omega
  have h48i : ¬ (281474976710656 < (i.bytes : Int) * (n : Int)) := by
    have hmul : y.bytes * n ≤ 1024 * 4294967296 := Nat.mul_le_mul hby h63
    rw [← Int.natCast_mul, hi2]
    omega
  have hneg : ¬ ((n : Int) < 0) := by omega
  have hzs : z.cells.size = y.size := by rw [← hz, ← hzz]; simp
  have hfl : (flat n y.size fun _ j => nthV y.zero j).toArray = (Array.range (n * y.size)).map (z.cells[· % z.cells.size]!) := by
    apply Array.ext
    · simp [flat_length]
    · intro j h1 h2
      simp only [List.size_toArray, flat_length] at h1
      obtain ⟨d1, d2, d3⟩ := div_lt h1
      have hz2 : y.zero = z.cells.toList := hzz.symm
      have hj : j % y.size < z.cells.size := by rw [hzs]; exact d2
      simp [flat, nthV, hz2, List.getD_eq_getElem?_getD, hzs, hj]
      rw [getElem!_pos z.cells _ hj, Array.getElem?_eq_getElem hj]; rfl
  rw [hfl]
  by_cases hn : n = 0
  · subst hn
    have hw0 : IntKind.i64.wrap 0 = 0 := rfl
    simp [Instr.makeSlice, run_underlying ht, hy.sizeOf, hi', hzr, asInt, asIntOf, newRow, Sem.run, hw0]
    congr 2
    apply Array.ext <;> simp
  · have hns : ¬ (n * y.size = 0) := Nat.mul_ne_zero hn (by omega)
    simp [Instr.makeSlice, run_underlying ht, hy.sizeOf, hi', hzr, asInt, asIntOf, hw, hn, hneg, hns, h48i, newRow, Sem.run]
theorem makeSlice_ok (hL : LayOk P L) {t e : TypeId} {x0 x : Operand} {n : Nat} {a b : Nat} {zt : List Value} {y : Ty} {k : IntKind} (ho : o.op = .makeSlice t x x) (hx : evalO s.fr x = .raw (.int k n))
    (ht : ty L t = some ⟨.slice e, a, b, zt⟩) (hye : ty L e = some y) (hz : y.zero.length = y.size) (hs : 0 < y.size) (h63 : n ≤ 4294967296) (hby : y.bytes ≤ 1024) :
    EffOk P base nt o s (s.h ++ [⟨.arr, 0, y.size, n, fun _ => y.zero.map ofCell⟩]) (.ref s.h.length 0 0 n) := by
  intro Z pl ac w r hbs
  have hrx := r.eval x
  rw [hx] at hrx
  have hv := inv_raw hrx
  have hy := hL _ _ hye
  have hpl : pl.length = s.h.length := r.o.len
  have hrun := run_makeSlice_zeros (k := k) (under_slice (hL _ _ ht) rfl) hy hz hs w n h63 hby
  have e1 : ∀ b, b < w.heap.size → (w.alloc (.cells (flat n y.size fun _ j => nthV y.zero j).toArray e)).heap[b]? = w.heap[b]? := fun b hb => heap_push_old w _ b hb
  have hnew : (w.alloc (.cells (flat n y.size fun _ j => nthV y.zero j).toArray e)).heap[w.heap.size]? = some (.cells (flat n y.size fun _ j => nthV y.zero j).toArray e (0, 0)) := heap_alloc_new w _
  have T : Tr s.h pl w (s.h ++ [⟨.arr, 0, y.size, n, fun _ => y.zero.map ofCell⟩]) (pl ++ [some (w.heap.size, 0)]) (w.alloc (.cells (flat n y.size fun _ j => nthV y.zero j).toArray e)) := Tr.push r.o e1 _ _ (by intro b q h; simp at h; omega)
  refine ⟨.slice (some ⟨w.heap.size, 0, none⟩) n n, _, _, .inl ?_, T, RelO.push r.o e1 _ rfl (Nat.le_refl _) hbs hnew (by simp [flat_length]) (fun i hi => by simp [hz]) (fun i j hi hj => ⟨nthV y.zero j, ?_, ?_⟩), .ref _ _ _ _ ⟨.arr, 0, y.size, n, fun _ => y.zero.map ofCell⟩ (some (w.heap.size, 0)) _ _ (by simp) (by rw [← hpl]; simp) rfl (Nat.le_refl _) (fun _ => .inr ⟨w.heap.size, 0, _, _, rfl, by simp, hnew, ?_, Nat.le_refl _⟩), below_alloc hbs _, fun _ => e1⟩
  · simp only [execOp, ho, hv, hrun, Sem.run_bind, Result.andThen_ok, Sem.run_pure]
  · have hg := flat_get (vs := fun _ j => nthV y.zero j) hi hj
    rw [Nat.zero_add]
    simpa using hg
  · have hj2 : j < y.zero.length := by rw [hz]; exact hj
    have : nth (y.zero.map ofCell) j = ofCell (nthV y.zero j) := by simp [nth, nthV, List.getD_eq_getElem?_getD, hj2]
    show RelV Z _ _ _ (nth (y.zero.map ofCell) j) _
    rw [this]
    exact .cl _ _ (cl_ofCell _ _ _)
  · simp [flat_length]
end
section
variable {P : Program} {L : Lay} {base nt : Nat} {w0 : Start} {Q : Exit → St → Prop}
theorem kont_makeSlice (hL : LayOk P L) (hb : base ≤ w0.w.heap.size) {k : List Item} {dst : Option Nat} {tyd : TypeId} {pos : String} {after : Array Edge} {gd : Option (Nat × Bool)} {r : List (Oper × G)} {s : St} {t e : TypeId} {x : Operand} {n : Nat} {a b : Nat} {zt : List Value} {y : Ty} {ki : IntKind}
    (hx : evalO s.fr x = .raw (.int ki n)) (ht : ty L t = some ⟨.slice e, a, b, zt⟩) (hye : ty L e = some y) (hz : y.zero.length = y.size) (hs : 0 < y.size) (h63 : n ≤ 4294967296) (hby : y.bytes ≤ 1024) (hd : okO nt dst = true)
    (h1 : kont P base nt w0 Q (.ops r :: k) .normal ⟨putO s.fr dst (.ref s.h.length 0 0 n), s.h ++ [⟨.arr, 0, y.size, n, fun _ => y.zero.map ofCell⟩]⟩) :
    kont P base nt w0 Q (.ops ((⟨dst, .makeSlice t x x, tyd, pos, after, gd⟩, none) :: r) :: k) .normal s := by
  simp only [kont] at h1 ⊢
  exact AG_eff hb (makeSlice_ok (x0 := x) hL rfl hx ht hye hz hs h63 hby) hd h1
end
end Go.Fg
/- The program's cut of an outcome: walked. Conditions: below a million results and events. -/
namespace Go.Fg.X
open Go.Proofs Go.Fg
set_option maxRecDepth 100000
set_option maxHeartbeats 4000000
set_option linter.unusedSimpArgs false
set_option linter.unusedVariables false
theorem ahead_ok (o : Outc) (n : Int) (h : o.Small) : AFn Tryz.prog 29 [.agg o.cells, dint n] (Ret (.agg (aheadV o n).cells)) := by
  have h1 := h.r
  have h2 := h.e
  obtain ⟨m, hm⟩ : ∃ m : Nat, m = min n.toNat o.results.length := ⟨_, rfl⟩
  have em : min (max n 0) (o.results.length : Int) = (m : Int) := by omega
  have el : (aheadV o n).results.length = m := by simp [aheadV, hm]
  refine freezeH2 (R := fun d hh => ∃ g g' x y z row, d = .agg [.ref 3 g 0 m, .ref 4 g' 0 (aheadV o n).events.length] ∧ hh = [x, y, z, ⟨.arr, g, 3, m, row⟩, ⟨.arr, g', 12, (aheadV o n).events.length, Ev.rows (aheadV o n).events⟩] ∧ ∀ i, i < m → row i = (o.results.getD i default).cells) _ rfl ?_ ?_
  · rintro d hh ⟨g, g', x, y, z, row, rfl, rfl, hr⟩
    refine ⟨3, g, 3, _, _, 4, g', 12, _, _, rfl, rfl, by decide, fun i hi => by rw [hr i hi]; rfl, evs_cl _, ?_⟩
    have hq : ∀ i, i < m → lLeOf (dLe 4) (row i) ((aheadV o n).results.getD i default).cells := fun i hi => by
      have : (aheadV o n).results.getD i default = o.results.getD i default := by
        simp only [aheadV, List.getD_eq_getElem?_getD, List.getElem?_take]
        rw [if_pos (by omega)]
      rw [hr i hi, this]
      exact lLeOf_refl (dLe_refl _) _
    simp only [Outc.cells, el]
    generalize (aheadV o n).events = q at *
    generalize (aheadV o n).results = u at *
    simp [D.fz, fzL, nat_ble, show Nat.beq 4 3 = false from rfl]
    simp only [dLe_agg, lLe_cons, lLe_nil, dLe_imm, rowFrom_at, Nat.zero_add, lLe_self, implies_true, and_self, and_true, true_and]
    exact hq
  refine MFn_hx cx_ok 200 Tryz.func29 rfl Tryz.ntmps29 Tryz.results29 rfl fun base w pl hb => ?_
  simp only [go_sem, simprocAttr, hgetA, hgetL, hgetLk, hsetA, hsetL, hsetLk, List.length_append, List.length_set, List.append_assoc, List.set_set, em]
  refine kont_makeSlice lay_ok hb rfl rfl rfl rfl (by decide) (by omega) (by decide) rfl ?_
  refine kont_of_hx cx_ok hb 200 ?_
  simp only [go_sem, simprocAttr]
  refine kont_copy lay_ok hb rfl rfl rfl rfl rfl ?_ rfl rfl rfl trivial ?_ ?_ rfl ?_
  · simp
  · omega
  · intro i hi; rfl
  refine kont_of_hx cx_ok hb 200 ?_
  simp only [go_sem, simprocAttr]
  refine kont_weak_code (Weak.phantomOb 2 1 12 (Ev.rows []) rfl rfl rfl rfl) ?_
  refine kont_of_hx cx_ok hb 200 ?_
  simp only [go_sem, simprocAttr]
  obtain ⟨cr, hcr⟩ : ∃ cr : Nat → List D, cr = copyRow 0 m (Res.rows o.results) fun x => [.raw (.int .i64 0), .raw (.int .i64 0), .raw (.int .i64 0)] := ⟨_, rfl⟩
  have hcr2 : ∀ i, i < m → cr i = (o.results.getD i default).cells := fun i hi => by
    rw [hcr]
    have : (Nat.ble 0 i && Nat.blt i (0 + m)) = true := by simp; omega
    unfold copyRow
    rw [this]; rfl
  have hup : ∀ i, i < m → uptoL 5 (cr i) = true := fun i hi => by rw [hcr2 i hi]; rfl
  rw [← hcr]
  refine kont_for (fun k s => s = ⟨[(1, dint n), (4, .ptr 1 0 0 0), (5, .ptr 2 0 0 0), (23, evs o.events), (24, dint o.events.length), (25, dint k)],
    [⟨.one, 0, 2, 1, fun _ => o.cells⟩, ⟨.one, 0, 2, 1, fun _ => [.nil, .nil]⟩, ⟨.one, 0, 2, 1, fun _ => [.ref 3 0 0 m, .ref 4 (evBef (o.events.take k) n).length 0 (evBef (o.events.take k) n).length]⟩, ⟨.arr, 0, 3, m, cr⟩, ⟨.arr, (evBef (o.events.take k) n).length, 12, (evBef (o.events.take k) n).length, Ev.rows (evBef (o.events.take k) n)⟩]⟩) o.events.length (Weak.to 5 (by simp only [go_sem, simprocAttr, List.take_zero, evBef, List.filter_nil, List.length_nil]; exact hup)) rfl ?_
  rintro k s hk rfl
  have hwr := wrap_succ (show k < 4611686018427387904 by omega)
  have hlk := evBef_len o.events n k
  refine kont_of_hx cx_ok hb 200 ?_
  simp only [go_sem, simprocAttr]
  first | refine hite_lt hk (fun hk1 => ?_) (fun hk1 => ?_) | refine hite_ltI hk (fun hk1 => ?_) (fun hk1 => ?_)
  · have hst := evBef_succ o.events n k hk1
    generalize evBef (o.events.take k) n = L at *
    generalize hee : o.events.getD k default = e at *
    simp only [go_sem, simprocAttr, hk1, hee]
    by_cases hc : e.op < n
    · rw [decide_eq_true hc, if_pos rfl] at hst
      simp only [go_sem, simprocAttr, decide_eq_true hc]
      repeat (refine And.intro (by first | assumption | omega) ?_)
      refine ⟨_, Weak.to 5 ⟨?_, ?_, ?_, ?_⟩, rfl⟩
      · simp only [go_sem, simprocAttr, hwr, hst, List.length_append, List.length_singleton]
      · simp only [go_sem, simprocAttr]
      · simp only [go_sem, simprocAttr]; exact hup
      · simp only [go_sem, simprocAttr, hst, List.length_append, List.length_singleton]
        intro i hi
        rw [getD_app _ _ _ _ hi]
        cases decide (i < L.length) <;> rfl
    · rw [decide_eq_false hc, if_neg (by decide)] at hst
      simp only [go_sem, simprocAttr, decide_eq_false hc]
      repeat (refine And.intro (by first | assumption | omega) ?_)
      refine ⟨_, Weak.to 5 ⟨?_, ?_, ?_, ?_⟩, rfl⟩
      · simp only [go_sem, simprocAttr, hwr, hst]
      · simp only [go_sem, simprocAttr]
      · simp only [go_sem, simprocAttr]; exact hup
      · simp only [go_sem, simprocAttr, hst]
  · have hk3 : k = o.events.length := by omega
    subst hk3
    rw [List.take_length]
    have e2 : (aheadV o n).events = evBef o.events n := rfl
    rw [e2]
    refine kont_of_hx cx_ok hb 200 ?_
    simp only [go_sem, simprocAttr]
    exact ⟨_, _, _, _, _, _, rfl, rfl, hcr2⟩
theorem differ_ok (a b : Outc) (ha : a.Small) (hb0 : b.Small) : AFn Tryz.prog 32 [.agg a.cells, .agg b.cells] (Ret (.tup [dint ((differV a b).getD 0), dbool (differV a b).isSome])) := by
  have a1 := ha.r
  have a2 := ha.e
  have b1 := hb0.r
  have b2 := hb0.e
  have em : min (a.results.length : Int) (b.results.length : Int) = ((min a.results.length b.results.length : Nat) : Int) := by omega
  have eM : max (a.results.length : Int) (b.results.length : Int) = ((max a.results.length b.results.length : Nat) : Int) := by omega
  obtain ⟨M, hM⟩ : ∃ M, M = max a.results.length b.results.length := ⟨_, rfl⟩
  obtain ⟨N, hN⟩ : ∃ N, N = min a.results.length b.results.length := ⟨_, rfl⟩
  rw [← hM] at eM
  rw [← hN] at em
  refine AFn_hxk 0 cx_ok 200 Tryz.func32 rfl Tryz.ntmps32 Tryz.results32 rfl fun base w hb => ?_
  simp only [go_sem, simprocAttr]
  simp only [go_sem, simprocAttr, em, eM]
  refine kont_for (fun k s => (∀ j, j < k → apartV a b j = false) ∧ s = ⟨[(2, .ptr 0 0 0 0), (3, .ptr 1 0 0 0), (6, dint N), (21, dint M), (22, dint k)], [⟨.one, 0, 2, 1, fun _ => a.cells⟩, ⟨.one, 0, 2, 1, fun _ => b.cells⟩]⟩) M (Weak.frame (by simp only [go_sem, simprocAttr])) ⟨fun j hj => by omega, rfl⟩ ?_
  rintro k s hk ⟨hno, rfl⟩
  have hwr := wrap_succ (show k < 4611686018427387904 by omega)
  refine kont_of_hx cx_ok hb 200 ?_
  simp only [go_sem, simprocAttr]
  first | refine hite_lt hk (fun hk1 => ?_) (fun hk1 => ?_) | refine hite_ltI hk (fun hk1 => ?_) (fun hk1 => ?_)
  · have hap : apartV a b k = (decide (N ≤ k) || (!decide (a.results.getD k default = b.results.getD k default) || !decide (evOf a.events k = evOf b.events k))) := by
      have : (decide (a.results.length ≤ k) || decide (b.results.length ≤ k)) = decide (N ≤ k) := by rw [Bool.eq_iff_iff]; simp; omega
      unfold apartV
      rw [← this]
      cases decide (a.results.length ≤ k) <;> cases decide (b.results.length ≤ k) <;> rfl
    have hdone : apartV a b k = true → differV a b = some k := fun h => by
      unfold differV
      rw [← hM, List.find?_range_eq_some]
      exact ⟨h, by simpa using hk1, fun j hj => by simpa using hno j hj⟩
    simp only [go_sem, simprocAttr, hk1]
    by_cases h1 : N ≤ k
    · rw [hdone (by rw [hap, decide_eq_true h1]; rfl)]
      refine kont_hax cx_ok hb 200 mixed [(0, true), (1, true), (2, true), (3, true), (4, true), (5, true), (6, true), (7, true), (8, true), (9, true), (10, true), (11, true), (12, true), (13, true), (14, true), (15, true), (16, true), (17, true), (18, true), (19, true), (21, true), (22, true), (23, true), (20, false), (24, false), (25, false), (26, true), (27, true)] (by kernel_rfl) (by kernel_rfl) ?_
      simp only [go_sem, simprocAttr, decide_eq_true h1]
      rfl
    · have h1a : k < a.results.length := by omega
      have h1b : k < b.results.length := by omega
      by_cases h2 : a.results.getD k default = b.results.getD k default
      · have l1 := evOf_len2 a.events k
        have l2 := evOf_len2 b.events k
        have c1 := of_ok a.events k a2
        have c2 := of_ok b.events k b2
        have c3 := equalE_ok (evOf a.events k) (evOf b.events k) (by omega) (by omega)
        rw [decide_eq_false h1, decide_eq_true h2, Bool.not_true, Bool.false_or, Bool.false_or] at hap
        generalize evOf a.events k = u at *
        generalize evOf b.events k = v at *
        refine kont_hax cx_ok hb 200 mixed [(0, true), (1, true), (2, true), (3, true), (4, true), (5, true), (6, true), (7, true), (8, true), (9, true), (10, true), (11, true), (12, true), (13, true), (14, true), (15, true), (16, true), (17, true), (18, true), (19, true), (21, true), (22, true), (23, true), (20, false), (24, false), (25, false), (26, true), (27, true)] (by kernel_rfl) (by kernel_rfl) ?_
        simp only [go_sem, simprocAttr, decide_eq_false h1, h1a, h1b, h2]
        refine AX_callC hb fn87 rfl ?_ c1 rfl fun d h hR => ?_
        · simp only [go_sem, simprocAttr]
        obtain ⟨rfl, rfl⟩ := hR
        simp only [go_sem, simprocAttr]
        refine AX_of_hax cx_ok hb ?_
        simp only [go_sem, simprocAttr]
        refine AX_callC hb fn87 rfl ?_ c2 rfl fun d h hR => ?_
        · simp only [go_sem, simprocAttr]
        obtain ⟨rfl, rfl⟩ := hR
        simp only [go_sem, simprocAttr]
        refine AX_of_hax cx_ok hb ?_
        simp only [go_sem, simprocAttr]
        refine AX_callC hb fn86 rfl ?_ c3 rfl fun d h hR => ?_
        · simp only [go_sem, simprocAttr]
        obtain ⟨rfl, rfl⟩ := hR
        simp only [go_sem, simprocAttr]
        refine AX_of_hax cx_ok hb ?_
        simp only [go_sem, simprocAttr]
        by_cases huv : u = v
        · simp only [decide_eq_true huv, Bool.not_true] at hap ⊢
          simp only [go_sem, simprocAttr]
          refine ⟨by omega, _, Weak.to 2 ⟨?_, by simp only [go_sem, simprocAttr], ?_, ?_⟩, fun j hj => ?_, rfl⟩
          · simp only [go_sem, simprocAttr, hwr]
          · simp only [go_sem, simprocAttr]
          · simp only [go_sem, simprocAttr]
          · rcases Nat.lt_succ_iff_lt_or_eq.1 hj with h4 | rfl
            · exact hno j h4
            · exact hap
        · simp only [decide_eq_false huv, Bool.not_false] at hap ⊢
          rw [hdone hap]
          simp only [go_sem, simprocAttr]
          rfl
      · have hq := Res.eqb_ne h2
        simp only [Res.eqb] at hq
        rw [hdone (by rw [hap, decide_eq_false h1, decide_eq_false h2]; rfl)]
        refine kont_hax cx_ok hb 200 mixed [(0, true), (1, true), (2, true), (3, true), (4, true), (5, true), (6, true), (7, true), (8, true), (9, true), (10, true), (11, true), (12, true), (13, true), (14, true), (15, true), (16, true), (17, true), (18, true), (19, true), (21, true), (22, true), (23, true), (20, false), (24, false), (25, false), (26, true), (27, true)] (by kernel_rfl) (by kernel_rfl) ?_
        simp only [go_sem, simprocAttr, decide_eq_false h1, h1a, h1b, hq]
        rfl
  · subst hk1
    have hnone : differV a b = none := by
      unfold differV
      rw [← hM, List.find?_range_eq_none]
      intro j hj
      simpa using hno j hj
    rw [hnone]
    refine kont_of_hx cx_ok hb 200 ?_
    simp only [go_sem, simprocAttr]
    rfl
end Go.Fg.X
namespace Go.Fg.X
open Go.Proofs Go.Fg
set_option maxRecDepth 100000
set_option maxHeartbeats 4000000
set_option linter.unusedSimpArgs false
set_option linter.unusedVariables false
theorem ro_app {h t : List Ob} {l : Nat} {o : Ob} (e : h[l]? = some o) : ((h ++ t).map Ob.ro)[l]? = some o.ro := ro_get (by rw [hgetA (hlt e)]; exact e)
theorem SlcH.le {n n' : Nat} {H : List Ob} {d : D} {L : List Int} (x : SlcH n H d L) (hn : n' ≤ n) : SlcH n' H d L := by
  rcases x with x | ⟨lo, gg, off, row, h1, h2, h3, h4⟩
  · exact .inl x
  · exact .inr ⟨lo, gg, off, row, h1, by omega, h3, h4⟩
theorem child_ok (h : List Ob) (lb : Nat) (id : Int) (x : Kls) (hl : (h.map Ob.ro)[lb]? = some ⟨.rone, 0, 1, 1, fun _ => [dint id]⟩) : RFn0 Tryz.prog 80 h [dkl x, .ptr lb 0 0 0] (fun d => d = dbool (x.parent == id)) := by
  refine RFn0_hx cx_ok 200 Tryz.func80 rfl Tryz.ntmps80 Tryz.results80 rfl fun base w pl F hF hFl hb => ?_
  rw [← hF] at hl
  have hl_l := hlt hl
  simp only [go_sem, Nat.reduceAdd, Nat.reduceSub, Nat.reduceMul, Nat.reduceBEq, Nat.reduceLT, Nat.reduceLeDiff, Nat.reduceEqDiff, Int.reduceToNat, Int.reduceLE, Int.reduceLT, Int.reduceAdd, Int.reduceSub, Int.reduceNeg, Int.reduceBEq, Int.reduceBNe, Nat.reduceBNe, Nat.reduceDiv, Nat.reduceMod, hgetA, hgetL, hgetLk, hsetA, hsetL, hsetLk, List.length_append, List.length_set, List.append_assoc, List.set_set, hl, hl_l]
  exact ⟨_, rfl⟩
def childC (L : List Kls) (id : Int) : List Int := (L.filter fun x => x.parent == id).map (·.iD)
section
variable (h : List Ob) (t m c : Nat) {es : List Ent} {L : List Kls} (T : TreeIs es L) (hlen : L.length < 1000000)
  (ht : (h.map Ob.ro)[t]? = some ⟨.rone, 0, 1, 1, fun _ => [.mref m 0]⟩) (hm : (h.map Ob.ro)[m]? = some (mapOb .i64 c es).ro)
include T ht hm hlen
theorem hchildren_ok (id : Int) : RFn Tryz.prog 23 h [.ptr t 0 0 0, dint id] (fun d g => SlcH h.length (h ++ g) d (childC L id)) := by
  refine RFn_hx cx_ok 200 Tryz.func23 rfl Tryz.ntmps23 Tryz.results23 rfl fun base w pl F hF hFl hb => ?_
  rw [← hF] at ht hm
  have ht_l := hlt ht
  have hm_l := hlt hm
  simp only [go_sem, Nat.reduceAdd, Nat.reduceSub, Nat.reduceMul, Nat.reduceBEq, Nat.reduceLT, Nat.reduceLeDiff, Nat.reduceEqDiff, Int.reduceToNat, Int.reduceLE, Int.reduceLT, Int.reduceAdd, Int.reduceSub, Int.reduceNeg, Int.reduceBEq, Int.reduceBNe, Nat.reduceBNe, Nat.reduceDiv, Nat.reduceMod, hgetA, hgetL, hgetLk, hsetA, hsetL, hsetLk, List.length_append, List.length_set, List.append_assoc, List.set_set, ht, ht_l, hm, hm_l]
  have hx : ExtF F (F ++ ([⟨.one, 0, 1, 1, fun _ => [dint id]⟩] : List Ob)) := ⟨_, rfl⟩
  have hT : Tells ((F ++ ([⟨.one, 0, 1, 1, fun _ => [dint id]⟩] : List Ob)).map Ob.ro) 80 0 [.ptr F.length 0 0 0] (fun x => x.parent == id) := fun h' x hx' => child_ok h' F.length id x (by
    have e := hx'.get (l := F.length) (o := ⟨.rone, 0, 1, 1, fun _ => [dint id]⟩) (by rw [List.map_append, hgetL (by simp)]; rfl)
    exact ro_get e)
  refine kont_callR hb fn75 rfl ?_ (hwhich_ok _ t m c T hlen (ro_get (hx.get ht)) (roro_get (hx.get hm)) (.clo 80 0 [.ptr F.length 0 0 0]) 80 0 [.ptr F.length 0 0 0] fn80 rfl _ hT) rfl fun d g hs => ?_
  · simp only [go_sem, Nat.reduceAdd, Nat.reduceSub, Nat.reduceMul, Nat.reduceBEq, Nat.reduceLT, Nat.reduceLeDiff, Nat.reduceEqDiff, Int.reduceToNat, Int.reduceLE, Int.reduceLT, Int.reduceAdd, Int.reduceSub, Int.reduceNeg, Int.reduceBEq, Int.reduceBNe, Nat.reduceBNe, Nat.reduceDiv, Nat.reduceMod]
  refine kont_of_hx cx_ok hb 200 ?_
  simp only [go_sem, Nat.reduceAdd, Nat.reduceSub, Nat.reduceMul, Nat.reduceBEq, Nat.reduceLT, Nat.reduceLeDiff, Nat.reduceEqDiff, Int.reduceToNat, Int.reduceLE, Int.reduceLT, Int.reduceAdd, Int.reduceSub, Int.reduceNeg, Int.reduceBEq, Int.reduceBNe, Nat.reduceBNe, Nat.reduceDiv, Nat.reduceMod, hgetA, hgetL, hgetLk, hsetA, hsetL, hsetLk, List.length_append, List.length_set, List.append_assoc, List.set_set]
  have hs2 := hs.le (n' := F.length) (by simp)
  rw [List.append_assoc] at hs2
  exact SlcH.done hFl ⟨_, rfl⟩ hs2
/-! What becomes of a tree. -/
def addE (L : List Kls) (x : Kls) (dp : Nat) : Int :=
  if rightV x ≠ 0 then rightV x
  else if (findC L x.iD).isSome then 8
  else if L.length = 64 then 5
  else if (x.parent ≠ 0 ∧ (findC L x.parent).isNone) ∨ ((findC L x.parent).getD default).leaf = true then 23
  else if 1 < ofI x.ls ∧ sharesC L x.parent = false then 29
  else if dp = 16 then 25
  else 0
end
section
variable (h : List Ob) (t m c : Nat) {es : List Ent} {L : List Kls} (T : TreeIs es L) (hlen : L.length < 1000000)
  (ht : h[t]? = some ⟨.one, 0, 1, 1, fun _ => [.mref m 0]⟩) (hm : h[m]? = some (mapOb .i64 c es))
include T ht hm hlen
/-- What a heap is behind a change: a tree, and more. -/
structure TreeAt (h : List Ob) (t m : Nat) (L : List Kls) (h' : List Ob) : Prop where
  ex : ∃ c es, h'[t]? = some ⟨.one, 0, 1, 1, fun _ => [.mref m 0]⟩ ∧ h'[m]? = some (mapOb .i64 c es) ∧ TreeIs es L
  len : h.length ≤ h'.length
  old : ∀ l, l < h.length → l ≠ m → h'[l]? = h[l]?
omit T hlen in
theorem TreeAt.same (T : TreeIs es L) (g : List Ob) : TreeAt h t m L (h ++ g) :=
  ⟨⟨c, es, by rw [hgetA (hlt ht)]; exact ht, by rw [hgetA (hlt hm)]; exact hm, T⟩, by simp, fun l hl _ => hgetA hl⟩
omit hlen in
theorem TreeAt.upd (x : Kls) (g : List Ob) : TreeAt h t m (putC L x) (h.set m (mset .i64 c es x.iD (dkl x)) ++ g) := by
  obtain ⟨c', es', e, T'⟩ := mset_tree T .i64 c x
  have hm_l := hlt hm
  have ht_l := hlt ht
  have hne : m ≠ t := by rintro rfl; rw [ht] at hm; cases hm
  rw [e]
  refine ⟨⟨c', es', ?_, ?_, T'⟩, by simp, fun l hl hl2 => ?_⟩
  · rw [hgetA (by simpa using ht_l), hgetN hne]; exact ht
  · rw [hgetA (by simpa using hm_l), hgetS hm_l]
  · rw [hgetA (by simpa using hl), hgetN (Ne.symm hl2)]
omit hlen in
theorem hadd_ok (x : Kls) (N : Nat) (hN : N < 1000000) (hE : Ends L N x.parent) : MFn Tryz.prog 172 h [.ptr t 0 0 0, dkl x] (fun d h' => d = dint (addE L x (upF L N x.parent).length) ∧ TreeAt h t m (if addE L x (upF L N x.parent).length = 0 then putC L x else L) h') := by
  have hk := T.look x.iD
  have hk2 := T.look x.parent
  have hll := T.len
  have ht_l := hlt ht
  have hm_l := hlt hm
  obtain ⟨E, hE0⟩ : ∃ E, E = addE L x (upF L N x.parent).length := ⟨_, rfl⟩
  rw [← hE0]
  have bad : ∀ g : List Ob, E ≠ 0 → TreeAt h t m (if E = 0 then putC L x else L) (h ++ g) := fun g hne => by rw [if_neg hne]; exact TreeAt.same h t m c ht hm T g
  refine MFn_hx cx_ok 200 Tryz.func172 rfl Tryz.ntmps172 Tryz.results172 rfl fun base w pl hb => ?_
  have ht_l := hlt ht
  have hm_l := hlt hm
  simp only [go_sem, Nat.reduceAdd, Nat.reduceSub, Nat.reduceMul, Nat.reduceBEq, Nat.reduceLT, Nat.reduceLeDiff, Nat.reduceEqDiff, Int.reduceToNat, Int.reduceLE, Int.reduceLT, Int.reduceAdd, Int.reduceSub, Int.reduceNeg, Int.reduceBEq, Int.reduceBNe, Nat.reduceBNe, Nat.reduceDiv, Nat.reduceMod, hgetA, hgetL, hgetLk, hsetA, hsetL, hsetLk, List.length_append, List.length_set, List.append_assoc, List.set_set, ht, ht_l, hm, hm_l]
  refine kont_call hb fn206 rfl ?_ (sright_ok x) (Ret.flat rfl) rfl fun d h hR => ?_
  · simp only [go_sem, Nat.reduceAdd, Nat.reduceSub, Nat.reduceMul, Nat.reduceBEq, Nat.reduceLT, Nat.reduceLeDiff, Nat.reduceEqDiff, Int.reduceToNat, Int.reduceLE, Int.reduceLT, Int.reduceAdd, Int.reduceSub, Int.reduceNeg, Int.reduceBEq, Int.reduceBNe, Nat.reduceBNe, Nat.reduceDiv, Nat.reduceMod, hgetA, hgetL, hgetLk, hsetA, hsetL, hsetLk, List.length_append, List.length_set, List.append_assoc, List.set_set]
  obtain ⟨rfl, rfl⟩ := hR
  refine kont_of_hx cx_ok hb 200 ?_
  simp only [go_sem, Nat.reduceAdd, Nat.reduceSub, Nat.reduceMul, Nat.reduceBEq, Nat.reduceLT, Nat.reduceLeDiff, Nat.reduceEqDiff, Int.reduceToNat, Int.reduceLE, Int.reduceLT, Int.reduceAdd, Int.reduceSub, Int.reduceNeg, Int.reduceBEq, Int.reduceBNe, Nat.reduceBNe, Nat.reduceDiv, Nat.reduceMod, hgetA, hgetL, hgetLk, hsetA, hsetL, hsetLk, List.length_append, List.length_set, List.append_assoc, List.set_set]
  by_cases h0 : rightV x = 0
  case neg =>
    have e : E = rightV x := by rw [hE0, addE, if_pos h0]
    simp only [go_sem, Nat.reduceAdd, Nat.reduceSub, Nat.reduceMul, Nat.reduceBEq, Nat.reduceLT, Nat.reduceLeDiff, Nat.reduceEqDiff, Int.reduceToNat, Int.reduceLE, Int.reduceLT, Int.reduceAdd, Int.reduceSub, Int.reduceNeg, Int.reduceBEq, Int.reduceBNe, Nat.reduceBNe, Nat.reduceDiv, Nat.reduceMod, hgetA, hgetL, hgetLk, hsetA, hsetL, hsetLk, List.length_append, List.length_set, List.append_assoc, List.set_set, beqF h0, bne]
    exact ⟨by rw [e], bad _ (by rw [e]; exact h0)⟩
  simp only [go_sem, Nat.reduceAdd, Nat.reduceSub, Nat.reduceMul, Nat.reduceBEq, Nat.reduceLT, Nat.reduceLeDiff, Nat.reduceEqDiff, Int.reduceToNat, Int.reduceLE, Int.reduceLT, Int.reduceAdd, Int.reduceSub, Int.reduceNeg, Int.reduceBEq, Int.reduceBNe, Nat.reduceBNe, Nat.reduceDiv, Nat.reduceMod, hgetA, hgetL, hgetLk, hsetA, hsetL, hsetLk, List.length_append, List.length_set, List.append_assoc, List.set_set, beqT h0, bne]
  cases hf1 : findC L x.iD with
  | some y =>
    have e : E = 8 := by rw [hE0, addE, if_neg (by simpa using h0), if_pos (by simp [hf1])]
    rw [hf1, Option.map_some] at hk
    refine kont_hax cx_ok hb 200 mixed [(0, true), (1, true), (2, true), (3, true), (4, true), (5, true), (6, true), (7, true), (8, true), (9, true), (10, false), (11, false), (12, true)] (by kernel_rfl) (by kernel_rfl) ?_
    simp only [go_sem, Nat.reduceAdd, Nat.reduceSub, Nat.reduceMul, Nat.reduceBEq, Nat.reduceLT, Nat.reduceLeDiff, Nat.reduceEqDiff, Int.reduceToNat, Int.reduceLE, Int.reduceLT, Int.reduceAdd, Int.reduceSub, Int.reduceNeg, Int.reduceBEq, Int.reduceBNe, Nat.reduceBNe, Nat.reduceDiv, Nat.reduceMod, hgetA, hgetL, hgetLk, hsetA, hsetL, hsetLk, List.length_append, List.length_set, List.append_assoc, List.set_set, ht, hm, ht_l, hm_l, hk]
    cases hf2 : findC L x.parent with
    | none =>
      rw [hf2, Option.map_none] at hk2
      refine kont_hax cx_ok hb 200 mixed [(0, true), (1, true), (2, true), (3, true), (4, true), (5, true), (6, true), (7, true), (8, true), (9, true), (10, false), (11, false), (12, true)] (by kernel_rfl) (by kernel_rfl) ?_
      simp only [go_sem, Nat.reduceAdd, Nat.reduceSub, Nat.reduceMul, Nat.reduceBEq, Nat.reduceLT, Nat.reduceLeDiff, Nat.reduceEqDiff, Int.reduceToNat, Int.reduceLE, Int.reduceLT, Int.reduceAdd, Int.reduceSub, Int.reduceNeg, Int.reduceBEq, Int.reduceBNe, Nat.reduceBNe, Nat.reduceDiv, Nat.reduceMod, hgetA, hgetL, hgetLk, hsetA, hsetL, hsetLk, List.length_append, List.length_set, List.append_assoc, List.set_set, ht, hm, ht_l, hm_l, hk2]
      exact ⟨by rw [e], bad _ (by rw [e]; decide)⟩
    | some z =>
      rw [hf2, Option.map_some] at hk2
      refine kont_hax cx_ok hb 200 mixed [(0, true), (1, true), (2, true), (3, true), (4, true), (5, true), (6, true), (7, true), (8, true), (9, true), (10, false), (11, false), (12, true)] (by kernel_rfl) (by kernel_rfl) ?_
      simp only [go_sem, Nat.reduceAdd, Nat.reduceSub, Nat.reduceMul, Nat.reduceBEq, Nat.reduceLT, Nat.reduceLeDiff, Nat.reduceEqDiff, Int.reduceToNat, Int.reduceLE, Int.reduceLT, Int.reduceAdd, Int.reduceSub, Int.reduceNeg, Int.reduceBEq, Int.reduceBNe, Nat.reduceBNe, Nat.reduceDiv, Nat.reduceMod, hgetA, hgetL, hgetLk, hsetA, hsetL, hsetLk, List.length_append, List.length_set, List.append_assoc, List.set_set, ht, hm, ht_l, hm_l, hk2]
      exact ⟨by rw [e], bad _ (by rw [e]; decide)⟩
  | none =>
    rw [hf1, Option.map_none] at hk
    refine kont_hax cx_ok hb 200 mixed [(0, true), (1, true), (2, true), (3, true), (4, true), (5, true), (6, true), (7, true), (8, true), (9, true), (10, false), (11, false), (12, true)] (by kernel_rfl) (by kernel_rfl) ?_
    simp only [go_sem, Nat.reduceAdd, Nat.reduceSub, Nat.reduceMul, Nat.reduceBEq, Nat.reduceLT, Nat.reduceLeDiff, Nat.reduceEqDiff, Int.reduceToNat, Int.reduceLE, Int.reduceLT, Int.reduceAdd, Int.reduceSub, Int.reduceNeg, Int.reduceBEq, Int.reduceBNe, Nat.reduceBNe, Nat.reduceDiv, Nat.reduceMod, hgetA, hgetL, hgetLk, hsetA, hsetL, hsetLk, List.length_append, List.length_set, List.append_assoc, List.set_set, ht, hm, ht_l, hm_l, hk]
    have a1 : E = (if L.length = 64 then 5 else if (x.parent ≠ 0 ∧ (findC L x.parent).isNone) ∨ ((findC L x.parent).getD default).leaf = true then 23 else if 1 < ofI x.ls ∧ sharesC L x.parent = false then 29 else if (upF L N x.parent).length = 16 then 25 else 0) := by
      rw [hE0, addE, if_neg (by simpa using h0), if_neg (by simp [hf1])]
    by_cases h64 : L.length = 64
    · have e : E = 5 := by rw [a1, if_pos h64]
      have e64 : (((es.length + 1 - 1 : Nat) : Int) == 64) = true := by rw [Nat.add_sub_cancel]; simp; omega
      cases hf2 : findC L x.parent with
      | none =>
        rw [hf2, Option.map_none] at hk2
        refine kont_hax cx_ok hb 200 mixed [(0, true), (1, true), (2, true), (3, true), (4, true), (5, true), (6, true), (7, true), (8, true), (9, true), (10, false), (11, false), (12, true)] (by kernel_rfl) (by kernel_rfl) ?_
        simp only [go_sem, Nat.reduceAdd, Nat.reduceSub, Nat.reduceMul, Nat.reduceBEq, Nat.reduceLT, Nat.reduceLeDiff, Nat.reduceEqDiff, Int.reduceToNat, Int.reduceLE, Int.reduceLT, Int.reduceAdd, Int.reduceSub, Int.reduceNeg, Int.reduceBEq, Int.reduceBNe, Nat.reduceBNe, Nat.reduceDiv, Nat.reduceMod, hgetA, hgetL, hgetLk, hsetA, hsetL, hsetLk, List.length_append, List.length_set, List.append_assoc, List.set_set, ht, hm, ht_l, hm_l, hk2, e64]
        exact ⟨by rw [e], bad _ (by rw [e]; decide)⟩
      | some z =>
        rw [hf2, Option.map_some] at hk2
        refine kont_hax cx_ok hb 200 mixed [(0, true), (1, true), (2, true), (3, true), (4, true), (5, true), (6, true), (7, true), (8, true), (9, true), (10, false), (11, false), (12, true)] (by kernel_rfl) (by kernel_rfl) ?_
        simp only [go_sem, Nat.reduceAdd, Nat.reduceSub, Nat.reduceMul, Nat.reduceBEq, Nat.reduceLT, Nat.reduceLeDiff, Nat.reduceEqDiff, Int.reduceToNat, Int.reduceLE, Int.reduceLT, Int.reduceAdd, Int.reduceSub, Int.reduceNeg, Int.reduceBEq, Int.reduceBNe, Nat.reduceBNe, Nat.reduceDiv, Nat.reduceMod, hgetA, hgetL, hgetLk, hsetA, hsetL, hsetLk, List.length_append, List.length_set, List.append_assoc, List.set_set, ht, hm, ht_l, hm_l, hk2, e64]
        exact ⟨by rw [e], bad _ (by rw [e]; decide)⟩
    rw [if_neg h64] at a1
    have e64 : (((es.length + 1 - 1 : Nat) : Int) == 64) = false := by rw [Nat.add_sub_cancel]; simp; omega
    cases hf2 : findC L x.parent with
    | none =>
      rw [hf2, Option.map_none] at hk2
      by_cases hp0 : x.parent = 0
      · refine kont_hax cx_ok hb 200 mixed [(0, true), (1, true), (2, true), (3, true), (4, true), (5, true), (6, true), (7, true), (8, true), (9, true), (10, false), (11, false), (12, true)] (by kernel_rfl) (by kernel_rfl) ?_
        simp only [go_sem, Nat.reduceAdd, Nat.reduceSub, Nat.reduceMul, Nat.reduceBEq, Nat.reduceLT, Nat.reduceLeDiff, Nat.reduceEqDiff, Int.reduceToNat, Int.reduceLE, Int.reduceLT, Int.reduceAdd, Int.reduceSub, Int.reduceNeg, Int.reduceBEq, Int.reduceBNe, Nat.reduceBNe, Nat.reduceDiv, Nat.reduceMod, hgetA, hgetL, hgetLk, hsetA, hsetL, hsetLk, List.length_append, List.length_set, List.append_assoc, List.set_set, ht, hm, ht_l, hm_l, hk2, e64, beqT hp0, bne]
        have a2 : E = (if 1 < ofI x.ls ∧ sharesC L x.parent = false then 29 else if (upF L N x.parent).length = 16 then 25 else 0) := by rw [a1, if_neg (by rw [hf2]; rintro (⟨h1, _⟩ | h1); exact h1 hp0; cases h1)]
        refine kont_call hb fn101 rfl ?_ (sshares_ok x) (Ret.flat rfl) rfl fun d h hR => ?_
        · simp only [go_sem, Nat.reduceAdd, Nat.reduceSub, Nat.reduceMul, Nat.reduceBEq, Nat.reduceLT, Nat.reduceLeDiff, Nat.reduceEqDiff, Int.reduceToNat, Int.reduceLE, Int.reduceLT, Int.reduceAdd, Int.reduceSub, Int.reduceNeg, Int.reduceBEq, Int.reduceBNe, Nat.reduceBNe, Nat.reduceDiv, Nat.reduceMod, hgetA, hgetL, hgetLk, hsetA, hsetL, hsetLk, List.length_append, List.length_set, List.append_assoc, List.set_set]
        obtain ⟨rfl, rfl⟩ := hR
        refine kont_of_hx cx_ok hb 200 ?_
        simp only [go_sem, Nat.reduceAdd, Nat.reduceSub, Nat.reduceMul, Nat.reduceBEq, Nat.reduceLT, Nat.reduceLeDiff, Nat.reduceEqDiff, Int.reduceToNat, Int.reduceLE, Int.reduceLT, Int.reduceAdd, Int.reduceSub, Int.reduceNeg, Int.reduceBEq, Int.reduceBNe, Nat.reduceBNe, Nat.reduceDiv, Nat.reduceMod, hgetA, hgetL, hgetLk, hsetA, hsetL, hsetLk, List.length_append, List.length_set, List.append_assoc, List.set_set]
        cases hs1 : decide (1 < ofI x.ls)
        · simp only [go_sem, Nat.reduceAdd, Nat.reduceSub, Nat.reduceMul, Nat.reduceBEq, Nat.reduceLT, Nat.reduceLeDiff, Nat.reduceEqDiff, Int.reduceToNat, Int.reduceLE, Int.reduceLT, Int.reduceAdd, Int.reduceSub, Int.reduceNeg, Int.reduceBEq, Int.reduceBNe, Nat.reduceBNe, Nat.reduceDiv, Nat.reduceMod, hgetA, hgetL, hgetLk, hsetA, hsetL, hsetLk, List.length_append, List.length_set, List.append_assoc, List.set_set, Go.undef]
          refine kont_callR0 hb fn208 rfl ?_ (hdepth_ok _ t m c T (ro_app ht) (ro_app hm) x.parent N hN hE) rfl fun d hR => ?_
          · simp only [go_sem, Nat.reduceAdd, Nat.reduceSub, Nat.reduceMul, Nat.reduceBEq, Nat.reduceLT, Nat.reduceLeDiff, Nat.reduceEqDiff, Int.reduceToNat, Int.reduceLE, Int.reduceLT, Int.reduceAdd, Int.reduceSub, Int.reduceNeg, Int.reduceBEq, Int.reduceBNe, Nat.reduceBNe, Nat.reduceDiv, Nat.reduceMod, hgetA, hgetL, hgetLk, hsetA, hsetL, hsetLk, List.length_append, List.length_set, List.append_assoc, List.set_set]
          subst hR
          refine kont_of_hx cx_ok hb 200 ?_
          simp only [go_sem, Nat.reduceAdd, Nat.reduceSub, Nat.reduceMul, Nat.reduceBEq, Nat.reduceLT, Nat.reduceLeDiff, Nat.reduceEqDiff, Int.reduceToNat, Int.reduceLE, Int.reduceLT, Int.reduceAdd, Int.reduceSub, Int.reduceNeg, Int.reduceBEq, Int.reduceBNe, Nat.reduceBNe, Nat.reduceDiv, Nat.reduceMod, hgetA, hgetL, hgetLk, hsetA, hsetL, hsetLk, List.length_append, List.length_set, List.append_assoc, List.set_set]
          by_cases hd : (upF L N x.parent).length = 16
          · have e : E = 25 := by rw [a2, if_neg (by simp at hs1; omega), if_pos hd]
            have hd2 : (((upF L N x.parent).length : Int) == 16) = true := by simp; omega
            simp only [go_sem, Nat.reduceAdd, Nat.reduceSub, Nat.reduceMul, Nat.reduceBEq, Nat.reduceLT, Nat.reduceLeDiff, Nat.reduceEqDiff, Int.reduceToNat, Int.reduceLE, Int.reduceLT, Int.reduceAdd, Int.reduceSub, Int.reduceNeg, Int.reduceBEq, Int.reduceBNe, Nat.reduceBNe, Nat.reduceDiv, Nat.reduceMod, hgetA, hgetL, hgetLk, hsetA, hsetL, hsetLk, List.length_append, List.length_set, List.append_assoc, List.set_set, hd2]
            exact ⟨by rw [e], bad _ (by rw [e]; decide)⟩
          · have e : E = 0 := by rw [a2, if_neg (by simp at hs1; omega), if_neg hd]
            have hd2 : (((upF L N x.parent).length : Int) == 16) = false := by simp; omega
            simp only [go_sem, Nat.reduceAdd, Nat.reduceSub, Nat.reduceMul, Nat.reduceBEq, Nat.reduceLT, Nat.reduceLeDiff, Nat.reduceEqDiff, Int.reduceToNat, Int.reduceLE, Int.reduceLT, Int.reduceAdd, Int.reduceSub, Int.reduceNeg, Int.reduceBEq, Int.reduceBNe, Nat.reduceBNe, Nat.reduceDiv, Nat.reduceMod, hgetA, hgetL, hgetLk, hsetA, hsetL, hsetLk, List.length_append, List.length_set, List.append_assoc, List.set_set, hd2]
            refine kont_hax cx_ok hb 200 mixed [(0, true), (1, true), (2, true), (3, true), (4, true), (5, true), (6, true), (7, false)] (by kernel_rfl) (by kernel_rfl) ?_
            simp only [go_sem, Nat.reduceAdd, Nat.reduceSub, Nat.reduceMul, Nat.reduceBEq, Nat.reduceLT, Nat.reduceLeDiff, Nat.reduceEqDiff, Int.reduceToNat, Int.reduceLE, Int.reduceLT, Int.reduceAdd, Int.reduceSub, Int.reduceNeg, Int.reduceBEq, Int.reduceBNe, Nat.reduceBNe, Nat.reduceDiv, Nat.reduceMod, hgetA, hgetL, hgetLk, hsetA, hsetL, hsetLk, List.length_append, List.length_set, List.append_assoc, List.set_set, ht, hm, ht_l, hm_l]
            rw [if_pos e]
            exact ⟨by rw [e], TreeAt.upd h t m c T ht hm x _⟩
        · simp only [go_sem, Nat.reduceAdd, Nat.reduceSub, Nat.reduceMul, Nat.reduceBEq, Nat.reduceLT, Nat.reduceLeDiff, Nat.reduceEqDiff, Int.reduceToNat, Int.reduceLE, Int.reduceLT, Int.reduceAdd, Int.reduceSub, Int.reduceNeg, Int.reduceBEq, Int.reduceBNe, Nat.reduceBNe, Nat.reduceDiv, Nat.reduceMod, hgetA, hgetL, hgetLk, hsetA, hsetL, hsetLk, List.length_append, List.length_set, List.append_assoc, List.set_set, Go.undef]
          refine kont_callR0 hb fn207 rfl ?_ (hshares_ok _ t m c T (ro_app ht) (ro_app hm) x.parent) rfl fun d hR => ?_
          · simp only [go_sem, Nat.reduceAdd, Nat.reduceSub, Nat.reduceMul, Nat.reduceBEq, Nat.reduceLT, Nat.reduceLeDiff, Nat.reduceEqDiff, Int.reduceToNat, Int.reduceLE, Int.reduceLT, Int.reduceAdd, Int.reduceSub, Int.reduceNeg, Int.reduceBEq, Int.reduceBNe, Nat.reduceBNe, Nat.reduceDiv, Nat.reduceMod, hgetA, hgetL, hgetLk, hsetA, hsetL, hsetLk, List.length_append, List.length_set, List.append_assoc, List.set_set]
          subst hR
          refine kont_of_hx cx_ok hb 200 ?_
          simp only [go_sem, Nat.reduceAdd, Nat.reduceSub, Nat.reduceMul, Nat.reduceBEq, Nat.reduceLT, Nat.reduceLeDiff, Nat.reduceEqDiff, Int.reduceToNat, Int.reduceLE, Int.reduceLT, Int.reduceAdd, Int.reduceSub, Int.reduceNeg, Int.reduceBEq, Int.reduceBNe, Nat.reduceBNe, Nat.reduceDiv, Nat.reduceMod, hgetA, hgetL, hgetLk, hsetA, hsetL, hsetLk, List.length_append, List.length_set, List.append_assoc, List.set_set]
          cases hs2 : sharesC L x.parent
          · have e : E = 29 := by rw [a2, if_pos ⟨by simpa using hs1, hs2⟩]
            simp only [go_sem, Nat.reduceAdd, Nat.reduceSub, Nat.reduceMul, Nat.reduceBEq, Nat.reduceLT, Nat.reduceLeDiff, Nat.reduceEqDiff, Int.reduceToNat, Int.reduceLE, Int.reduceLT, Int.reduceAdd, Int.reduceSub, Int.reduceNeg, Int.reduceBEq, Int.reduceBNe, Nat.reduceBNe, Nat.reduceDiv, Nat.reduceMod, hgetA, hgetL, hgetLk, hsetA, hsetL, hsetLk, List.length_append, List.length_set, List.append_assoc, List.set_set, Go.undef]
            exact ⟨by rw [e], bad _ (by rw [e]; decide)⟩
          · simp only [go_sem, Nat.reduceAdd, Nat.reduceSub, Nat.reduceMul, Nat.reduceBEq, Nat.reduceLT, Nat.reduceLeDiff, Nat.reduceEqDiff, Int.reduceToNat, Int.reduceLE, Int.reduceLT, Int.reduceAdd, Int.reduceSub, Int.reduceNeg, Int.reduceBEq, Int.reduceBNe, Nat.reduceBNe, Nat.reduceDiv, Nat.reduceMod, hgetA, hgetL, hgetLk, hsetA, hsetL, hsetLk, List.length_append, List.length_set, List.append_assoc, List.set_set, Go.undef]
            refine kont_callR0 hb fn208 rfl ?_ (hdepth_ok _ t m c T (ro_app ht) (ro_app hm) x.parent N hN hE) rfl fun d hR => ?_
            · simp only [go_sem, Nat.reduceAdd, Nat.reduceSub, Nat.reduceMul, Nat.reduceBEq, Nat.reduceLT, Nat.reduceLeDiff, Nat.reduceEqDiff, Int.reduceToNat, Int.reduceLE, Int.reduceLT, Int.reduceAdd, Int.reduceSub, Int.reduceNeg, Int.reduceBEq, Int.reduceBNe, Nat.reduceBNe, Nat.reduceDiv, Nat.reduceMod, hgetA, hgetL, hgetLk, hsetA, hsetL, hsetLk, List.length_append, List.length_set, List.append_assoc, List.set_set]
            subst hR
            refine kont_of_hx cx_ok hb 200 ?_
            simp only [go_sem, Nat.reduceAdd, Nat.reduceSub, Nat.reduceMul, Nat.reduceBEq, Nat.reduceLT, Nat.reduceLeDiff, Nat.reduceEqDiff, Int.reduceToNat, Int.reduceLE, Int.reduceLT, Int.reduceAdd, Int.reduceSub, Int.reduceNeg, Int.reduceBEq, Int.reduceBNe, Nat.reduceBNe, Nat.reduceDiv, Nat.reduceMod, hgetA, hgetL, hgetLk, hsetA, hsetL, hsetLk, List.length_append, List.length_set, List.append_assoc, List.set_set]
            by_cases hd : (upF L N x.parent).length = 16
            · have e : E = 25 := by rw [a2, if_neg (by rw [hs2]; simp), if_pos hd]
              have hd2 : (((upF L N x.parent).length : Int) == 16) = true := by simp; omega
              simp only [go_sem, Nat.reduceAdd, Nat.reduceSub, Nat.reduceMul, Nat.reduceBEq, Nat.reduceLT, Nat.reduceLeDiff, Nat.reduceEqDiff, Int.reduceToNat, Int.reduceLE, Int.reduceLT, Int.reduceAdd, Int.reduceSub, Int.reduceNeg, Int.reduceBEq, Int.reduceBNe, Nat.reduceBNe, Nat.reduceDiv, Nat.reduceMod, hgetA, hgetL, hgetLk, hsetA, hsetL, hsetLk, List.length_append, List.length_set, List.append_assoc, List.set_set, hd2]
              exact ⟨by rw [e], bad _ (by rw [e]; decide)⟩
            · have e : E = 0 := by rw [a2, if_neg (by rw [hs2]; simp), if_neg hd]
              have hd2 : (((upF L N x.parent).length : Int) == 16) = false := by simp; omega
              simp only [go_sem, Nat.reduceAdd, Nat.reduceSub, Nat.reduceMul, Nat.reduceBEq, Nat.reduceLT, Nat.reduceLeDiff, Nat.reduceEqDiff, Int.reduceToNat, Int.reduceLE, Int.reduceLT, Int.reduceAdd, Int.reduceSub, Int.reduceNeg, Int.reduceBEq, Int.reduceBNe, Nat.reduceBNe, Nat.reduceDiv, Nat.reduceMod, hgetA, hgetL, hgetLk, hsetA, hsetL, hsetLk, List.length_append, List.length_set, List.append_assoc, List.set_set, hd2]
              refine kont_hax cx_ok hb 200 mixed [(0, true), (1, true), (2, true), (3, true), (4, true), (5, true), (6, true), (7, false)] (by kernel_rfl) (by kernel_rfl) ?_
              simp only [go_sem, Nat.reduceAdd, Nat.reduceSub, Nat.reduceMul, Nat.reduceBEq, Nat.reduceLT, Nat.reduceLeDiff, Nat.reduceEqDiff, Int.reduceToNat, Int.reduceLE, Int.reduceLT, Int.reduceAdd, Int.reduceSub, Int.reduceNeg, Int.reduceBEq, Int.reduceBNe, Nat.reduceBNe, Nat.reduceDiv, Nat.reduceMod, hgetA, hgetL, hgetLk, hsetA, hsetL, hsetLk, List.length_append, List.length_set, List.append_assoc, List.set_set, ht, hm, ht_l, hm_l]
              rw [if_pos e]
              exact ⟨by rw [e], TreeAt.upd h t m c T ht hm x _⟩
      · have e : E = 23 := by rw [a1, if_pos (.inl ⟨hp0, by simp [hf2]⟩)]
        refine kont_hax cx_ok hb 200 mixed [(0, true), (1, true), (2, true), (3, true), (4, true), (5, true), (6, true), (7, true), (8, true), (9, true), (10, false), (11, false), (12, true)] (by kernel_rfl) (by kernel_rfl) ?_
        simp only [go_sem, Nat.reduceAdd, Nat.reduceSub, Nat.reduceMul, Nat.reduceBEq, Nat.reduceLT, Nat.reduceLeDiff, Nat.reduceEqDiff, Int.reduceToNat, Int.reduceLE, Int.reduceLT, Int.reduceAdd, Int.reduceSub, Int.reduceNeg, Int.reduceBEq, Int.reduceBNe, Nat.reduceBNe, Nat.reduceDiv, Nat.reduceMod, hgetA, hgetL, hgetLk, hsetA, hsetL, hsetLk, List.length_append, List.length_set, List.append_assoc, List.set_set, ht, hm, ht_l, hm_l, hk2, e64, beqF hp0, bne]
        exact ⟨by rw [e], bad _ (by rw [e]; decide)⟩
    | some z =>
      rw [hf2, Option.map_some] at hk2
      cases hz : z.leaf with
      | true =>
        have e : E = 23 := by rw [a1, if_pos (.inr (by simp [hf2, hz]))]
        by_cases hp0 : x.parent = 0
        · refine kont_hax cx_ok hb 200 mixed [(0, true), (1, true), (2, true), (3, true), (4, true), (5, true), (6, true), (7, true), (8, true), (9, true), (10, false), (11, false), (12, true)] (by kernel_rfl) (by kernel_rfl) ?_
          simp only [go_sem, Nat.reduceAdd, Nat.reduceSub, Nat.reduceMul, Nat.reduceBEq, Nat.reduceLT, Nat.reduceLeDiff, Nat.reduceEqDiff, Int.reduceToNat, Int.reduceLE, Int.reduceLT, Int.reduceAdd, Int.reduceSub, Int.reduceNeg, Int.reduceBEq, Int.reduceBNe, Nat.reduceBNe, Nat.reduceDiv, Nat.reduceMod, hgetA, hgetL, hgetLk, hsetA, hsetL, hsetLk, List.length_append, List.length_set, List.append_assoc, List.set_set, ht, hm, ht_l, hm_l, hk2, e64, beqT hp0, bne, hz]
          exact ⟨by rw [e], bad _ (by rw [e]; decide)⟩
        · refine kont_hax cx_ok hb 200 mixed [(0, true), (1, true), (2, true), (3, true), (4, true), (5, true), (6, true), (7, true), (8, true), (9, true), (10, false), (11, false), (12, true)] (by kernel_rfl) (by kernel_rfl) ?_
          simp only [go_sem, Nat.reduceAdd, Nat.reduceSub, Nat.reduceMul, Nat.reduceBEq, Nat.reduceLT, Nat.reduceLeDiff, Nat.reduceEqDiff, Int.reduceToNat, Int.reduceLE, Int.reduceLT, Int.reduceAdd, Int.reduceSub, Int.reduceNeg, Int.reduceBEq, Int.reduceBNe, Nat.reduceBNe, Nat.reduceDiv, Nat.reduceMod, hgetA, hgetL, hgetLk, hsetA, hsetL, hsetLk, List.length_append, List.length_set, List.append_assoc, List.set_set, ht, hm, ht_l, hm_l, hk2, e64, beqF hp0, bne, hz]
          exact ⟨by rw [e], bad _ (by rw [e]; decide)⟩
      | false =>
        by_cases hp0 : x.parent = 0
        · refine kont_hax cx_ok hb 200 mixed [(0, true), (1, true), (2, true), (3, true), (4, true), (5, true), (6, true), (7, true), (8, true), (9, true), (10, false), (11, false), (12, true)] (by kernel_rfl) (by kernel_rfl) ?_
          simp only [go_sem, Nat.reduceAdd, Nat.reduceSub, Nat.reduceMul, Nat.reduceBEq, Nat.reduceLT, Nat.reduceLeDiff, Nat.reduceEqDiff, Int.reduceToNat, Int.reduceLE, Int.reduceLT, Int.reduceAdd, Int.reduceSub, Int.reduceNeg, Int.reduceBEq, Int.reduceBNe, Nat.reduceBNe, Nat.reduceDiv, Nat.reduceMod, hgetA, hgetL, hgetLk, hsetA, hsetL, hsetLk, List.length_append, List.length_set, List.append_assoc, List.set_set, ht, hm, ht_l, hm_l, hk2, e64, beqT hp0, bne, hz]
          have a2 : E = (if 1 < ofI x.ls ∧ sharesC L x.parent = false then 29 else if (upF L N x.parent).length = 16 then 25 else 0) := by rw [a1, if_neg (by rw [hf2]; rintro (⟨h1, _⟩ | h1); exact h1 hp0; exact absurd h1 (by simp [hz]))]
          refine kont_call hb fn101 rfl ?_ (sshares_ok x) (Ret.flat rfl) rfl fun d h hR => ?_
          · simp only [go_sem, Nat.reduceAdd, Nat.reduceSub, Nat.reduceMul, Nat.reduceBEq, Nat.reduceLT, Nat.reduceLeDiff, Nat.reduceEqDiff, Int.reduceToNat, Int.reduceLE, Int.reduceLT, Int.reduceAdd, Int.reduceSub, Int.reduceNeg, Int.reduceBEq, Int.reduceBNe, Nat.reduceBNe, Nat.reduceDiv, Nat.reduceMod, hgetA, hgetL, hgetLk, hsetA, hsetL, hsetLk, List.length_append, List.length_set, List.append_assoc, List.set_set]
          obtain ⟨rfl, rfl⟩ := hR
          refine kont_of_hx cx_ok hb 200 ?_
          simp only [go_sem, Nat.reduceAdd, Nat.reduceSub, Nat.reduceMul, Nat.reduceBEq, Nat.reduceLT, Nat.reduceLeDiff, Nat.reduceEqDiff, Int.reduceToNat, Int.reduceLE, Int.reduceLT, Int.reduceAdd, Int.reduceSub, Int.reduceNeg, Int.reduceBEq, Int.reduceBNe, Nat.reduceBNe, Nat.reduceDiv, Nat.reduceMod, hgetA, hgetL, hgetLk, hsetA, hsetL, hsetLk, List.length_append, List.length_set, List.append_assoc, List.set_set]
          cases hs1 : decide (1 < ofI x.ls)
          · simp only [go_sem, Nat.reduceAdd, Nat.reduceSub, Nat.reduceMul, Nat.reduceBEq, Nat.reduceLT, Nat.reduceLeDiff, Nat.reduceEqDiff, Int.reduceToNat, Int.reduceLE, Int.reduceLT, Int.reduceAdd, Int.reduceSub, Int.reduceNeg, Int.reduceBEq, Int.reduceBNe, Nat.reduceBNe, Nat.reduceDiv, Nat.reduceMod, hgetA, hgetL, hgetLk, hsetA, hsetL, hsetLk, List.length_append, List.length_set, List.append_assoc, List.set_set, Go.undef]
            refine kont_callR0 hb fn208 rfl ?_ (hdepth_ok _ t m c T (ro_app ht) (ro_app hm) x.parent N hN hE) rfl fun d hR => ?_
            · simp only [go_sem, Nat.reduceAdd, Nat.reduceSub, Nat.reduceMul, Nat.reduceBEq, Nat.reduceLT, Nat.reduceLeDiff, Nat.reduceEqDiff, Int.reduceToNat, Int.reduceLE, Int.reduceLT, Int.reduceAdd, Int.reduceSub, Int.reduceNeg, Int.reduceBEq, Int.reduceBNe, Nat.reduceBNe, Nat.reduceDiv, Nat.reduceMod, hgetA, hgetL, hgetLk, hsetA, hsetL, hsetLk, List.length_append, List.length_set, List.append_assoc, List.set_set]
            subst hR
            refine kont_of_hx cx_ok hb 200 ?_
            simp only [go_sem, Nat.reduceAdd, Nat.reduceSub, Nat.reduceMul, Nat.reduceBEq, Nat.reduceLT, Nat.reduceLeDiff, Nat.reduceEqDiff, Int.reduceToNat, Int.reduceLE, Int.reduceLT, Int.reduceAdd, Int.reduceSub, Int.reduceNeg, Int.reduceBEq, Int.reduceBNe, Nat.reduceBNe, Nat.reduceDiv, Nat.reduceMod, hgetA, hgetL, hgetLk, hsetA, hsetL, hsetLk, List.length_append, List.length_set, List.append_assoc, List.set_set]
            by_cases hd : (upF L N x.parent).length = 16
            · have e : E = 25 := by rw [a2, if_neg (by simp at hs1; omega), if_pos hd]
              have hd2 : (((upF L N x.parent).length : Int) == 16) = true := by simp; omega
              simp only [go_sem, Nat.reduceAdd, Nat.reduceSub, Nat.reduceMul, Nat.reduceBEq, Nat.reduceLT, Nat.reduceLeDiff, Nat.reduceEqDiff, Int.reduceToNat, Int.reduceLE, Int.reduceLT, Int.reduceAdd, Int.reduceSub, Int.reduceNeg, Int.reduceBEq, Int.reduceBNe, Nat.reduceBNe, Nat.reduceDiv, Nat.reduceMod, hgetA, hgetL, hgetLk, hsetA, hsetL, hsetLk, List.length_append, List.length_set, List.append_assoc, List.set_set, hd2]
              exact ⟨by rw [e], bad _ (by rw [e]; decide)⟩
            · have e : E = 0 := by rw [a2, if_neg (by simp at hs1; omega), if_neg hd]
              have hd2 : (((upF L N x.parent).length : Int) == 16) = false := by simp; omega
              simp only [go_sem, Nat.reduceAdd, Nat.reduceSub, Nat.reduceMul, Nat.reduceBEq, Nat.reduceLT, Nat.reduceLeDiff, Nat.reduceEqDiff, Int.reduceToNat, Int.reduceLE, Int.reduceLT, Int.reduceAdd, Int.reduceSub, Int.reduceNeg, Int.reduceBEq, Int.reduceBNe, Nat.reduceBNe, Nat.reduceDiv, Nat.reduceMod, hgetA, hgetL, hgetLk, hsetA, hsetL, hsetLk, List.length_append, List.length_set, List.append_assoc, List.set_set, hd2]
              refine kont_hax cx_ok hb 200 mixed [(0, true), (1, true), (2, true), (3, true), (4, true), (5, true), (6, true), (7, false)] (by kernel_rfl) (by kernel_rfl) ?_
              simp only [go_sem, Nat.reduceAdd, Nat.reduceSub, Nat.reduceMul, Nat.reduceBEq, Nat.reduceLT, Nat.reduceLeDiff, Nat.reduceEqDiff, Int.reduceToNat, Int.reduceLE, Int.reduceLT, Int.reduceAdd, Int.reduceSub, Int.reduceNeg, Int.reduceBEq, Int.reduceBNe, Nat.reduceBNe, Nat.reduceDiv, Nat.reduceMod, hgetA, hgetL, hgetLk, hsetA, hsetL, hsetLk, List.length_append, List.length_set, List.append_assoc, List.set_set, ht, hm, ht_l, hm_l]
              rw [if_pos e]
              exact ⟨by rw [e], TreeAt.upd h t m c T ht hm x _⟩
          · simp only [go_sem, Nat.reduceAdd, Nat.reduceSub, Nat.reduceMul, Nat.reduceBEq, Nat.reduceLT, Nat.reduceLeDiff, Nat.reduceEqDiff, Int.reduceToNat, Int.reduceLE, Int.reduceLT, Int.reduceAdd, Int.reduceSub, Int.reduceNeg, Int.reduceBEq, Int.reduceBNe, Nat.reduceBNe, Nat.reduceDiv, Nat.reduceMod, hgetA, hgetL, hgetLk, hsetA, hsetL, hsetLk, List.length_append, List.length_set, List.append_assoc, List.set_set, Go.undef]
            refine kont_callR0 hb fn207 rfl ?_ (hshares_ok _ t m c T (ro_app ht) (ro_app hm) x.parent) rfl fun d hR => ?_
            · simp only [go_sem, Nat.reduceAdd, Nat.reduceSub, Nat.reduceMul, Nat.reduceBEq, Nat.reduceLT, Nat.reduceLeDiff, Nat.reduceEqDiff, Int.reduceToNat, Int.reduceLE, Int.reduceLT, Int.reduceAdd, Int.reduceSub, Int.reduceNeg, Int.reduceBEq, Int.reduceBNe, Nat.reduceBNe, Nat.reduceDiv, Nat.reduceMod, hgetA, hgetL, hgetLk, hsetA, hsetL, hsetLk, List.length_append, List.length_set, List.append_assoc, List.set_set]
            subst hR
            refine kont_of_hx cx_ok hb 200 ?_
            simp only [go_sem, Nat.reduceAdd, Nat.reduceSub, Nat.reduceMul, Nat.reduceBEq, Nat.reduceLT, Nat.reduceLeDiff, Nat.reduceEqDiff, Int.reduceToNat, Int.reduceLE, Int.reduceLT, Int.reduceAdd, Int.reduceSub, Int.reduceNeg, Int.reduceBEq, Int.reduceBNe, Nat.reduceBNe, Nat.reduceDiv, Nat.reduceMod, hgetA, hgetL, hgetLk, hsetA, hsetL, hsetLk, List.length_append, List.length_set, List.append_assoc, List.set_set]
            cases hs2 : sharesC L x.parent
            · have e : E = 29 := by rw [a2, if_pos ⟨by simpa using hs1, hs2⟩]
              simp only [go_sem, Nat.reduceAdd, Nat.reduceSub, Nat.reduceMul, Nat.reduceBEq, Nat.reduceLT, Nat.reduceLeDiff, Nat.reduceEqDiff, Int.reduceToNat, Int.reduceLE, Int.reduceLT, Int.reduceAdd, Int.reduceSub, Int.reduceNeg, Int.reduceBEq, Int.reduceBNe, Nat.reduceBNe, Nat.reduceDiv, Nat.reduceMod, hgetA, hgetL, hgetLk, hsetA, hsetL, hsetLk, List.length_append, List.length_set, List.append_assoc, List.set_set, Go.undef]
              exact ⟨by rw [e], bad _ (by rw [e]; decide)⟩
            · simp only [go_sem, Nat.reduceAdd, Nat.reduceSub, Nat.reduceMul, Nat.reduceBEq, Nat.reduceLT, Nat.reduceLeDiff, Nat.reduceEqDiff, Int.reduceToNat, Int.reduceLE, Int.reduceLT, Int.reduceAdd, Int.reduceSub, Int.reduceNeg, Int.reduceBEq, Int.reduceBNe, Nat.reduceBNe, Nat.reduceDiv, Nat.reduceMod, hgetA, hgetL, hgetLk, hsetA, hsetL, hsetLk, List.length_append, List.length_set, List.append_assoc, List.set_set, Go.undef]
              refine kont_callR0 hb fn208 rfl ?_ (hdepth_ok _ t m c T (ro_app ht) (ro_app hm) x.parent N hN hE) rfl fun d hR => ?_
              · simp only [go_sem, Nat.reduceAdd, Nat.reduceSub, Nat.reduceMul, Nat.reduceBEq, Nat.reduceLT, Nat.reduceLeDiff, Nat.reduceEqDiff, Int.reduceToNat, Int.reduceLE, Int.reduceLT, Int.reduceAdd, Int.reduceSub, Int.reduceNeg, Int.reduceBEq, Int.reduceBNe, Nat.reduceBNe, Nat.reduceDiv, Nat.reduceMod, hgetA, hgetL, hgetLk, hsetA, hsetL, hsetLk, List.length_append, List.length_set, List.append_assoc, List.set_set]
              subst hR
              refine kont_of_hx cx_ok hb 200 ?_
              simp only [go_sem, Nat.reduceAdd, Nat.reduceSub, Nat.reduceMul, Nat.reduceBEq, Nat.reduceLT, Nat.reduceLeDiff, Nat.reduceEqDiff, Int.reduceToNat, Int.reduceLE, Int.reduceLT, Int.reduceAdd, Int.reduceSub, Int.reduceNeg, Int.reduceBEq, Int.reduceBNe, Nat.reduceBNe, Nat.reduceDiv, Nat.reduceMod, hgetA, hgetL, hgetLk, hsetA, hsetL, hsetLk, List.length_append, List.length_set, List.append_assoc, List.set_set]
              by_cases hd : (upF L N x.parent).length = 16
              · have e : E = 25 := by rw [a2, if_neg (by rw [hs2]; simp), if_pos hd]
                have hd2 : (((upF L N x.parent).length : Int) == 16) = true := by simp; omega
                simp only [go_sem, Nat.reduceAdd, Nat.reduceSub, Nat.reduceMul, Nat.reduceBEq, Nat.reduceLT, Nat.reduceLeDiff, Nat.reduceEqDiff, Int.reduceToNat, Int.reduceLE, Int.reduceLT, Int.reduceAdd, Int.reduceSub, Int.reduceNeg, Int.reduceBEq, Int.reduceBNe, Nat.reduceBNe, Nat.reduceDiv, Nat.reduceMod, hgetA, hgetL, hgetLk, hsetA, hsetL, hsetLk, List.length_append, List.length_set, List.append_assoc, List.set_set, hd2]
                exact ⟨by rw [e], bad _ (by rw [e]; decide)⟩
              · have e : E = 0 := by rw [a2, if_neg (by rw [hs2]; simp), if_neg hd]
                have hd2 : (((upF L N x.parent).length : Int) == 16) = false := by simp; omega
                simp only [go_sem, Nat.reduceAdd, Nat.reduceSub, Nat.reduceMul, Nat.reduceBEq, Nat.reduceLT, Nat.reduceLeDiff, Nat.reduceEqDiff, Int.reduceToNat, Int.reduceLE, Int.reduceLT, Int.reduceAdd, Int.reduceSub, Int.reduceNeg, Int.reduceBEq, Int.reduceBNe, Nat.reduceBNe, Nat.reduceDiv, Nat.reduceMod, hgetA, hgetL, hgetLk, hsetA, hsetL, hsetLk, List.length_append, List.length_set, List.append_assoc, List.set_set, hd2]
                refine kont_hax cx_ok hb 200 mixed [(0, true), (1, true), (2, true), (3, true), (4, true), (5, true), (6, true), (7, false)] (by kernel_rfl) (by kernel_rfl) ?_
                simp only [go_sem, Nat.reduceAdd, Nat.reduceSub, Nat.reduceMul, Nat.reduceBEq, Nat.reduceLT, Nat.reduceLeDiff, Nat.reduceEqDiff, Int.reduceToNat, Int.reduceLE, Int.reduceLT, Int.reduceAdd, Int.reduceSub, Int.reduceNeg, Int.reduceBEq, Int.reduceBNe, Nat.reduceBNe, Nat.reduceDiv, Nat.reduceMod, hgetA, hgetL, hgetLk, hsetA, hsetL, hsetLk, List.length_append, List.length_set, List.append_assoc, List.set_set, ht, hm, ht_l, hm_l]
                rw [if_pos e]
                exact ⟨by rw [e], TreeAt.upd h t m c T ht hm x _⟩
        · refine kont_hax cx_ok hb 200 mixed [(0, true), (1, true), (2, true), (3, true), (4, true), (5, true), (6, true), (7, true), (8, true), (9, true), (10, false), (11, false), (12, true)] (by kernel_rfl) (by kernel_rfl) ?_
          simp only [go_sem, Nat.reduceAdd, Nat.reduceSub, Nat.reduceMul, Nat.reduceBEq, Nat.reduceLT, Nat.reduceLeDiff, Nat.reduceEqDiff, Int.reduceToNat, Int.reduceLE, Int.reduceLT, Int.reduceAdd, Int.reduceSub, Int.reduceNeg, Int.reduceBEq, Int.reduceBNe, Nat.reduceBNe, Nat.reduceDiv, Nat.reduceMod, hgetA, hgetL, hgetLk, hsetA, hsetL, hsetLk, List.length_append, List.length_set, List.append_assoc, List.set_set, ht, hm, ht_l, hm_l, hk2, e64, beqF hp0, bne, hz]
          have a2 : E = (if 1 < ofI x.ls ∧ sharesC L x.parent = false then 29 else if (upF L N x.parent).length = 16 then 25 else 0) := by rw [a1, if_neg (by simp [hf2, hz])]
          refine kont_call hb fn101 rfl ?_ (sshares_ok x) (Ret.flat rfl) rfl fun d h hR => ?_
          · simp only [go_sem, Nat.reduceAdd, Nat.reduceSub, Nat.reduceMul, Nat.reduceBEq, Nat.reduceLT, Nat.reduceLeDiff, Nat.reduceEqDiff, Int.reduceToNat, Int.reduceLE, Int.reduceLT, Int.reduceAdd, Int.reduceSub, Int.reduceNeg, Int.reduceBEq, Int.reduceBNe, Nat.reduceBNe, Nat.reduceDiv, Nat.reduceMod, hgetA, hgetL, hgetLk, hsetA, hsetL, hsetLk, List.length_append, List.length_set, List.append_assoc, List.set_set]
          obtain ⟨rfl, rfl⟩ := hR
          refine kont_of_hx cx_ok hb 200 ?_
          simp only [go_sem, Nat.reduceAdd, Nat.reduceSub, Nat.reduceMul, Nat.reduceBEq, Nat.reduceLT, Nat.reduceLeDiff, Nat.reduceEqDiff, Int.reduceToNat, Int.reduceLE, Int.reduceLT, Int.reduceAdd, Int.reduceSub, Int.reduceNeg, Int.reduceBEq, Int.reduceBNe, Nat.reduceBNe, Nat.reduceDiv, Nat.reduceMod, hgetA, hgetL, hgetLk, hsetA, hsetL, hsetLk, List.length_append, List.length_set, List.append_assoc, List.set_set]
          cases hs1 : decide (1 < ofI x.ls)
          · simp only [go_sem, Nat.reduceAdd, Nat.reduceSub, Nat.reduceMul, Nat.reduceBEq, Nat.reduceLT, Nat.reduceLeDiff, Nat.reduceEqDiff, Int.reduceToNat, Int.reduceLE, Int.reduceLT, Int.reduceAdd, Int.reduceSub, Int.reduceNeg, Int.reduceBEq, Int.reduceBNe, Nat.reduceBNe, Nat.reduceDiv, Nat.reduceMod, hgetA, hgetL, hgetLk, hsetA, hsetL, hsetLk, List.length_append, List.length_set, List.append_assoc, List.set_set, Go.undef]
            refine kont_callR0 hb fn208 rfl ?_ (hdepth_ok _ t m c T (ro_app ht) (ro_app hm) x.parent N hN hE) rfl fun d hR => ?_
            · simp only [go_sem, Nat.reduceAdd, Nat.reduceSub, Nat.reduceMul, Nat.reduceBEq, Nat.reduceLT, Nat.reduceLeDiff, Nat.reduceEqDiff, Int.reduceToNat, Int.reduceLE, Int.reduceLT, Int.reduceAdd, Int.reduceSub, Int.reduceNeg, Int.reduceBEq, Int.reduceBNe, Nat.reduceBNe, Nat.reduceDiv, Nat.reduceMod, hgetA, hgetL, hgetLk, hsetA, hsetL, hsetLk, List.length_append, List.length_set, List.append_assoc, List.set_set]
            subst hR
            refine kont_of_hx cx_ok hb 200 ?_
            simp only [go_sem, Nat.reduceAdd, Nat.reduceSub, Nat.reduceMul, Nat.reduceBEq, Nat.reduceLT, Nat.reduceLeDiff, Nat.reduceEqDiff, Int.reduceToNat, Int.reduceLE, Int.reduceLT, Int.reduceAdd, Int.reduceSub, Int.reduceNeg, Int.reduceBEq, Int.reduceBNe, Nat.reduceBNe, Nat.reduceDiv, Nat.reduceMod, hgetA, hgetL, hgetLk, hsetA, hsetL, hsetLk, List.length_append, List.length_set, List.append_assoc, List.set_set]
            by_cases hd : (upF L N x.parent).length = 16
            · have e : E = 25 := by rw [a2, if_neg (by simp at hs1; omega), if_pos hd]
              have hd2 : (((upF L N x.parent).length : Int) == 16) = true := by simp; omega
              simp only [go_sem, Nat.reduceAdd, Nat.reduceSub, Nat.reduceMul, Nat.reduceBEq, Nat.reduceLT, Nat.reduceLeDiff, Nat.reduceEqDiff, Int.reduceToNat, Int.reduceLE, Int.reduceLT, Int.reduceAdd, Int.reduceSub, Int.reduceNeg, Int.reduceBEq, Int.reduceBNe, Nat.reduceBNe, Nat.reduceDiv, Nat.reduceMod, hgetA, hgetL, hgetLk, hsetA, hsetL, hsetLk, List.length_append, List.length_set, List.append_assoc, List.set_set, hd2]
              exact ⟨by rw [e], bad _ (by rw [e]; decide)⟩
            · have e : E = 0 := by rw [a2, if_neg (by simp at hs1; omega), if_neg hd]
              have hd2 : (((upF L N x.parent).length : Int) == 16) = false := by simp; omega
              simp only [go_sem, Nat.reduceAdd, Nat.reduceSub, Nat.reduceMul, Nat.reduceBEq, Nat.reduceLT, Nat.reduceLeDiff, Nat.reduceEqDiff, Int.reduceToNat, Int.reduceLE, Int.reduceLT, Int.reduceAdd, Int.reduceSub, Int.reduceNeg, Int.reduceBEq, Int.reduceBNe, Nat.reduceBNe, Nat.reduceDiv, Nat.reduceMod, hgetA, hgetL, hgetLk, hsetA, hsetL, hsetLk, List.length_append, List.length_set, List.append_assoc, List.set_set, hd2]
              refine kont_hax cx_ok hb 200 mixed [(0, true), (1, true), (2, true), (3, true), (4, true), (5, true), (6, true), (7, false)] (by kernel_rfl) (by kernel_rfl) ?_
              simp only [go_sem, Nat.reduceAdd, Nat.reduceSub, Nat.reduceMul, Nat.reduceBEq, Nat.reduceLT, Nat.reduceLeDiff, Nat.reduceEqDiff, Int.reduceToNat, Int.reduceLE, Int.reduceLT, Int.reduceAdd, Int.reduceSub, Int.reduceNeg, Int.reduceBEq, Int.reduceBNe, Nat.reduceBNe, Nat.reduceDiv, Nat.reduceMod, hgetA, hgetL, hgetLk, hsetA, hsetL, hsetLk, List.length_append, List.length_set, List.append_assoc, List.set_set, ht, hm, ht_l, hm_l]
              rw [if_pos e]
              exact ⟨by rw [e], TreeAt.upd h t m c T ht hm x _⟩
          · simp only [go_sem, Nat.reduceAdd, Nat.reduceSub, Nat.reduceMul, Nat.reduceBEq, Nat.reduceLT, Nat.reduceLeDiff, Nat.reduceEqDiff, Int.reduceToNat, Int.reduceLE, Int.reduceLT, Int.reduceAdd, Int.reduceSub, Int.reduceNeg, Int.reduceBEq, Int.reduceBNe, Nat.reduceBNe, Nat.reduceDiv, Nat.reduceMod, hgetA, hgetL, hgetLk, hsetA, hsetL, hsetLk, List.length_append, List.length_set, List.append_assoc, List.set_set, Go.undef]
            refine kont_callR0 hb fn207 rfl ?_ (hshares_ok _ t m c T (ro_app ht) (ro_app hm) x.parent) rfl fun d hR => ?_
            · simp only [go_sem, Nat.reduceAdd, Nat.reduceSub, Nat.reduceMul, Nat.reduceBEq, Nat.reduceLT, Nat.reduceLeDiff, Nat.reduceEqDiff, Int.reduceToNat, Int.reduceLE, Int.reduceLT, Int.reduceAdd, Int.reduceSub, Int.reduceNeg, Int.reduceBEq, Int.reduceBNe, Nat.reduceBNe, Nat.reduceDiv, Nat.reduceMod, hgetA, hgetL, hgetLk, hsetA, hsetL, hsetLk, List.length_append, List.length_set, List.append_assoc, List.set_set]
            subst hR
            refine kont_of_hx cx_ok hb 200 ?_
            simp only [go_sem, Nat.reduceAdd, Nat.reduceSub, Nat.reduceMul, Nat.reduceBEq, Nat.reduceLT, Nat.reduceLeDiff, Nat.reduceEqDiff, Int.reduceToNat, Int.reduceLE, Int.reduceLT, Int.reduceAdd, Int.reduceSub, Int.reduceNeg, Int.reduceBEq, Int.reduceBNe, Nat.reduceBNe, Nat.reduceDiv, Nat.reduceMod, hgetA, hgetL, hgetLk, hsetA, hsetL, hsetLk, List.length_append, List.length_set, List.append_assoc, List.set_set]
            cases hs2 : sharesC L x.parent
            · have e : E = 29 := by rw [a2, if_pos ⟨by simpa using hs1, hs2⟩]
              simp only [go_sem, Nat.reduceAdd, Nat.reduceSub, Nat.reduceMul, Nat.reduceBEq, Nat.reduceLT, Nat.reduceLeDiff, Nat.reduceEqDiff, Int.reduceToNat, Int.reduceLE, Int.reduceLT, Int.reduceAdd, Int.reduceSub, Int.reduceNeg, Int.reduceBEq, Int.reduceBNe, Nat.reduceBNe, Nat.reduceDiv, Nat.reduceMod, hgetA, hgetL, hgetLk, hsetA, hsetL, hsetLk, List.length_append, List.length_set, List.append_assoc, List.set_set, Go.undef]
              exact ⟨by rw [e], bad _ (by rw [e]; decide)⟩
            · simp only [go_sem, Nat.reduceAdd, Nat.reduceSub, Nat.reduceMul, Nat.reduceBEq, Nat.reduceLT, Nat.reduceLeDiff, Nat.reduceEqDiff, Int.reduceToNat, Int.reduceLE, Int.reduceLT, Int.reduceAdd, Int.reduceSub, Int.reduceNeg, Int.reduceBEq, Int.reduceBNe, Nat.reduceBNe, Nat.reduceDiv, Nat.reduceMod, hgetA, hgetL, hgetLk, hsetA, hsetL, hsetLk, List.length_append, List.length_set, List.append_assoc, List.set_set, Go.undef]
              refine kont_callR0 hb fn208 rfl ?_ (hdepth_ok _ t m c T (ro_app ht) (ro_app hm) x.parent N hN hE) rfl fun d hR => ?_
              · simp only [go_sem, Nat.reduceAdd, Nat.reduceSub, Nat.reduceMul, Nat.reduceBEq, Nat.reduceLT, Nat.reduceLeDiff, Nat.reduceEqDiff, Int.reduceToNat, Int.reduceLE, Int.reduceLT, Int.reduceAdd, Int.reduceSub, Int.reduceNeg, Int.reduceBEq, Int.reduceBNe, Nat.reduceBNe, Nat.reduceDiv, Nat.reduceMod, hgetA, hgetL, hgetLk, hsetA, hsetL, hsetLk, List.length_append, List.length_set, List.append_assoc, List.set_set]
              subst hR
              refine kont_of_hx cx_ok hb 200 ?_
              simp only [go_sem, Nat.reduceAdd, Nat.reduceSub, Nat.reduceMul, Nat.reduceBEq, Nat.reduceLT, Nat.reduceLeDiff, Nat.reduceEqDiff, Int.reduceToNat, Int.reduceLE, Int.reduceLT, Int.reduceAdd, Int.reduceSub, Int.reduceNeg, Int.reduceBEq, Int.reduceBNe, Nat.reduceBNe, Nat.reduceDiv, Nat.reduceMod, hgetA, hgetL, hgetLk, hsetA, hsetL, hsetLk, List.length_append, List.length_set, List.append_assoc, List.set_set]
              by_cases hd : (upF L N x.parent).length = 16
              · have e : E = 25 := by rw [a2, if_neg (by rw [hs2]; simp), if_pos hd]
                have hd2 : (((upF L N x.parent).length : Int) == 16) = true := by simp; omega
                simp only [go_sem, Nat.reduceAdd, Nat.reduceSub, Nat.reduceMul, Nat.reduceBEq, Nat.reduceLT, Nat.reduceLeDiff, Nat.reduceEqDiff, Int.reduceToNat, Int.reduceLE, Int.reduceLT, Int.reduceAdd, Int.reduceSub, Int.reduceNeg, Int.reduceBEq, Int.reduceBNe, Nat.reduceBNe, Nat.reduceDiv, Nat.reduceMod, hgetA, hgetL, hgetLk, hsetA, hsetL, hsetLk, List.length_append, List.length_set, List.append_assoc, List.set_set, hd2]
                exact ⟨by rw [e], bad _ (by rw [e]; decide)⟩
              · have e : E = 0 := by rw [a2, if_neg (by rw [hs2]; simp), if_neg hd]
                have hd2 : (((upF L N x.parent).length : Int) == 16) = false := by simp; omega
                simp only [go_sem, Nat.reduceAdd, Nat.reduceSub, Nat.reduceMul, Nat.reduceBEq, Nat.reduceLT, Nat.reduceLeDiff, Nat.reduceEqDiff, Int.reduceToNat, Int.reduceLE, Int.reduceLT, Int.reduceAdd, Int.reduceSub, Int.reduceNeg, Int.reduceBEq, Int.reduceBNe, Nat.reduceBNe, Nat.reduceDiv, Nat.reduceMod, hgetA, hgetL, hgetLk, hsetA, hsetL, hsetLk, List.length_append, List.length_set, List.append_assoc, List.set_set, hd2]
                refine kont_hax cx_ok hb 200 mixed [(0, true), (1, true), (2, true), (3, true), (4, true), (5, true), (6, true), (7, false)] (by kernel_rfl) (by kernel_rfl) ?_
                simp only [go_sem, Nat.reduceAdd, Nat.reduceSub, Nat.reduceMul, Nat.reduceBEq, Nat.reduceLT, Nat.reduceLeDiff, Nat.reduceEqDiff, Int.reduceToNat, Int.reduceLE, Int.reduceLT, Int.reduceAdd, Int.reduceSub, Int.reduceNeg, Int.reduceBEq, Int.reduceBNe, Nat.reduceBNe, Nat.reduceDiv, Nat.reduceMod, hgetA, hgetL, hgetLk, hsetA, hsetL, hsetLk, List.length_append, List.length_set, List.append_assoc, List.set_set, ht, hm, ht_l, hm_l]
                rw [if_pos e]
                exact ⟨by rw [e], TreeAt.upd h t m c T ht hm x _⟩
end
end Go.Fg.X
namespace Go.Fg.X
open Go.Proofs Go.Fg
set_option maxRecDepth 100000
set_option maxHeartbeats 4000000
set_option linter.unusedSimpArgs false
set_option linter.unusedVariables false
section
variable (h : List Ob) (t m c : Nat) {es : List Ent} {L : List Kls} (T : TreeIs es L) (hlen : L.length < 1000000)
  (ht : (h.map Ob.ro)[t]? = some ⟨.rone, 0, 1, 1, fun _ => [.mref m 0]⟩) (hm : (h.map Ob.ro)[m]? = some (mapOb .i64 c es).ro)
include T ht hm hlen
theorem hleaves_ok : RFn Tryz.prog 135 h [.ptr t 0 0 0] (fun d g => SlcH h.length (h ++ g) d ((L.filter (·.leaf)).map (·.iD))) := by
  refine RFn_hx cx_ok 200 Tryz.func135 rfl Tryz.ntmps135 Tryz.results135 rfl fun base w pl F hF hFl hb => ?_
  rw [← hF] at ht hm
  have ht_l := hlt ht
  have hm_l := hlt hm
  simp only [go_sem, simprocAttr, hgetA, hgetL, hgetLk, hsetA, hsetL, hsetLk, List.length_append, List.length_set, List.append_assoc, List.set_set, ht, ht_l, hm, hm_l]
  have hT : Tells (F.map Ob.ro) 182 0 [] (fun x => x.leaf) := fun h' x hx' => by
    refine RFn0_hx cx_ok 200 Tryz.func182 rfl Tryz.ntmps182 Tryz.results182 rfl fun base w pl F hF hFl hb => ?_
    simp only [go_sem, simprocAttr, hgetA, hgetL, hgetLk, hsetA, hsetL, hsetLk, List.length_append, List.length_set, List.append_assoc, List.set_set]
    exact ⟨_, rfl⟩
  refine kont_callR hb fn75 rfl ?_ (hwhich_ok _ t m c T hlen (ro_get ht) (roro_get hm) (.raw (.func (.func 182) ⟨[]⟩ ⟨[]⟩)) 182 0 [] fn182 rfl _ hT) rfl fun d g hs => ?_
  · simp only [go_sem, simprocAttr]
  refine kont_of_hx cx_ok hb 200 ?_
  simp only [go_sem, simprocAttr, hgetA, hgetL, hgetLk, hsetA, hsetL, hsetLk, List.length_append, List.length_set, List.append_assoc, List.set_set]
  exact SlcH.done hFl ⟨_, rfl⟩ hs
end
end Go.Fg.X
namespace Go.Fg.X
open Go.Proofs Go.Fg
set_option maxRecDepth 100000
set_option maxHeartbeats 4000000
set_option linter.unusedSimpArgs false
set_option linter.unusedVariables false
def delE (L : List Kls) (id : Int) : Int := if (findC L id).isNone then 6 else if childC L id ≠ [] then 23 else 0
section
variable (h : List Ob) (t m c : Nat) {es : List Ent} {L : List Kls} (T : TreeIs es L) (hlen : L.length < 1000000)
  (ht : h[t]? = some ⟨.one, 0, 1, 1, fun _ => [.mref m 0]⟩) (hm : h[m]? = some (mapOb .i64 c es))
include T ht hm hlen
omit hlen T in
theorem TreeAt.put {c' : Nat} {es' : List Ent} {L' : List Kls} (T' : TreeIs es' L') (g : List Ob) : TreeAt h t m L' (h.set m (mapOb .i64 c' es') ++ g) := by
  have hm_l := hlt hm
  have ht_l := hlt ht
  have hne : m ≠ t := by rintro rfl; rw [ht] at hm; cases hm
  refine ⟨⟨c', es', ?_, ?_, T'⟩, by simp, fun l hl hl2 => ?_⟩
  · rw [hgetA (by simpa using ht_l), hgetN hne]; exact ht
  · rw [hgetA (by simpa using hm_l), hgetS hm_l]
  · rw [hgetA (by simpa using hl), hgetN (Ne.symm hl2)]
theorem hdel_ok (id : Int) : MFn Tryz.prog 175 h [.ptr t 0 0 0, dint id] (fun d h' => d = dint (delE L id) ∧ TreeAt h t m (if delE L id = 0 then delC L id else L) h') := by
  have hk := T.look id
  have ht_l := hlt ht
  have hm_l := hlt hm
  obtain ⟨E, hE0⟩ : ∃ E, E = delE L id := ⟨_, rfl⟩
  rw [← hE0]
  have bad : ∀ g : List Ob, E ≠ 0 → TreeAt h t m (if E = 0 then delC L id else L) (h ++ g) := fun g hne => by rw [if_neg hne]; exact TreeAt.same h t m c ht hm T g
  cases hf : findC L id with
  | none =>
    have e : E = 6 := by rw [hE0, delE, if_pos (by simp [hf])]
    rw [hf, Option.map_none] at hk
    refine MFn_hx cx_ok 200 Tryz.func175 rfl Tryz.ntmps175 Tryz.results175 rfl fun base w pl hb => ?_
    have ht_l := hlt ht
    have hm_l := hlt hm
    simp only [go_sem, simprocAttr, hgetA, hgetL, hgetLk, hsetA, hsetL, hsetLk, List.length_append, List.length_set, List.append_assoc, List.set_set, ht, ht_l, hm, hm_l, hk]
    exact ⟨by rw [e], bad _ (by rw [e]; decide)⟩
  | some x =>
    rw [hf, Option.map_some] at hk
    have a1 : E = if childC L id ≠ [] then 23 else 0 := by rw [hE0, delE, if_neg (by simp [hf])]
    refine MFn_hx cx_ok 200 Tryz.func175 rfl Tryz.ntmps175 Tryz.results175 rfl fun base w pl hb => ?_
    have ht_l := hlt ht
    have hm_l := hlt hm
    simp only [go_sem, simprocAttr, hgetA, hgetL, hgetLk, hsetA, hsetL, hsetLk, List.length_append, List.length_set, List.append_assoc, List.set_set, ht, ht_l, hm, hm_l, hk]
    refine kont_callR hb fn23 rfl ?_ (hchildren_ok _ t m c T hlen (ro_app ht) (ro_app hm) id) rfl fun d g hs => ?_
    · simp only [go_sem, simprocAttr]
    rcases hs with ⟨rfl, h0⟩ | ⟨lo, gn, off, row, rfl, hlo, ho, hr⟩
    · have e : E = 0 := by rw [a1, if_neg (by simp [h0])]
      refine kont_of_hx cx_ok hb 200 ?_
      simp only [go_sem, simprocAttr, hgetA, hgetL, hgetLk, hsetA, hsetL, hsetLk, List.length_append, List.length_set, List.append_assoc, List.set_set, ht, hm, ht_l, hm_l]
      rw [if_pos e]
      exact ⟨by rw [e], TreeAt.put h t m c ht hm (adel_tree T id) _⟩
    · have ho_l := hlt ho
      refine kont_of_hx cx_ok hb 200 ?_
      by_cases h0 : childC L id = []
      · have e : E = 0 := by rw [a1, if_neg (by simp [h0])]
        simp only [go_sem, simprocAttr, hgetA, hgetL, hgetLk, hsetA, hsetL, hsetLk, List.length_append, List.length_set, List.append_assoc, List.set_set, ht, hm, ht_l, hm_l, ho, ho_l, h0]
        rw [if_pos e]
        exact ⟨by rw [e], TreeAt.put h t m c ht hm (adel_tree T id) _⟩
      · have e : E = 23 := by rw [a1, if_pos h0]
        have hpos : 0 < (childC L id).length := List.length_pos_iff.2 h0
        have hpi : (0 : Int) < ((childC L id).length : Int) := by omega
        simp only [go_sem, simprocAttr, hgetA, hgetL, hgetLk, hsetA, hsetL, hsetLk, List.length_append, List.length_set, List.append_assoc, List.set_set, ht, hm, ht_l, hm_l, ho, ho_l, hpi, decide_eq_true hpi]
        exact ⟨by rw [e], bad _ (by rw [e]; decide)⟩
end
end Go.Fg.X
namespace Go.Fg.X
open Go.Proofs Go.Fg
set_option maxRecDepth 100000
set_option maxHeartbeats 4000000
set_option linter.unusedSimpArgs false
set_option linter.unusedVariables false
theorem roro_map (h : List Ob) : (h.map Ob.ro).map Ob.ro = h.map Ob.ro := by rw [List.map_map]; exact List.map_congr_left fun o _ => ro_ro o
/-- What a function value tells of a number, whatever is lent to it. -/
def TellsI (F : List Ob) (f nf : Nat) (caps : List D) (g : Int → Bool) : Prop := ∀ (h : List Ob) (n : Int), ExtF F h → RFn0 Tryz.prog f h (argsD nf caps [dint n]) (fun d => d = dbool (g n))
def firstI (g : Int → Bool) (l : List Int) : Int := match l.findIdx? g with
  | some i => i
  | none => -1
theorem firstI_at {g : Int → Bool} {l : List Int} {k : Nat} (hk : k < l.length) (h : ∀ i, i < k → g (l.getD i 0) = false) (hg : g (l.getD k 0) = true) : firstI g l = k := by
  have e : l.findIdx? g = some k := by
    rw [List.findIdx?_eq_some_iff_getElem]
    refine ⟨hk, by simpa [List.getD_eq_getElem?_getD, hk] using hg, fun i hi => ?_⟩
    have := h i hi
    simpa [List.getD_eq_getElem?_getD, show i < l.length by omega] using this
  rw [firstI, e]
theorem firstI_none {g : Int → Bool} {l : List Int} (h : ∀ i, i < l.length → g (l.getD i 0) = false) : firstI g l = -1 := by
  have e : l.findIdx? g = none := by
    rw [List.findIdx?_eq_none_iff]
    intro x hx
    obtain ⟨i, hi, rfl⟩ := List.getElem_of_mem hx
    have := h i hi
    simpa [List.getD_eq_getElem?_getD, hi] using this
  rw [firstI, e]
section
variable (h : List Ob) (l : List Int) (lo gn off : Nat) (row : Nat → List D) (hlen : l.length < 1000000) (ho : (h.map Ob.ro)[lo]? = some ⟨.rarr, gn, 1, off + l.length, row⟩) (hr : ∀ i, i < l.length → row (off + i) = [dint (l.getD i 0)])
include hlen ho hr
theorem indexFunc_ok (so : D) (f nf : Nat) (caps : List D) (hf : FnOk Tryz.prog f) (hso : calleeD so = some (f, nf, caps)) (gk : Int → Bool) (hg : TellsI (h.map Ob.ro) f nf caps gk) :
    RFn0 Tryz.prog 130 h [.ref lo gn off l.length, so] (fun d => d = dint (firstI gk l)) := by
  refine RFn0_hx cx_ok 200 Tryz.func130 rfl Tryz.ntmps130 Tryz.results130 rfl fun base w pl F hF hFl hb => ?_
  rw [← hF] at ho
  have ho_l := hlt ho
  simp only [go_sem, simprocAttr, hgetA, hgetL, hgetLk, hsetA, hsetL, hsetLk, List.length_append, List.length_set, List.append_assoc, List.set_set, ho, ho_l]
  refine kont_for (fun k s => (∀ i, i < k → gk (l.getD i 0) = false) ∧ s = ⟨[(0, .ref lo gn off l.length), (1, so), (7, dint l.length), (8, dint k)], F⟩) l.length (Weak.frame (by simp only [go_sem, simprocAttr])) ⟨fun i hi => absurd hi (by omega), rfl⟩ ?_
  rintro k s hk ⟨hn, rfl⟩
  refine kont_of_hx cx_ok hb 200 ?_
  simp only [go_sem, simprocAttr, hgetA, hgetL, hgetLk, hsetA, hsetL, hsetLk, List.length_append, List.length_set, List.append_assoc, List.set_set]
  have ho_l := hlt ho
  have hwr := wrap_succ (show k < 4611686018427387904 by omega)
  first | refine hite_lt hk (fun hk1 => ?_) (fun hk1 => ?_) | refine hite_ltI hk (fun hk1 => ?_) (fun hk1 => ?_)
  · have hrk := hr k hk1
    have hk3 : off + k < off + l.length := by omega
    simp only [go_sem, simprocAttr, hgetA, hgetL, hgetLk, hsetA, hsetL, hsetLk, List.length_append, List.length_set, List.append_assoc, List.set_set, ho, ho_l, hk1, hrk, hk3]
    refine kont_callR0 hb hf hso ?_ (hg F (l.getD k 0) (by rw [← hF]; exact ExtF.refl F)) rfl fun d2 hR => ?_
    · simp only [go_sem, simprocAttr]
      exact argsEq_refl _
    subst hR
    refine kont_of_hx cx_ok hb 200 ?_
    cases hgk : gk (l.getD k 0)
    · simp only [go_sem, simprocAttr, hgetA, hgetL, hgetLk, hsetA, hsetL, hsetLk, List.length_append, List.length_set, List.append_assoc, List.set_set]
      refine ⟨hk1, _, Weak.frame (by simp only [go_sem, simprocAttr, hwr]), fun i hi => ?_, rfl⟩
      by_cases h1 : i < k
      · exact hn i h1
      · have : i = k := by omega
        subst this; exact hgk
    · rw [firstI_at hk1 hn hgk]
      simp only [go_sem, simprocAttr, hgetA, hgetL, hgetLk, hsetA, hsetL, hsetLk, List.length_append, List.length_set, List.append_assoc, List.set_set]
      exact ⟨[], (List.append_nil F).symm⟩
  · have hk1 : k = l.length := by omega
    subst hk1
    simp only [go_sem, simprocAttr, Nat.lt_irrefl]
    rw [firstI_none hn]
    refine kont_of_hx cx_ok hb 200 ?_
    simp only [go_sem, simprocAttr, hgetA, hgetL, hgetLk, hsetA, hsetL, hsetLk, List.length_append, List.length_set, List.append_assoc, List.set_set]
    exact ⟨[], (List.append_nil F).symm⟩
theorem containsFunc_ok (so : D) (f nf : Nat) (caps : List D) (hf : FnOk Tryz.prog f) (hso : calleeD so = some (f, nf, caps)) (gk : Int → Bool) (hg : TellsI (h.map Ob.ro) f nf caps gk) :
    RFn0 Tryz.prog 66 h [.ref lo gn off l.length, so] (fun d => d = dbool (decide (0 ≤ firstI gk l))) := by
  refine RFn0_hx cx_ok 200 Tryz.func66 rfl Tryz.ntmps66 Tryz.results66 rfl fun base w pl F hF hFl hb => ?_
  rw [← hF] at ho
  have ho_l := hlt ho
  simp only [go_sem, simprocAttr, hgetA, hgetL, hgetLk, hsetA, hsetL, hsetLk, List.length_append, List.length_set, List.append_assoc, List.set_set, ho, ho_l]
  refine kont_callR0 hb fn130 rfl ?_ (indexFunc_ok F l lo gn off row hlen (ro_get ho) hr so f nf caps hf hso gk (fun h' n hx => ?_)) rfl fun d2 hR => ?_
  · simp only [go_sem, simprocAttr]
    exact argEq_refl so
  · rw [hF, roro_map] at hx
    exact hg h' n hx
  subst hR
  refine kont_of_hx cx_ok hb 200 ?_
  simp only [go_sem, simprocAttr, hgetA, hgetL, hgetLk, hsetA, hsetL, hsetLk, List.length_append, List.length_set, List.append_assoc, List.set_set]
  exact ⟨[], (List.append_nil F).symm⟩
end
theorem indexFuncN_ok (h : List Ob) (so : D) : RFn0 Tryz.prog 130 h [.nil, so] (fun d => d = dint (-1)) := by
  refine RFn0_hx cx_ok 200 Tryz.func130 rfl Tryz.ntmps130 Tryz.results130 rfl fun base w pl F hF hFl hb => ?_
  simp only [go_sem, simprocAttr, hgetA, hgetL, hgetLk, hsetA, hsetL, hsetLk, List.length_append, List.length_set, List.append_assoc, List.set_set]
  refine kont_for (fun k s => s = ⟨[(7, dint 0), (8, dint 0)], F⟩) 0 (Weak.frame (by simp only [go_sem, simprocAttr])) rfl ?_
  rintro k s hk rfl
  refine kont_of_hx cx_ok hb 200 ?_
  simp only [go_sem, simprocAttr, hgetA, hgetL, hgetLk, hsetA, hsetL, hsetLk, List.length_append, List.length_set, List.append_assoc, List.set_set]
  refine kont_of_hx cx_ok hb 200 ?_
  simp only [go_sem, simprocAttr, hgetA, hgetL, hgetLk, hsetA, hsetL, hsetLk, List.length_append, List.length_set, List.append_assoc, List.set_set]
  exact ⟨[], (List.append_nil F).symm⟩
theorem containsFuncN_ok (h : List Ob) (so : D) : RFn0 Tryz.prog 66 h [.nil, so] (fun d => d = dbool false) := by
  refine RFn0_hx cx_ok 200 Tryz.func66 rfl Tryz.ntmps66 Tryz.results66 rfl fun base w pl F hF hFl hb => ?_
  simp only [go_sem, simprocAttr, hgetA, hgetL, hgetLk, hsetA, hsetL, hsetLk, List.length_append, List.length_set, List.append_assoc, List.set_set]
  refine kont_callR0 hb fn130 rfl ?_ (indexFuncN_ok F so) rfl fun d2 hR => ?_
  · simp only [go_sem, simprocAttr]
    exact argEq_refl so
  subst hR
  refine kont_of_hx cx_ok hb 200 ?_
  simp only [go_sem, simprocAttr, hgetA, hgetL, hgetLk, hsetA, hsetL, hsetLk, List.length_append, List.length_set, List.append_assoc, List.set_set]
  exact ⟨[], (List.append_nil F).symm⟩
theorem firstI_any (g : Int → Bool) (l : List Int) : decide (0 ≤ firstI g l) = l.any g := by
  unfold firstI
  cases h : l.findIdx? g with
  | some i =>
    have := List.findIdx?_eq_some_iff_getElem.1 h
    obtain ⟨h1, h2, _⟩ := this
    have e : l.any g = true := List.any_eq_true.2 ⟨_, List.getElem_mem h1, h2⟩
    rw [e]; simp
  | none =>
    have := List.findIdx?_eq_none_iff.1 h
    have e : l.any g = false := by rw [List.any_eq_false]; intro x hx; simp [this x hx]
    rw [e]; decide
end Go.Fg.X
namespace Go.Fg.X
open Go.Proofs Go.Fg
set_option maxRecDepth 100000
set_option maxHeartbeats 4000000
set_option linter.unusedSimpArgs false
set_option linter.unusedVariables false
def sharing (L : List Kls) (id : Int) : Bool := decide (1 < ofI ((findC L id).getD default).ls)
def setE (L : List Kls) (x : Kls) : Int :=
  if rightV x ≠ 0 then rightV x
  else if (findC L x.iD).isNone then 6
  else if x.parent ≠ ((findC L x.iD).getD default).parent ∨ x.leaf ≠ ((findC L x.iD).getD default).leaf then 1
  else if (1 < ofI x.ls ∧ sharesC L x.parent = false) ∨ (¬ 1 < ofI x.ls ∧ (childC L x.iD).any (sharing L) = true) then 29
  else 0
section
variable (h : List Ob) (t m c tb : Nat) {es : List Ent} {L : List Kls} (T : TreeIs es L)
  (ht : (h.map Ob.ro)[t]? = some ⟨.rone, 0, 1, 1, fun _ => [.mref m 0]⟩) (hm : (h.map Ob.ro)[m]? = some (mapOb .i64 c es).ro)
  (hb0 : (h.map Ob.ro)[tb]? = some ⟨.rone, 0, 1, 1, fun _ => [.ptr t 0 0 0]⟩)
include T ht hm hb0
theorem hset1_ok (id : Int) : RFn0 Tryz.prog 209 h [dint id, .ptr tb 0 0 0] (fun d => d = dbool (sharing L id)) := by
  have hk := T.look id
  unfold sharing
  cases hf : findC L id with
  | none =>
    rw [hf, Option.map_none] at hk
    refine RFn0_hx cx_ok 200 Tryz.func209 rfl Tryz.ntmps209 Tryz.results209 rfl fun base w pl F hF hFl hb => ?_
    rw [← hF] at ht hm hb0
    have ht_l := hlt ht
    have hm_l := hlt hm
    have hb0_l := hlt hb0
    simp only [go_sem, simprocAttr, hgetA, hgetL, hgetLk, hsetA, hsetL, hsetLk, List.length_append, List.length_set, List.append_assoc, List.set_set, ht, ht_l, hm, hm_l, hb0, hb0_l, hk]
    refine kont_call hb fn101 rfl ?_ (sshares_ok ⟨0, 0, false, ⟨0, 0, 0⟩, ⟨0, 0, 0⟩, ⟨0, 0, 0⟩, 0, 0⟩) (Ret.flat rfl) rfl fun d h hR => ?_
    · simp only [go_sem, simprocAttr, hgetA, hgetL, hgetLk, hsetA, hsetL, hsetLk, List.length_append, List.length_set, List.append_assoc, List.set_set]
    obtain ⟨rfl, rfl⟩ := hR
    refine kont_of_hx cx_ok hb 200 ?_
    simp only [go_sem, simprocAttr, hgetA, hgetL, hgetLk, hsetA, hsetL, hsetLk, List.length_append, List.length_set, List.append_assoc, List.set_set]
    exact ⟨[], (List.append_nil F).symm, rfl⟩
  | some x =>
    rw [hf, Option.map_some] at hk
    refine RFn0_hx cx_ok 200 Tryz.func209 rfl Tryz.ntmps209 Tryz.results209 rfl fun base w pl F hF hFl hb => ?_
    rw [← hF] at ht hm hb0
    have ht_l := hlt ht
    have hm_l := hlt hm
    have hb0_l := hlt hb0
    simp only [go_sem, simprocAttr, hgetA, hgetL, hgetLk, hsetA, hsetL, hsetLk, List.length_append, List.length_set, List.append_assoc, List.set_set, ht, ht_l, hm, hm_l, hb0, hb0_l, hk]
    refine kont_call hb fn101 rfl ?_ (sshares_ok x) (Ret.flat rfl) rfl fun d h hR => ?_
    · simp only [go_sem, simprocAttr, hgetA, hgetL, hgetLk, hsetA, hsetL, hsetLk, List.length_append, List.length_set, List.append_assoc, List.set_set]
    obtain ⟨rfl, rfl⟩ := hR
    refine kont_of_hx cx_ok hb 200 ?_
    simp only [go_sem, simprocAttr, hgetA, hgetL, hgetLk, hsetA, hsetL, hsetLk, List.length_append, List.length_set, List.append_assoc, List.set_set]
    exact ⟨[], by simp⟩
end
section
variable (h : List Ob) (t m c : Nat) {es : List Ent} {L : List Kls} (T : TreeIs es L) (hlen : L.length < 1000000)
  (ht : h[t]? = some ⟨.one, 0, 1, 1, fun _ => [.mref m 0]⟩) (hm : h[m]? = some (mapOb .i64 c es))
include T ht hm hlen
theorem hset_ok (x : Kls) : MFn Tryz.prog 173 h [.ptr t 0 0 0, dkl x] (fun d h' => d = dint (setE L x) ∧ TreeAt h t m (if setE L x = 0 then putC L x else L) h') := by
  have hk := T.look x.iD
  have ht_l := hlt ht
  have hm_l := hlt hm
  obtain ⟨E, hE0⟩ : ∃ E, E = setE L x := ⟨_, rfl⟩
  rw [← hE0]
  have bad : ∀ g : List Ob, E ≠ 0 → TreeAt h t m (if E = 0 then putC L x else L) (h ++ g) := fun g hne => by rw [if_neg hne]; exact TreeAt.same h t m c ht hm T g
  refine MFn_hx cx_ok 200 Tryz.func173 rfl Tryz.ntmps173 Tryz.results173 rfl fun base w pl hb => ?_
  have ht_l := hlt ht
  have hm_l := hlt hm
  simp only [go_sem, simprocAttr, hgetA, hgetL, hgetLk, hsetA, hsetL, hsetLk, List.length_append, List.length_set, List.append_assoc, List.set_set, ht, ht_l, hm, hm_l]
  refine kont_call hb fn206 rfl ?_ (sright_ok x) (Ret.flat rfl) rfl fun d h hR => ?_
  · simp only [go_sem, simprocAttr, hgetA, hgetL, hgetLk, hsetA, hsetL, hsetLk, List.length_append, List.length_set, List.append_assoc, List.set_set]
  obtain ⟨rfl, rfl⟩ := hR
  refine kont_of_hx cx_ok hb 200 ?_
  simp only [go_sem, simprocAttr, hgetA, hgetL, hgetLk, hsetA, hsetL, hsetLk, List.length_append, List.length_set, List.append_assoc, List.set_set]
  by_cases h0 : rightV x = 0
  case neg =>
    have e : E = rightV x := by rw [hE0, setE, if_pos h0]
    simp only [go_sem, simprocAttr, hgetA, hgetL, hgetLk, hsetA, hsetL, hsetLk, List.length_append, List.length_set, List.append_assoc, List.set_set, beqF h0, bne]
    exact ⟨by rw [e], bad _ (by rw [e]; exact h0)⟩
  simp only [go_sem, simprocAttr, hgetA, hgetL, hgetLk, hsetA, hsetL, hsetLk, List.length_append, List.length_set, List.append_assoc, List.set_set, beqT h0, bne]
  cases hf1 : findC L x.iD with
  | none =>
    have e : E = 6 := by rw [hE0, setE, if_neg (by simpa using h0), if_pos (by simp [hf1])]
    rw [hf1, Option.map_none] at hk
    refine kont_hax cx_ok hb 200 mixed [(0, true), (1, true), (2, true), (3, true), (4, true), (5, true), (6, true), (7, true), (8, true), (9, true), (10, false), (11, false), (12, true)] (by kernel_rfl) (by kernel_rfl) ?_
    simp only [go_sem, simprocAttr, hgetA, hgetL, hgetLk, hsetA, hsetL, hsetLk, List.length_append, List.length_set, List.append_assoc, List.set_set, ht, hm, ht_l, hm_l, hk]
    exact ⟨by rw [e], bad _ (by rw [e]; decide)⟩
  | some y =>
    rw [hf1, Option.map_some] at hk
    have a1 : E = (if x.parent ≠ y.parent ∨ x.leaf ≠ y.leaf then 1 else if (1 < ofI x.ls ∧ sharesC L x.parent = false) ∨ (¬ 1 < ofI x.ls ∧ (childC L x.iD).any (sharing L) = true) then 29 else 0) := by
      rw [hE0, setE, if_neg (by simpa using h0), if_neg (by simp [hf1]), hf1]; rfl
    by_cases hp : x.parent = y.parent
    case neg =>
      have e : E = 1 := by rw [a1, if_pos (.inl hp)]
      refine kont_hax cx_ok hb 200 mixed [(0, true), (1, true), (2, true), (3, true), (4, true), (5, true), (6, true), (7, true), (8, true), (9, true), (10, false), (11, false), (12, true)] (by kernel_rfl) (by kernel_rfl) ?_
      simp only [go_sem, simprocAttr, hgetA, hgetL, hgetLk, hsetA, hsetL, hsetLk, List.length_append, List.length_set, List.append_assoc, List.set_set, ht, hm, ht_l, hm_l, hk, beqF hp, bne]
      exact ⟨by rw [e], bad _ (by rw [e]; decide)⟩
    by_cases hl : x.leaf = y.leaf
    case neg =>
      have e : E = 1 := by rw [a1, if_pos (.inr hl)]
      have hl2 : (x.leaf == y.leaf) = false := by simpa using hl
      refine kont_hax cx_ok hb 200 mixed [(0, true), (1, true), (2, true), (3, true), (4, true), (5, true), (6, true), (7, true), (8, true), (9, true), (10, false), (11, false), (12, true)] (by kernel_rfl) (by kernel_rfl) ?_
      simp only [go_sem, simprocAttr, hgetA, hgetL, hgetLk, hsetA, hsetL, hsetLk, List.length_append, List.length_set, List.append_assoc, List.set_set, ht, hm, ht_l, hm_l, hk, beqT hp, bne, hl2]
      exact ⟨by rw [e], bad _ (by rw [e]; decide)⟩
    have hl2 : (x.leaf == y.leaf) = true := by simpa using hl
    rw [if_neg (by simp [hp, hl])] at a1
    refine kont_hax cx_ok hb 200 mixed [(0, true), (1, true), (2, true), (3, true), (4, true), (5, true), (6, true), (7, true), (8, true), (9, true), (10, false), (11, false), (12, true)] (by kernel_rfl) (by kernel_rfl) ?_
    simp only [go_sem, simprocAttr, hgetA, hgetL, hgetLk, hsetA, hsetL, hsetLk, List.length_append, List.length_set, List.append_assoc, List.set_set, ht, hm, ht_l, hm_l, hk, beqT hp, bne, hl2]
    refine kont_call hb fn101 rfl ?_ (sshares_ok x) (Ret.flat rfl) rfl fun d h hR => ?_
    · simp only [go_sem, simprocAttr, hgetA, hgetL, hgetLk, hsetA, hsetL, hsetLk, List.length_append, List.length_set, List.append_assoc, List.set_set]
    obtain ⟨rfl, rfl⟩ := hR
    refine kont_of_hx cx_ok hb 200 ?_
    simp only [go_sem, simprocAttr, hgetA, hgetL, hgetLk, hsetA, hsetL, hsetLk, List.length_append, List.length_set, List.append_assoc, List.set_set]
    cases hs1 : decide (1 < ofI x.ls)
    · have hs1' : ¬ 1 < ofI x.ls := by simpa using hs1
      simp only [go_sem, simprocAttr, hgetA, hgetL, hgetLk, hsetA, hsetL, hsetLk, List.length_append, List.length_set, List.append_assoc, List.set_set, Go.undef]
      refine kont_call hb fn101 rfl ?_ (sshares_ok x) (Ret.flat rfl) rfl fun d h hR => ?_
      · simp only [go_sem, simprocAttr, hgetA, hgetL, hgetLk, hsetA, hsetL, hsetLk, List.length_append, List.length_set, List.append_assoc, List.set_set, hs1, Go.undef]
      obtain ⟨rfl, rfl⟩ := hR
      refine kont_of_hx cx_ok hb 200 ?_
      simp only [go_sem, simprocAttr, hgetA, hgetL, hgetLk, hsetA, hsetL, hsetLk, List.length_append, List.length_set, List.append_assoc, List.set_set, hs1, Go.undef]
      refine kont_callR hb fn23 rfl ?_ (hchildren_ok _ t m c T hlen (ro_app ht) (ro_app hm) x.iD) rfl fun d g hs => ?_
      · simp only [go_sem, simprocAttr]
      rcases hs with ⟨rfl, hc0⟩ | ⟨lo, gn, off, row, rfl, hlo, ho, hr⟩
      · have e : E = 0 := by rw [a1, if_neg (by rintro (⟨h1, _⟩ | ⟨_, h1⟩); exact hs1' h1; rw [hc0] at h1; simp at h1)]
        refine kont_of_hx cx_ok hb 200 ?_
        simp only [go_sem, simprocAttr, hgetA, hgetL, hgetLk, hsetA, hsetL, hsetLk, List.length_append, List.length_set, List.append_assoc, List.set_set, ht, hm, ht_l, hm_l]
        refine kont_callR0 hb fn66 rfl ?_ (containsFuncN_ok _ (.clo 209 0 [.ptr h.length 0 0 0])) rfl fun d hR => ?_
        · simp only [go_sem, simprocAttr, hgetA, hgetL, hgetLk, hsetA, hsetL, hsetLk, List.length_append, List.length_set, List.append_assoc, List.set_set, Go.undef]
        subst hR
        refine kont_of_hx cx_ok hb 200 ?_
        simp only [go_sem, simprocAttr, hgetA, hgetL, hgetLk, hsetA, hsetL, hsetLk, List.length_append, List.length_set, List.append_assoc, List.set_set, Go.undef]
        refine kont_hax cx_ok hb 200 mixed [(0, true), (1, true), (2, true), (3, true), (4, true), (5, true), (6, true), (7, false)] (by kernel_rfl) (by kernel_rfl) ?_
        simp only [go_sem, simprocAttr, hgetA, hgetL, hgetLk, hsetA, hsetL, hsetLk, List.length_append, List.length_set, List.append_assoc, List.set_set, ht, hm, ht_l, hm_l]
        rw [if_pos e]
        exact ⟨by rw [e], TreeAt.upd h t m c T ht hm x _⟩
      · refine kont_of_hx cx_ok hb 200 ?_
        have hcl : (childC L x.iD).length < 1000000 := by
          have := List.length_filter_le (fun y : Kls => y.parent == x.iD) L
          unfold childC; rw [List.length_map]; omega
        rw [List.append_assoc] at ho
        simp only [go_sem, simprocAttr, hgetA, hgetL, hgetLk, hsetA, hsetL, hsetLk, List.length_append, List.length_set, List.append_assoc, List.set_set, ht, hm, ht_l, hm_l]
        refine kont_callR0 hb fn66 rfl ?_ (containsFunc_ok _ (childC L x.iD) lo gn off row hcl (ro_get ho) hr (.clo 209 0 [.ptr h.length 0 0 0]) 209 0 [.ptr h.length 0 0 0] fn209 rfl (sharing L) (fun h' n hx => hset1_ok h' t m c h.length T (ro_get (hx.get (ro_app ht))) (roro_get (hx.get (ro_app hm))) (ro_get (hx.get (ro_get (o := ⟨.one, 0, 1, 1, fun _ => [.ptr t 0 0 0]⟩) (by rw [hgetL rfl]; rfl)))) n)) rfl fun d hR => ?_
        · simp only [go_sem, simprocAttr, hgetA, hgetL, hgetLk, hsetA, hsetL, hsetLk, List.length_append, List.length_set, List.append_assoc, List.set_set, Go.undef, firstI_any]
        subst hR
        refine kont_of_hx cx_ok hb 200 ?_
        simp only [go_sem, simprocAttr, hgetA, hgetL, hgetLk, hsetA, hsetL, hsetLk, List.length_append, List.length_set, List.append_assoc, List.set_set, Go.undef, firstI_any]
        cases hany : (childC L x.iD).any (sharing L)
        · have e : E = 0 := by rw [a1, if_neg (by rw [hany]; simp [hs1'])]
          simp only [go_sem, simprocAttr, hgetA, hgetL, hgetLk, hsetA, hsetL, hsetLk, List.length_append, List.length_set, List.append_assoc, List.set_set, Go.undef]
          refine kont_hax cx_ok hb 200 mixed [(0, true), (1, true), (2, true), (3, true), (4, true), (5, true), (6, true), (7, false)] (by kernel_rfl) (by kernel_rfl) ?_
          simp only [go_sem, simprocAttr, hgetA, hgetL, hgetLk, hsetA, hsetL, hsetLk, List.length_append, List.length_set, List.append_assoc, List.set_set, ht, hm, ht_l, hm_l]
          rw [if_pos e]
          exact ⟨by rw [e], TreeAt.upd h t m c T ht hm x _⟩
        · have e : E = 29 := by rw [a1, if_pos (.inr ⟨hs1', hany⟩)]
          simp only [go_sem, simprocAttr, hgetA, hgetL, hgetLk, hsetA, hsetL, hsetLk, List.length_append, List.length_set, List.append_assoc, List.set_set, Go.undef]
          exact ⟨by rw [e], bad _ (by rw [e]; decide)⟩
    · have hs1' : 1 < ofI x.ls := by simpa using hs1
      simp only [go_sem, simprocAttr, hgetA, hgetL, hgetLk, hsetA, hsetL, hsetLk, List.length_append, List.length_set, List.append_assoc, List.set_set, Go.undef]
      refine kont_callR0 hb fn207 rfl ?_ (hshares_ok _ t m c T (ro_app ht) (ro_app hm) x.parent) rfl fun d hR => ?_
      · simp only [go_sem, simprocAttr, hgetA, hgetL, hgetLk, hsetA, hsetL, hsetLk, List.length_append, List.length_set, List.append_assoc, List.set_set]
      subst hR
      refine kont_of_hx cx_ok hb 200 ?_
      simp only [go_sem, simprocAttr, hgetA, hgetL, hgetLk, hsetA, hsetL, hsetLk, List.length_append, List.length_set, List.append_assoc, List.set_set]
      cases hs2 : sharesC L x.parent
      · have e : E = 29 := by rw [a1, if_pos (.inl ⟨hs1', hs2⟩)]
        simp only [go_sem, simprocAttr, hgetA, hgetL, hgetLk, hsetA, hsetL, hsetLk, List.length_append, List.length_set, List.append_assoc, List.set_set, Go.undef]
        exact ⟨by rw [e], bad _ (by rw [e]; decide)⟩
      · have e : E = 0 := by rw [a1, if_neg (by rw [hs2]; simp [hs1'])]
        simp only [go_sem, simprocAttr, hgetA, hgetL, hgetLk, hsetA, hsetL, hsetLk, List.length_append, List.length_set, List.append_assoc, List.set_set, Go.undef]
        refine kont_call hb fn101 rfl ?_ (sshares_ok x) (Ret.flat rfl) rfl fun d h hR => ?_
        · simp only [go_sem, simprocAttr, hgetA, hgetL, hgetLk, hsetA, hsetL, hsetLk, List.length_append, List.length_set, List.append_assoc, List.set_set, hs1, Go.undef]
        obtain ⟨rfl, rfl⟩ := hR
        refine kont_of_hx cx_ok hb 200 ?_
        simp only [go_sem, simprocAttr, hgetA, hgetL, hgetLk, hsetA, hsetL, hsetLk, List.length_append, List.length_set, List.append_assoc, List.set_set, hs1, Go.undef]
        refine kont_hax cx_ok hb 200 mixed [(0, true), (1, true), (2, true), (3, true), (4, true), (5, true), (6, true), (7, false)] (by kernel_rfl) (by kernel_rfl) ?_
        simp only [go_sem, simprocAttr, hgetA, hgetL, hgetLk, hsetA, hsetL, hsetLk, List.length_append, List.length_set, List.append_assoc, List.set_set, ht, hm, ht_l, hm_l]
        rw [if_pos e]
        exact ⟨by rw [e], TreeAt.upd h t m c T ht hm x _⟩
end
end Go.Fg.X
namespace Go.Fg.X
open Go.Proofs Go.Fg
set_option maxRecDepth 100000
set_option maxHeartbeats 4000000
set_option linter.unusedSimpArgs false
set_option linter.unusedVariables false
theorem findC_put {L : List Kls} (h : Rising L) (x : Kls) (k : Int) : findC (putC L x) k = if k = x.iD then some x else findC L k := by
  have hr := putC_rising x h
  have hm := fun c => (putC_perm x h).mem_iff (a := c)
  by_cases hk : k = x.iD
  · rw [if_pos hk]
    exact (findC_iff hr).2 ⟨(hm x).2 (by simp), hk.symm⟩
  · rw [if_neg hk]
    cases hf : findC L k with
    | some c =>
      obtain ⟨h1, h2⟩ := (findC_iff h).1 hf
      exact (findC_iff hr).2 ⟨(hm c).2 (List.mem_cons.2 (.inr (List.mem_filter.2 ⟨h1, by simp; omega⟩))), h2⟩
    | none =>
      rw [findC_none] at hf ⊢
      intro c hc
      rcases List.mem_cons.1 ((hm c).1 hc) with rfl | hc
      · exact fun e => hk e.symm
      · exact hf c (List.mem_filter.1 hc).1
theorem findC_del {L : List Kls} (h : Rising L) (k0 k : Int) : findC (delC L k0) k = if k = k0 then none else findC L k := by
  have hr := delC_rising k0 h
  by_cases hk : k = k0
  · rw [if_pos hk, findC_none]
    intro c hc
    have := (List.mem_filter.1 hc).2
    simp at this; omega
  · rw [if_neg hk]
    cases hf : findC L k with
    | some c =>
      obtain ⟨h1, h2⟩ := (findC_iff h).1 hf
      exact (findC_iff hr).2 ⟨List.mem_filter.2 ⟨h1, by simp; omega⟩, h2⟩
    | none =>
      rw [findC_none] at hf ⊢
      exact fun c hc => hf c (List.mem_filter.1 hc).1
theorem Ends.succ {L : List Kls} : ∀ {n : Nat} {id : Int}, Ends L n id → Ends L (n + 1) id
  | 0, id, h => by simp only [Ends] at h ⊢; rw [h]; trivial
  | n + 1, id, h => by
    rw [Ends] at h ⊢
    cases hf : findC L id with
    | none => trivial
    | some c => rw [hf] at h; exact Ends.succ h
theorem Ends.le {L : List Kls} {n k : Nat} {id : Int} (h : Ends L n id) (hk : n ≤ k) : Ends L k id := by
  induction hk with
  | refl => exact h
  | step _ ih => exact ih.succ
theorem upF_succ {L : List Kls} : ∀ {n : Nat} {id : Int}, Ends L n id → upF L (n + 1) id = upF L n id
  | 0, id, h => by simp only [Ends] at h; simp only [upF, h]
  | n + 1, id, h => by
    rw [Ends] at h
    rw [upF]
    conv => rhs; rw [upF]
    cases hf : findC L id with
    | none => rfl
    | some c => rw [hf] at h; simp only [upF_succ h]
theorem upF_le {L : List Kls} {n k : Nat} {id : Int} (h : Ends L n id) (hk : n ≤ k) : upF L k id = upF L n id := by
  induction hk with
  | refl => rfl
  | step hk ih => rw [upF_succ (h.le hk), ih]
theorem upF_len {L : List Kls} : ∀ {n : Nat} {id : Int}, (upF L n id).length ≤ n
  | 0, _ => Nat.le_refl _
  | n + 1, id => by
    rw [upF]
    cases findC L id with
    | none => exact Nat.zero_le _
    | some c => have := upF_len (L := L) (n := n) (id := c.parent); simp only [List.length_cons]; omega
theorem Ends.short {L : List Kls} : ∀ {n k : Nat} {id : Int}, Ends L n id → (upF L n id).length ≤ k → Ends L k id
  | 0, k, id, h, _ => h.le (Nat.zero_le _)
  | n + 1, k, id, h, hk => by
    rw [Ends] at h
    rw [upF] at hk
    cases hf : findC L id with
    | none => cases k with
      | zero => exact hf
      | succ k => rw [Ends, hf]; trivial
    | some c =>
      rw [hf] at h hk
      simp only [List.length_cons] at hk
      cases k with
      | zero => omega
      | succ k => rw [Ends, hf]; exact Ends.short h (by omega)
/-- What always holds of a tree. -/
structure TreeInv (L : List Kls) : Prop where
  rising : Rising L
  ids : ∀ c ∈ L, 1 ≤ c.iD
  par : ∀ c ∈ L, c.parent = 0 ∨ (findC L c.parent).isSome = true
  ends : ∀ id, Ends L 16 id
theorem TreeInv.nil : TreeInv [] := ⟨by simp [Rising], by simp, by simp, fun id => by simp [Ends, findC]⟩
end Go.Fg.X
namespace Go.Fg.X
open Go.Proofs Go.Fg
set_option maxRecDepth 100000
set_option maxHeartbeats 4000000
set_option linter.unusedSimpArgs false
set_option linter.unusedVariables false
theorem right_id {x : Kls} (h : rightV x = 0) : 1 ≤ x.iD ∧ x.iD ≤ 65536 ∧ x.parent ≠ x.iD := by
  have h2 : idOk x = true := by
    cases h3 : idOk x with
    | true => rfl
    | false => rw [rightV, h3] at h; simp at h
  simp [idOk, frI] at h2
  exact ⟨h2.1.1.1, h2.1.1.2, h2.2⟩
theorem some_put {L : List Kls} (h : Rising L) (x : Kls) {k : Int} (hk : (findC L k).isSome = true) : (findC (putC L x) k).isSome = true := by
  rw [findC_put h]; split
  · rfl
  · exact hk
theorem mem_put {L : List Kls} (h : Rising L) (x : Kls) {c : Kls} (hc : c ∈ putC L x) : c = x ∨ c ∈ L := by
  rcases List.mem_cons.1 ((putC_perm x h).mem_iff.1 hc) with h1 | h1
  · exact .inl h1
  · exact .inr (List.mem_filter.1 h1).1
theorem TreeInv.add {L : List Kls} (I : TreeInv L) {x : Kls} (h0 : rightV x = 0) (h1 : findC L x.iD = none) (h2 : x.parent = 0 ∨ (findC L x.parent).isSome = true) (h3 : (upF L 16 x.parent).length ≠ 16) : TreeInv (putC L x) := by
  obtain ⟨i1, _, i3⟩ := right_id h0
  have key : ∀ n id, id ≠ x.iD → Ends L n id → Ends (putC L x) n id := by
    intro n
    induction n with
    | zero => intro id hid h; rw [Ends] at h ⊢; rw [findC_put I.rising, if_neg hid]; exact h
    | succ n ih =>
      intro id hid h
      rw [Ends] at h ⊢
      rw [findC_put I.rising, if_neg hid]
      cases hf : findC L id with
      | none => trivial
      | some c =>
        rw [hf] at h
        refine ih _ ?_ h
        rcases I.par c ((findC_iff I.rising).1 hf).1 with hp | hp
        · rw [hp]; omega
        · intro e; rw [e, h1] at hp; cases hp
  refine ⟨putC_rising x I.rising, fun c hc => ?_, fun c hc => ?_, fun id => ?_⟩
  · rcases mem_put I.rising x hc with rfl | hc
    · exact i1
    · exact I.ids c hc
  · rcases mem_put I.rising x hc with rfl | hc
    · exact h2.imp id fun h => some_put I.rising c h
    · exact (I.par c hc).imp id fun h => some_put I.rising x h
  · by_cases hid : id = x.iD
    · subst hid
      rw [Ends, findC_put I.rising, if_pos rfl]
      refine key 15 _ i3 ((I.ends x.parent).short ?_)
      have := upF_len (L := L) (n := 16) (id := x.parent)
      omega
    · exact key 16 id hid (I.ends id)
theorem TreeInv.del {L : List Kls} (I : TreeInv L) {k0 : Int} (h : childC L k0 = []) : TreeInv (delC L k0) := by
  have hno : ∀ c ∈ L, c.parent ≠ k0 := fun c hc e => by
    have : c ∈ L.filter (fun y => y.parent == k0) := List.mem_filter.2 ⟨hc, by simp [e]⟩
    have h2 : (L.filter fun y => y.parent == k0) = [] := by simpa [childC] using h
    rw [h2] at this; simp at this
  refine ⟨delC_rising k0 I.rising, fun c hc => I.ids c (List.mem_filter.1 hc).1, fun c hc => ?_, fun id => ?_⟩
  · have hc2 := (List.mem_filter.1 hc).1
    exact (I.par c hc2).imp id fun hp => by rw [findC_del I.rising, if_neg (hno c hc2)]; exact hp
  · have key : ∀ n id, Ends L n id → Ends (delC L k0) n id := by
      intro n
      induction n with
      | zero => intro id h; rw [Ends] at h ⊢; rw [findC_del I.rising]; split <;> simp [h]
      | succ n ih =>
        intro id h
        rw [Ends] at h ⊢
        rw [findC_del I.rising]
        by_cases hid : id = k0
        · rw [if_pos hid]; trivial
        · rw [if_neg hid]
          cases hf : findC L id with
          | none => trivial
          | some c => rw [hf] at h; exact ih _ h
    exact key 16 id (I.ends id)
theorem TreeInv.set {L : List Kls} (I : TreeInv L) {x y : Kls} (h0 : rightV x = 0) (h1 : findC L x.iD = some y) (h2 : x.parent = y.parent) : TreeInv (putC L x) := by
  obtain ⟨i1, _, i3⟩ := right_id h0
  have key : ∀ n id, Ends L n id → Ends (putC L x) n id := by
    intro n
    induction n with
    | zero =>
      intro id h
      rw [Ends] at h ⊢
      rw [findC_put I.rising]
      by_cases hid : id = x.iD
      · subst hid; rw [h1] at h; cases h
      · rw [if_neg hid]; exact h
    | succ n ih =>
      intro id h
      rw [Ends] at h ⊢
      rw [findC_put I.rising]
      by_cases hid : id = x.iD
      · subst hid; rw [if_pos rfl]; rw [h1] at h; show Ends (putC L x) n x.parent; rw [h2]; exact ih _ h
      · rw [if_neg hid]
        cases hf : findC L id with
        | none => trivial
        | some c => rw [hf] at h; exact ih _ h
  refine ⟨putC_rising x I.rising, fun c hc => ?_, fun c hc => ?_, fun id => key 16 id (I.ends id)⟩
  · rcases mem_put I.rising x hc with rfl | hc
    · exact i1
    · exact I.ids c hc
  · rcases mem_put I.rising x hc with rfl | hc
    · rw [h2]
      exact (I.par y ((findC_iff I.rising).1 h1).1).imp id fun h => some_put I.rising c h
    · exact (I.par c hc).imp id fun h => some_put I.rising x h
end Go.Fg.X
namespace Go.Fg.X
open Go.Proofs Go.Fg
set_option maxRecDepth 100000
set_option maxHeartbeats 4000000
set_option linter.unusedSimpArgs false
set_option linter.unusedVariables false
@[go_sem] def kls (l : List Kls) : D := .imm 14 l.length (Kls.rows l)
theorem hnew_ok (h : List Ob) : MFn Tryz.prog 48 h [] (fun d h' => d = .ptr (h.length + 1) 0 0 0 ∧ h' = h ++ [mapOb .i64 0 [], ⟨.one, 0, 1, 1, fun _ => [.mref h.length 0]⟩]) := by
  refine MFn_hx cx_ok 200 Tryz.func48 rfl Tryz.ntmps48 Tryz.results48 rfl fun base w pl hb => ?_
  simp only [go_sem, simprocAttr, hgetA, hgetL, hgetLk, hsetA, hsetL, hsetLk, List.length_append, List.length_set, List.append_assoc, List.set_set]
def findI (L : List Kls) (k : Int) : Int := match L.findIdx? (fun c => c.iD == k) with
  | some i => i
  | none => -1
theorem findI_at {L : List Kls} {k : Int} {i : Nat} (hi : i < L.length) (h : ∀ j, j < i → (L.getD j default).iD ≠ k) (hg : (L.getD i default).iD = k) : findI L k = i := by
  have e : L.findIdx? (fun c => c.iD == k) = some i := by
    rw [List.findIdx?_eq_some_iff_getElem]
    refine ⟨hi, by simpa [List.getD_eq_getElem?_getD, hi] using hg, fun j hj => ?_⟩
    have := h j hj
    simpa [List.getD_eq_getElem?_getD, show j < L.length by omega] using this
  rw [findI, e]
theorem findI_none {L : List Kls} {k : Int} (h : ∀ j, j < L.length → (L.getD j default).iD ≠ k) : findI L k = -1 := by
  have e : L.findIdx? (fun c => c.iD == k) = none := by
    rw [List.findIdx?_eq_none_iff]
    intro x hx
    obtain ⟨i, hi, rfl⟩ := List.getElem_of_mem hx
    have := h i hi
    simpa [List.getD_eq_getElem?_getD, hi] using this
  rw [findI, e]
end Go.Fg.X
namespace Go.Fg.X
set_option linter.unusedSimpArgs false
set_option linter.unusedVariables false
open Go.Proofs Go.Fg
@[go_sem] def u64 (n : Nat) : D := .raw (.int .u64 n)
attribute [go_sem] Go.undef
theorem wu_add (a b : Nat) : IntKind.u64.wrap ((a : Int) + (b : Int)) = (((a + b) % 18446744073709551616 : Nat) : Int) := by rw [IntKind.wrap_u64]; omega
theorem wu_mul (a b : Nat) : IntKind.u64.wrap ((a : Int) * (b : Int)) = ((a * b % 18446744073709551616 : Nat) : Int) := by rw [IntKind.wrap_u64, ← Int.natCast_mul]; omega
theorem wu_sub (a b : Nat) (h : b ≤ 18446744073709551616) : IntKind.u64.wrap ((a : Int) - (b : Int)) = (((a + 18446744073709551616 - b) % 18446744073709551616 : Nat) : Int) := by rw [IntKind.wrap_u64]; omega
theorem wu_sub' (a b : Nat) (h : b ≤ a) (ha : a < 18446744073709551616) : IntKind.u64.wrap ((a : Int) - (b : Int)) = ((a - b : Nat) : Int) := by rw [IntKind.wrap_u64]; omega
theorem wu_add' (a b : Nat) (h : a + b < 18446744073709551616) : IntKind.u64.wrap ((a : Int) + (b : Int)) = ((a + b : Nat) : Int) := by rw [IntKind.wrap_u64]; omega
theorem wu_mul' (a b : Nat) (h : a * b < 18446744073709551616) : IntKind.u64.wrap ((a : Int) * (b : Int)) = ((a * b : Nat) : Int) := by rw [wu_mul, Nat.mod_eq_of_lt h]
theorem shr_u (a s : Nat) : ((a : Int).fdiv (2 ^ s)) = ((a / 2 ^ s : Nat) : Int) := by
  have h : ((2 : Int) ^ s) = ((2 ^ s : Nat) : Int) := by simp
  rw [h, Int.fdiv_eq_ediv_of_nonneg _ (Int.natCast_nonneg _), Int.natCast_ediv]
theorem mask32 (a : Nat) (ha : a < 18446744073709551616) : bits .and .u64 (a : Int) 4294967295 = ((a % 4294967296 : Nat) : Int) := by
  have := u64_and_nat a 4294967295 ha (by decide)
  rw [show ((4294967295 : Nat) : Int) = 4294967295 from rfl] at this
  rw [this, show (4294967295 : Nat) = 2 ^ 32 - 1 from rfl, Nat.and_two_pow_sub_one_eq_mod]
theorem or32 (x y : Nat) (hx : x < 4294967296) (hy : y < 4294967296) : bits .or .u64 ((x * 4294967296 : Nat) : Int) (y : Int) = ((x * 4294967296 + y : Nat) : Int) := by
  rw [u64_or_nat _ _ (by omega) (by omega), nat_join 32 _ _ (by rw [show (2 : Nat) ^ 32 = 4294967296 from rfl]; omega) (by simpa using hy)]
theorem top_lt (a : Nat) (ha : a < 18446744073709551616) : a / 9223372036854775808 = 0 ∨ a / 9223372036854775808 = 1 := by omega
theorem top_and (a b : Nat) (ha : a < 18446744073709551616) (hb : b < 18446744073709551616) : (a &&& b) / 9223372036854775808 = (a / 9223372036854775808) &&& (b / 9223372036854775808) := by
  rw [show (9223372036854775808 : Nat) = 2 ^ 63 from rfl, ← Nat.shiftRight_eq_div_pow, Nat.shiftRight_and_distrib, Nat.shiftRight_eq_div_pow, Nat.shiftRight_eq_div_pow]
theorem top_or (a b : Nat) (ha : a < 18446744073709551616) (hb : b < 18446744073709551616) : (a ||| b) / 9223372036854775808 = (a / 9223372036854775808) ||| (b / 9223372036854775808) := by
  rw [show (9223372036854775808 : Nat) = 2 ^ 63 from rfl, ← Nat.shiftRight_eq_div_pow, Nat.shiftRight_or_distrib, Nat.shiftRight_eq_div_pow, Nat.shiftRight_eq_div_pow]
theorem top_xor (a b : Nat) (ha : a < 18446744073709551616) (hb : b < 18446744073709551616) : (a ^^^ b) / 9223372036854775808 = (a / 9223372036854775808) ^^^ (b / 9223372036854775808) := by
  rw [show (9223372036854775808 : Nat) = 2 ^ 63 from rfl, ← Nat.shiftRight_eq_div_pow, Nat.shiftRight_xor_distrib, Nat.shiftRight_eq_div_pow, Nat.shiftRight_eq_div_pow]
/-- The borrow of a difference of two words and a bit. -/
theorem borrow_eq (a b c x y z u v : Nat) (ha : a < 18446744073709551616) (hb : b < 18446744073709551616) (hc : c < 2) (hl : u = (a + 18446744073709551616 - b + 18446744073709551616 - c) % 18446744073709551616)
    (hx : x = a / 9223372036854775808) (hy : y = b / 9223372036854775808) (hz : z = u / 9223372036854775808) (hv : v = (1 ^^^ x) &&& y ||| ((1 ^^^ (x ^^^ y)) &&& z)) : v = if a < b + c then 1 else 0 := by
  have h1 := top_lt a ha
  have h2 := top_lt b hb
  have h3 := top_lt u (by omega)
  rw [← hx] at h1; rw [← hy] at h2; rw [← hz] at h3
  rcases h1 with h1 | h1 <;> rcases h2 with h2 | h2 <;> rcases h3 with h3 | h3 <;> (rw [h1, h2, h3] at hv; simp at hv; subst hv; split <;> omega)
theorem carry_eq (a b c x y z u v : Nat) (ha : a < 18446744073709551616) (hb : b < 18446744073709551616) (hc : c < 2) (hl : u = (a + b + c) % 18446744073709551616)
    (hx : x = a / 9223372036854775808) (hy : y = b / 9223372036854775808) (hz : z = u / 9223372036854775808) (hv : v = x &&& y ||| ((x ||| y) &&& (1 - z))) : v = if 18446744073709551616 ≤ a + b + c then 1 else 0 := by
  have h1 := top_lt a ha
  have h2 := top_lt b hb
  have h3 := top_lt u (by omega)
  rw [← hx] at h1; rw [← hy] at h2; rw [← hz] at h3
  rcases h1 with h1 | h1 <;> rcases h2 with h2 | h2 <;> rcases h3 with h3 | h3 <;> (rw [h1, h2, h3] at hv; simp at hv; subst hv; split <;> omega)
end Go.Fg.X
