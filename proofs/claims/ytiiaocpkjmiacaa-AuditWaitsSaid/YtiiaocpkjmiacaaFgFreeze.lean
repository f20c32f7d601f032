/- An object of the call's own that is changed no more is told as a closed value. No conditions: laws. -/
import Derived.Test.YtiiaocpkjmiacaaFgWalk
namespace Go.Fg
set_option linter.unusedSimpArgs false
set_option linter.unusedVariables false
open Go.RowKit (Below)
/-- Rows from one on. -/
def rowFrom (off : Nat) (row : Nat → List D) : Nat → List D := fun i => row (off + i)
theorem rowFrom_zero (row : Nat → List D) : rowFrom 0 row = row := by funext i; simp [rowFrom]
theorem rowFrom_at (off : Nat) (row : Nat → List D) (i : Nat) : rowFrom off row i = row (off + i) := rfl
mutual
/-- A value, with the object l (generation g0, n rows of sz cells) told as what it holds. -/
def D.fz (l g0 n sz : Nat) (row : Nat → List D) : D → D
  | .ref l' g off len => bif Nat.beq l' l then (bif Nat.beq g g0 && Nat.ble (off + len) n then .imm sz len (rowFrom off row) else .undef) else .ref l' g off len
  | .ptr l' g i j => bif Nat.beq l' l then (bif Nat.beq g g0 && Nat.blt i n && Nat.ble j sz then .ip ((row i).drop j) else .undef) else .ptr l' g i j
  | .mref l' g => bif Nat.beq l' l then .undef else .mref l' g
  | .clo f nf cs => .clo f nf (fzL l g0 n sz row cs)
  | .agg cs => .agg (fzL l g0 n sz row cs)
  | .tup cs => .tup (fzL l g0 n sz row cs)
  | d => d
def fzL (l g0 n sz : Nat) (row : Nat → List D) : List D → List D
  | [] => []
  | c :: cs => c.fz l g0 n sz row :: fzL l g0 n sz row cs
end
theorem fzL_length (l g0 n sz : Nat) (row : Nat → List D) : ∀ cs : List D, (fzL l g0 n sz row cs).length = cs.length
  | [] => rfl
  | _ :: cs => by simp [fzL, fzL_length l g0 n sz row cs]
theorem nth_fzL (l g0 n sz : Nat) (row : Nat → List D) : ∀ (cs : List D) (i : Nat), i < cs.length → nth (fzL l g0 n sz row cs) i = (nth cs i).fz l g0 n sz row
  | [], i, h => by simp at h
  | c :: cs, 0, _ => by simp [fzL, nth]
  | c :: cs, i + 1, h => by
    have := nth_fzL l g0 n sz row cs i (by simpa using h)
    simpa [fzL, nth] using this
theorem fzL_cond (l g0 n sz : Nat) (row : Nat → List D) (c : Bool) (a b : List D) : fzL l g0 n sz row (bif c then a else b) = bif c then fzL l g0 n sz row a else fzL l g0 n sz row b := by cases c <;> rfl
def fzFr (l g0 n sz : Nat) (row : Nat → List D) : List (Nat × D) → List (Nat × D)
  | [] => []
  | (t, d) :: r => (t, d.fz l g0 n sz row) :: fzFr l g0 n sz row r
theorem get_fzFr (l g0 n sz : Nat) (row : Nat → List D) : ∀ (fr : List (Nat × D)) (t : Nat), get (fzFr l g0 n sz row fr) t = (get fr t).fz l g0 n sz row
  | [], t => rfl
  | (u, d) :: r, t => by
    simp only [fzFr, get]
    cases Nat.beq u t
    · exact get_fzFr l g0 n sz row r t
    · rfl
def Ob.fz (l g0 n sz : Nat) (row : Nat → List D) (o : Ob) : Ob := ⟨o.kd, o.gen, o.sz, o.n, fun i => fzL l g0 n sz row (o.row i)⟩
def fzObs (l g0 n sz : Nat) (row : Nat → List D) : List Ob → List Ob
  | [] => []
  | o :: r => o.fz l g0 n sz row :: fzObs l g0 n sz row r
theorem fzObs_map (l g0 n sz : Nat) (row : Nat → List D) : ∀ h : List Ob, fzObs l g0 n sz row h = h.map (Ob.fz l g0 n sz row)
  | [] => rfl
  | o :: r => by simp [fzObs, fzObs_map l g0 n sz row r]
/-- What is left of an object that is told as a value. -/
def Ob.gone (o : Ob) : Ob := ⟨.arr, o.gen + 1, o.sz, 0, fun _ => []⟩

section
variable {Z : Nat → Prop}
theorem fz_cl {N : Nat → Prop} {w : World} (l g0 n sz : Nat) (row : Nat → List D) {d : D} {v : Value} (c : Cl N w d v) : Cl N w (d.fz l g0 n sz row) v := by
  induction c with
  | raw v => exact .raw v
  | undef v => exact .undef v
  | nil a => exact .nil a
  | imm s m r a cap b o vs ha hl hs hc hr ih => exact .imm s m r a cap b o vs ha hl hs hc hr
  | ip cells b o vs hc hr ih => exact .ip cells b o vs hc hr
  | clo f nf cs vs hl hr ih => exact .clo f nf _ vs (by rw [fzL_length]; exact hl) (fun i hi => by rw [fzL_length] at hi; rw [nth_fzL _ _ _ _ _ _ _ hi]; exact ih i hi)
  | agg cs vs hl hr ih => exact .agg _ vs (by rw [fzL_length]; exact hl) (fun i hi => by rw [fzL_length] at hi; rw [nth_fzL _ _ _ _ _ _ _ hi]; exact ih i hi)
  | tup cs vs hl hr ih => exact .tup _ vs (by rw [fzL_length]; exact hl) (fun i hi => by rw [fzL_length] at hi; rw [nth_fzL _ _ _ _ _ _ _ hi]; exact ih i hi)

/-- The object l, all of whose cells are closed, in a block of Z, is told as a value. -/
theorem RelV.fz {h : List Ob} {pl : List Pl} {w : World} {l : Nat} {o : Ob} {p : Pl} (ho : h[l]? = some o) (hp : pl[l]? = some p) (hk : o.kd.ty = 0) (hb : ∀ b q, p = some (b, q) → Z b ∧ (∀ l' q', pl[l']? = some (some (b, q')) → l' = l) ∧ CellsAt Z h pl w o b q)
    (hcl : ∀ i, i < o.n → (o.row i).all D.cl1 = true) {h' : List Ob} (hh : ∀ (l' : Nat) (o' : Ob), l' ≠ l → h[l']? = some o' → ∃ u, h'[l']? = some u ∧ u.gen = o'.gen ∧ u.sz = o'.sz ∧ u.kd.ty = o'.kd.ty) {d : D} {v : Value} (r : RelV Z h pl w d v) :
    RelV Z h' (pl.set l none) w (d.fz l o.gen o.n o.sz o.row) v := by
  have hpl : ∀ (l' : Nat), l' ≠ l → (pl.set l none)[l']? = pl[l']? := fun l' hl' => by rw [List.getElem?_set_ne (Ne.symm hl')]
  have haw : ∀ b, away pl b → away (pl.set l none) b := fun b hb l' q e => by
    by_cases e1 : l' = l
    · subst e1; rw [List.getElem?_set_self (ltp_of_some hp)] at e; cases e
    · rw [hpl l' e1] at e; exact hb l' q e
  have hfr : ∀ b, free Z pl b → free Z (pl.set l none) b := fun b hb => ⟨hb.1, haw b hb.2⟩
  have hown : ∀ b q, p = some (b, q) → free Z (pl.set l none) b := fun b q e => ⟨(hb b q e).1, fun l' q' e' => by
    by_cases e1 : l' = l
    · subst e1; rw [List.getElem?_set_self (ltp_of_some hp)] at e'; cases e'
    · rw [hpl l' e1] at e'; exact e1 ((hb b q e).2.1 l' q' e')⟩
  have hcell : ∀ b q, p = some (b, q) → ∃ c el, w.heap[b]? = some (.cells c el (0, 0)) ∧ (∀ i, i < o.n → (o.row i).length = o.sz) ∧ ∃ vs : Nat → Nat → Value, ∀ i j, i < o.n → j < o.sz → w.cell? ⟨b, q + (i * o.sz + j), none⟩ = some (vs i j) ∧ Cl (free Z (pl.set l none)) w (nth (o.row i) j) (vs i j) := fun b q e => by
    obtain ⟨c, el, h1, _, h3, h4⟩ := (hb b q e).2.2
    refine ⟨c, el, h1, h3, fun i j => (c[q + (i * o.sz + j)]?).getD Go.undef, fun i j hi hj => ?_⟩
    obtain ⟨u, hu, hr⟩ := h4 i j hi hj
    refine ⟨by rw [cell_of_row w b _ c el (0, 0) h1, hu]; simp [hu], ?_⟩
    simp only [hu, Option.getD_some]
    have h5 := hcl i hi
    rw [List.all_eq_true] at h5
    have h6 : j < (o.row i).length := by rw [h3 i hi]; exact hj
    have h7 : (nth (o.row i) j).cl1 = true := h5 _ (by simp only [nth, List.getD_eq_getElem?_getD, List.getElem?_eq_getElem h6, Option.getD_some]; exact List.getElem_mem h6)
    exact (cl1_ok hr h7).mono fun x hx _ => ⟨hfr x hx, rfl⟩
  induction r with
  | cl d v hc => exact .cl _ _ (fz_cl l o.gen o.n o.sz o.row (hc.mono fun b hb _ => ⟨hfr b hb, rfl⟩))
  | ref l' g off len o' p' a cap ho' hp' hk' hg hs =>
    by_cases e : l' = l
    · subst e
      rw [ho] at ho'; cases ho'
      rw [hp] at hp'; cases hp'
      simp only [D.fz, Nat.beq_refl, cond_true]
      cases hc : (Nat.beq g o.gen && Nat.ble (off + len) o.n)
      · exact .cl _ _ (.undef _)
      · simp only [cond_true, Bool.and_eq_true, Nat.beq_eq, Nat.ble_eq] at hc ⊢
        rcases hs hc.1 with ⟨h1, h2⟩ | ⟨b, q, c, el, hpp, ha, hbk, hcs, hlc⟩
        · subst h1; subst h2
          exact .cl _ _ (.imm _ _ _ _ _ 0 0 (fun _ _ => Go.undef) (fun h => by omega) (by omega) (fun i hi => by omega) (fun i j hi => by omega) (fun i j hi => by omega))
        · obtain ⟨c', el', k1, k2, vs, k3⟩ := hcell b q hpp
          refine .cl _ _ (.imm _ _ _ _ _ b (q + off * o.sz) (fun i j => vs (off + i) j) (fun _ => ha) hlc (fun i hi => k2 _ (by omega)) (fun i j hi hj => ⟨hown b q hpp, ?_⟩) (fun i j hi hj => (k3 (off + i) j (by omega) hj).2))
          rw [← (k3 (off + i) j (by omega) hj).1, Nat.add_mul, show q + off * o.sz + (i * o.sz + j) = q + (off * o.sz + i * o.sz + j) by omega]
    · have hne : Nat.beq l' l = false := by rw [← Bool.not_eq_true, Nat.beq_eq]; exact e
      simp only [D.fz, hne, cond_false]
      obtain ⟨u, u1, u2, u3, u4⟩ := hh l' o' e ho'
      exact .ref l' g off len u p' a cap u1 (by rw [hpl l' e]; exact hp') (by rw [u4]; exact hk') (by rw [u2]; exact hg) (by rw [u2, u3]; exact hs)
  | ptr l' g i j o' p' a ho' hp' hk' hg hs =>
    by_cases e : l' = l
    · subst e
      rw [ho] at ho'; cases ho'
      rw [hp] at hp'; cases hp'
      simp only [D.fz, Nat.beq_refl, cond_true]
      cases hc : (Nat.beq g o.gen && Nat.blt i o.n && Nat.ble j o.sz)
      · exact .cl _ _ (.undef _)
      · simp only [cond_true, Bool.and_eq_true, Nat.beq_eq, Nat.ble_eq, Nat.blt_eq] at hc ⊢
        obtain ⟨b, q, hpp, ha⟩ := hs hc.1.1
        obtain ⟨c', el', k1, k2, vs, k3⟩ := hcell b q hpp
        subst ha
        have hlen : ((o.row i).drop j).length = o.sz - j := by rw [List.length_drop, k2 i hc.1.2]
        refine .cl _ _ (.ip _ b _ (fun k => vs i (j + k)) (fun k hk => ⟨hown b q hpp, ?_⟩) (fun k hk => ?_))
        · rw [← (k3 i (j + k) hc.1.2 (by omega)).1]; congr 1; simp
        · rw [nth_drop]; exact (k3 i (j + k) hc.1.2 (by omega)).2
    · have hne : Nat.beq l' l = false := by rw [← Bool.not_eq_true, Nat.beq_eq]; exact e
      simp only [D.fz, hne, cond_false]
      obtain ⟨u, u1, u2, u3, u4⟩ := hh l' o' e ho'
      exact .ptr l' g i j u p' a u1 (by rw [hpl l' e]; exact hp') (by rw [u4]; exact hk') (by rw [u2]; exact hg) (by rw [u2, u3]; exact hs)
  | mref l' g o' p' b ho' hp' hk' hg hs =>
    by_cases e : l' = l
    · subst e
      rw [ho] at ho'; cases ho'
      exact absurd hk hk'.1
    · have hne : Nat.beq l' l = false := by rw [← Bool.not_eq_true, Nat.beq_eq]; exact e
      simp only [D.fz, hne, cond_false]
      obtain ⟨u, u1, u2, u3, u4⟩ := hh l' o' e ho'
      exact .mref l' g u p' b u1 (by rw [hpl l' e]; exact hp') (by rw [u4]; exact hk') (by rw [u2]; exact hg) (by rw [u2]; exact hs)
  | clo f nf cs vs hl hr ih => exact .clo f nf _ vs (by rw [fzL_length]; exact hl) (fun i hi => by rw [fzL_length] at hi; rw [nth_fzL _ _ _ _ _ _ _ hi]; exact ih i hi)
  | agg cs vs hl hr ih => exact .agg _ vs (by rw [fzL_length]; exact hl) (fun i hi => by rw [fzL_length] at hi; rw [nth_fzL _ _ _ _ _ _ _ hi]; exact ih i hi)
  | tup cs vs hl hr ih => exact .tup _ vs (by rw [fzL_length]; exact hl) (fun i hi => by rw [fzL_length] at hi; rw [nth_fzL _ _ _ _ _ _ _ hi]; exact ih i hi)
end

/-- The rule, where nothing was lent: object l is told as a value. -/
theorem Weak.freeze {w0 : Start} (hF : w0.pl = []) (l : Nat) {fr : List (Nat × D)} {h : List Ob} {o : Ob} (ho : h[l]? = some o) (hk : o.kd.ty = 0) (hcl : ∀ i, i < o.n → (o.row i).all D.cl1 = true) :
    Weak w0 ⟨fr, h⟩ ⟨fzFr l o.gen o.n o.sz o.row fr, (fzObs l o.gen o.n o.sz o.row h).set l o.gone⟩ := by
  intro Z z base nt pl a w r b
  have hlen : pl.length = h.length := r.o.len
  have hlp : l < pl.length := by have h1 := lt_of_some ho; omega
  have hp : pl[l]? = some pl[l] := List.getElem?_eq_getElem hlp
  generalize hpe : pl[l] = p at hp
  have haway0 : ∀ bb, away w0.pl bb := fun bb i q e => by rw [hF] at e; simp at e
  have hfresh : ∀ l' bb q : Nat, pl[l']? = some (some (bb, q)) → w0.w.heap.size ≤ bb := fun l' bb q e => by
    rcases Nat.lt_or_ge bb w0.w.heap.size with hlt | hge
    · exact absurd e ((b.2.1.old bb (haway0 bb) hlt).1 l' q)
    · exact hge
  have hat : ∀ bb q, p = some (bb, q) → Z bb ∧ (∀ l' q', pl[l']? = some (some (bb, q')) → l' = l) ∧ CellsAt Z h pl w o bb q := fun bb q e => by
    subst e
    exact ⟨b.2.2.own l bb q hp (hfresh l bb q hp), fun l' q' e' => r.o.inj _ _ _ _ _ e' hp, (r.o.at_ l o bb q ho hp).2.cells hk⟩
  have hh : ∀ (l' : Nat) (o' : Ob), l' ≠ l → h[l']? = some o' → ∃ u, ((fzObs l o.gen o.n o.sz o.row h).set l o.gone)[l']? = some u ∧ u.gen = o'.gen ∧ u.sz = o'.sz ∧ u.kd.ty = o'.kd.ty := fun l' o' hne e =>
    ⟨o'.fz l o.gen o.n o.sz o.row, by rw [List.getElem?_set_ne (Ne.symm hne), fzObs_map, List.getElem?_map, e]; rfl, rfl, rfl, rfl⟩
  have hpl : ∀ (l' : Nat), l' ≠ l → (pl.set l none)[l']? = pl[l']? := fun l' hl' => by rw [List.getElem?_set_ne (Ne.symm hl')]
  have hself : (pl.set l none)[l]? = some none := List.getElem?_set_self hlp
  have hsub : ∀ l' bb q : Nat, (pl.set l none)[l']? = some (some (bb, q)) → l' ≠ l ∧ pl[l']? = some (some (bb, q)) := fun l' bb q e => by
    by_cases e1 : l' = l
    · subst e1; rw [hself] at e; cases e
    · exact ⟨e1, by rw [← hpl l' e1]; exact e⟩
  refine ⟨pl.set l none, ⟨r.nt, r.defers, fun t => ?_, ⟨?_, fun l1 l2 bb q q' e1 e2 => ?_, fun l1 o1 h1 e1 => ?_, fun l1 o1 bb q h1 e1 => ?_⟩⟩, b.1, ⟨fun bb hb hlt => ?_, fun l1 o1 p1 h1 e1 => ?_, fun l1 o1 o2 bb q h1 h2 hg e1 => ?_⟩, b.2.2.new, fun l1 bb q e h0 => b.2.2.own l1 bb q (hsub _ _ _ e).2 h0⟩
  · show RelV Z _ _ w (get (fzFr l o.gen o.n o.sz o.row fr) t) _
    rw [get_fzFr]
    exact (r.fr t).fz ho hp hk hat hcl hh
  · simp [fzObs_map, hlen]
  · exact r.o.inj l1 l2 bb q q' (hsub _ _ _ e1).2 (hsub _ _ _ e2).2
  · by_cases e2 : l1 = l
    · subst e2
      rw [List.getElem?_set_self (by rw [fzObs_map]; simp; omega)] at h1
      cases h1; rfl
    · rw [List.getElem?_set_ne (Ne.symm e2), fzObs_map, List.getElem?_map] at h1
      rw [hpl l1 e2] at e1
      obtain ⟨u, hu, rfl⟩ := Option.map_eq_some_iff.1 h1
      exact r.o.noRow l1 u hu e1
  · obtain ⟨hne, e2⟩ := hsub _ _ _ e1
    rw [List.getElem?_set_ne (Ne.symm hne), fzObs_map, List.getElem?_map] at h1
    obtain ⟨u, hu, rfl⟩ := Option.map_eq_some_iff.1 h1
    obtain ⟨g1, x⟩ := r.o.at_ l1 u bb q hu e2
    refine ⟨g1, x.to rfl rfl rfl rfl (fun i _ => fzL_length _ _ _ _ _ _) fun i j v hi hj hr => ?_⟩
    show RelV Z _ _ w (nth (fzL _ _ _ _ _ (u.row i)) j) v
    rw [nth_fzL _ _ _ _ _ _ _ hj]
    exact hr.fz ho hp hk hat hcl hh
  · obtain ⟨k1, k2⟩ := b.2.1.old bb hb hlt
    exact ⟨fun l' q e => k1 l' q (hsub _ _ _ e).2, k2⟩
  · rw [hF] at e1; simp at e1
  · rw [hF] at e1; simp at e1
attribute [go_sem] rowFrom_zero rowFrom_at D.fz fzL fzL_cond fzFr Ob.fz fzObs Ob.gone
end Go.Fg
