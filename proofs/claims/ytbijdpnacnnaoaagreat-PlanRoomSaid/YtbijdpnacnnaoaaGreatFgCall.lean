/- Walks of the functions that the statement reaches. No conditions: contracts and laws. -/
import Derived.Test.YtbijdpnacnnaoaaGreatFgQuiet
import Derived.Maps.RangeRun
import Derived.Scope
namespace Go.Fg
set_option linter.unusedSimpArgs false
set_option linter.unusedVariables false
open Go.RowKit (Below)
open Go.Instr
/-- Entries whose keys are integers of a kind. -/
def IntKeys (q : IntKind) (es : List MapEntry) : Prop := ∀ e ∈ es, ∃ n, e.key = .int q n
theorem findNow_miss {q : IntKind} {k : Int} : ∀ {es : List MapEntry} {i : Nat}, IntKeys q es → (∀ e ∈ es, e.key ≠ .int q k) → findNow (.int q) (.int q k) es i = some none
  | [], _, _, _ => rfl
  | e :: es, i, h, hn => by
    obtain ⟨n, hk⟩ := h e (List.mem_cons_self ..)
    have hne : (k == n) = false := by
      rw [beq_eq_false_iff_ne]
      rintro rfl
      exact hn e (List.mem_cons_self ..) hk
    simp only [findNow, hk, sameNow, if_true, hne]
    exact findNow_miss (fun e he => h e (List.mem_cons_of_mem _ he)) (fun e he => hn e (List.mem_cons_of_mem _ he))
theorem findNow_hit {q : IntKind} {k : Int} : ∀ {es : List MapEntry} {i0 i : Nat} {e : MapEntry}, IntKeys q es → es[i]? = some e → e.key = .int q k → (∀ (j : Nat) (e' : MapEntry), j < i → es[j]? = some e' → e'.key ≠ .int q k) →
    findNow (.int q) (.int q k) es i0 = some (some (i0 + i, e.val))
  | [], _, _, _, _, h, _, _ => by simp at h
  | x :: es, i0, i, e, hI, h, hk, hn => by
    obtain ⟨n, hx⟩ := hI x (List.mem_cons_self ..)
    cases i with
    | zero =>
      simp at h; subst h
      rw [hx] at hk
      obtain rfl : n = k := by simpa using hk
      simp [findNow, hx, sameNow]
    | succ i =>
      have hne : (k == n) = false := by
        rw [beq_eq_false_iff_ne]
        rintro rfl
        exact hn 0 x (by omega) rfl hx
      simp only [findNow, hx, sameNow, if_true, hne]
      rw [findNow_hit (i0 := i0 + 1) (fun e he => hI e (List.mem_cons_of_mem _ he)) (by simpa using h) hk (fun j e' hj he => hn (j + 1) e' (by omega) (by simpa using he))]
      simp; omega
section
variable {P : Program} {w : World} {q : IntKind} {k : Int}
theorem checkKey_int {kt : TypeId} (hk : P.underlying kt = some (.int q)) (em : Bool) (n : Nat) : (checkKey em (n + 1) kt (.int q k)).run P w = .ok () w := by
  simp [checkKey, underlying, hk]
theorem findKey_run {kt : TypeId} (hk : P.underlying kt = some (.int q)) {es : List MapEntry} {r : Option (Nat × Value)} (h : findNow (.int q) (.int q k) es 0 = some r) : (findKey kt (.int q k) es).run P w = .ok r w := by
  simp [findKey, underlying, hk, h]
theorem getObj_run {α : Type} {b : Nat} {es : Array MapEntry} {clock : Nat} (hb : w.heap[b]? = some (.map es clock)) (c : Obj → Sem α) : (Sem.getObj b c).run P w = (c (.map es clock)).run P w := by
  simp only [Sem.run, hb]
theorem setObj_run {α : Type} {b : Nat} {es : Array MapEntry} {clock : Nat} (hb : w.heap[b]? = some (.map es clock)) (o : Obj) (c : Sem α) : (Sem.setObj b o c).run P w = c.run P { w with heap := w.heap.setIfInBounds b o } := by
  simp only [Sem.run, hb]
theorem update_hit_run {xt kt et : TypeId} {b : Nat} {es : Array MapEntry} {clock : Nat} (hx : P.underlying xt = some (.map kt et)) (hk : P.underlying kt = some (.int q)) (hb : w.heap[b]? = some (.map es clock)) (hI : IntKeys q es.toList)
    {i : Nat} {e : MapEntry} (hi : es[i]? = some e) (he : e.key = .int q k) (hn : ∀ (j : Nat) (e' : MapEntry), j < i → es[j]? = some e' → e'.key ≠ .int q k) (v : Value) :
    (mapUpdate xt (.map (some b)) (.int q k) v).run P w = .ok () { w with heap := w.heap.setIfInBounds b (.map (es.modify i fun e => { e with key := .int q k, val := v }) clock) } := by
  have h := findNow_hit (i0 := 0) hI (by simpa using hi) he (fun j e' hj hj' => hn j e' hj (by simpa using hj'))
  have h2 := findKey_run (P := P) (w := w) hk h
  have h3 := checkKey_int (P := P) (w := w) (k := k) hk false 9999
  simp [mapUpdate, underlying, hx, getObj, getObj_run hb, h2, h3, hi, he, keyThatStays, sameBits, setObj, setObj_run hb]
theorem update_miss_run {xt kt et : TypeId} {b : Nat} {es : Array MapEntry} {clock : Nat} (hx : P.underlying xt = some (.map kt et)) (hk : P.underlying kt = some (.int q)) (hb : w.heap[b]? = some (.map es clock)) (hI : IntKeys q es.toList)
    (hn : ∀ e ∈ es.toList, e.key ≠ .int q k) (v : Value) :
    (mapUpdate xt (.map (some b)) (.int q k) v).run P w = .ok () { w with heap := w.heap.setIfInBounds b (.map (es.push { key := .int q k, val := v, born := clock }) (clock + 1)) } := by
  have h2 := findKey_run (P := P) (w := w) hk (findNow_miss (i := 0) hI hn)
  have h3 := checkKey_int (P := P) (w := w) (k := k) hk false 9999
  simp [mapUpdate, underlying, hx, getObj, getObj_run hb, h2, h3, setObj, setObj_run hb]
theorem delete_hit_run {xt kt et ty kt2 : TypeId} {b : Nat} {es : Array MapEntry} {clock : Nat} (hx : P.underlying xt = some (.map kt et)) (hk : P.underlying kt = some (.int q)) (hb : w.heap[b]? = some (.map es clock)) (hI : IntKeys q es.toList)
    {i : Nat} {e : MapEntry} (hi : es[i]? = some e) (he : e.key = .int q k) (hn : ∀ (j : Nat) (e' : MapEntry), j < i → es[j]? = some e' → e'.key ≠ .int q k) :
    (Builtin.delete_ #[xt, kt2] ty #[.map (some b), .int q k]).run P w = .ok (.tuple #[]) { w with heap := w.heap.setIfInBounds b (.map (es.eraseIdxIfInBounds i) clock) } := by
  have h := findNow_hit (i0 := 0) hI (by simpa using hi) he (fun j e' hj hj' => hn j e' hj (by simpa using hj'))
  have h2 := findKey_run (P := P) (w := w) hk h
  have h3 := checkKey_int (P := P) (w := w) (k := k) hk es.isEmpty 9999
  simp [Builtin.delete_, underlying, hx, getObj, getObj_run hb, h2, h3, setObj, setObj_run hb]
theorem delete_miss_run {xt kt et ty kt2 : TypeId} {b : Nat} {es : Array MapEntry} {clock : Nat} (hx : P.underlying xt = some (.map kt et)) (hk : P.underlying kt = some (.int q)) (hb : w.heap[b]? = some (.map es clock)) (hI : IntKeys q es.toList)
    (hn : ∀ e ∈ es.toList, e.key ≠ .int q k) :
    (Builtin.delete_ #[xt, kt2] ty #[.map (some b), .int q k]).run P w = .ok (.tuple #[]) { w with heap := w.heap.setIfInBounds b (.map es clock) } := by
  have h2 := findKey_run (P := P) (w := w) hk (findNow_miss (i := 0) hI hn)
  have h3 := checkKey_int (P := P) (w := w) (k := k) hk es.isEmpty 9999
  simp [Builtin.delete_, underlying, hx, getObj, getObj_run hb, h2, h3, setObj, setObj_run hb]
theorem range_run {xt kt et : TypeId} {b : Nat} {es : Array MapEntry} {clock : Nat} (hx : P.underlying xt = some (.map kt et)) (hb : w.heap[b]? = some (.map es clock)) :
    (Instr.range xt (.map (some b))).run P w = .ok (.pointer (some ⟨w.heap.size, 0, none⟩)) { w with heap := w.heap.push (.mapIter (some b) clock #[] clock) } := by
  simp [Instr.range, underlying, hx, getObj, getObj_run hb, newObj, Sem.run]
end
theorem Tr.turn {Z : Nat → Prop} {base : Nat} {h : List Ob} {pl : List Pl} {w w' : World} (R : RelO Z base h pl w) {l : Nat} {o o' : Ob} {b : Nat} (ho : h[l]? = some o) (hp : pl[l]? = some (some (b, 0))) (e : ∀ c, c ≠ b → w'.heap[c]? = w.heap[c]?)
    (hg : o'.gen = o.gen) (hk : o'.kd.ty = o.kd.ty) (hz : o'.sz = o.sz) (hnc : ∀ c el, w.heap[b]? ≠ some (.cells c el (0, 0))) : Tr h pl w (h.set l o') pl w' where
  old := fun c hc _ => ⟨hc, e c (fun h => by subst h; exact hc l 0 hp)⟩
  obj := fun l1 o1 p h1 h2 => by
    by_cases hl : l = l1
    · subst hl
      rw [ho] at h1; cases h1
      exact ⟨o', p, List.getElem?_set_self (lt_of_some ho), h2, by omega, hk, fun _ => ⟨hz, rfl⟩⟩
    · exact ⟨o1, p, by rw [List.getElem?_set_ne hl]; exact h1, h2, Nat.le_refl _, rfl, fun _ => ⟨rfl, rfl⟩⟩
  shape := fun l1 o1 o2 c q h1 h2 _ h3 cs el hc => by
    by_cases hb : c = b
    · subst hb; exact absurd hc (hnc cs el)
    · exact ⟨cs, by rw [e c hb]; exact hc, rfl⟩
theorem RelO.turn {Z : Nat → Prop} {base : Nat} {h : List Ob} {pl : List Pl} {w w' : World} (R : RelO Z base h pl w) {l : Nat} {o o' : Ob} {b : Nat} (ho : h[l]? = some o) (hp : pl[l]? = some (some (b, 0))) (e : ∀ c, c ≠ b → w'.heap[c]? = w.heap[c]?)
    (T : Tr h pl w (h.set l o') pl w') (hx : ObAt Z (h.set l o') pl w' o' b 0) (hro : o'.kd.ro = o.kd.ro) : RelO Z base (h.set l o') pl w' where
  len := by rw [List.length_set]; exact R.len
  inj := R.inj
  noRow := fun l1 o1 h1 h2 => by
    by_cases hl : l = l1
    · subst hl; rw [hp] at h2; cases h2
    · rw [List.getElem?_set_ne hl] at h1; exact R.noRow l1 o1 h1 h2
  at_ := fun l1 o1 c q h1 h2 => by
    by_cases hl : l = l1
    · subst hl
      rw [List.getElem?_set_self (lt_of_some ho)] at h1; cases h1
      rw [hp] at h2; cases h2
      exact ⟨fun hr => (R.at_ l o b 0 ho hp).1 (by rw [← hro, hr]), hx⟩
    · rw [List.getElem?_set_ne hl] at h1
      obtain ⟨g1, x⟩ := R.at_ l1 o1 c q h1 h2
      have hc : c ≠ b := fun h => by subst h; exact hl (R.inj l l1 c 0 q hp h2)
      exact ⟨g1, x.to rfl rfl rfl (e c hc) (fun _ _ => rfl) fun i j v _ _ hr => hr.tr T⟩
/-! Maps ens lists of entries. -/
structure Ent where
  k : Int
  v : D
  b : Nat
def mrow (q : IntKind) (c : Nat) (es : List Ent) : Nat → List D
  | 0 => [.raw (.int .i64 c), .undef, .undef]
  | r + 1 => match es[r]? with
    | some e => [.raw (.int q e.k), e.v, .raw (.int .i64 e.b)]
    | none => [.undef, .undef, .undef]
/-- A map of these entries, with this clock. -/
def mapObK (kd : Kd) (q : IntKind) (c : Nat) (es : List Ent) : Ob := ⟨kd, 0, 3, es.length + 1, mrow q c es⟩
def mapOb (q : IntKind) (c : Nat) (es : List Ent) : Ob := mapObK .map q c es
def alook : List Ent → Int → Option D
  | [], _ => none
  | e :: r, k => if e.k = k then some e.v else alook r k
def aput : List Ent → Int → D → List Ent
  | [], _, _ => []
  | e :: r, k, v => if e.k = k then ⟨k, v, e.b⟩ :: r else e :: aput r k v
def adel : List Ent → Int → List Ent
  | [], _ => []
  | e :: r, k => if e.k = k then r else e :: adel r k
/-- What becomes of a map when a key is set. -/
def mset (q : IntKind) (c : Nat) (es : List Ent) (k : Int) (v : D) : Ob := match alook es k with
  | some _ => mapOb q c (aput es k v)
  | none => mapOb q (c + 1) (es ++ [⟨k, v, c⟩])
def rawI : D → Int
  | .raw (.int _ n) => n
  | _ => 0
def clockOf (o : Ob) : Nat := (rawI (nth (o.row 0) 0)).toNat
def entsOf (o : Ob) : List Ent := (List.range (o.n - 1)).map fun i => ⟨rawI (nth (o.row (i + 1)) 0), nth (o.row (i + 1)) 1, (rawI (nth (o.row (i + 1)) 2)).toNat⟩
def Ob.ro (o : Ob) : Ob := ⟨o.kd.toRo, o.gen, o.sz, o.n, o.row⟩
def IsMap (q : IntKind) (o : Ob) : Prop := o.kd.ty = 1 ∧ o = mapObK o.kd q (clockOf o) (entsOf o)
theorem clockOf_mapK (kd : Kd) (q : IntKind) (c : Nat) (es : List Ent) : clockOf (mapObK kd q c es) = c := by simp [clockOf, mapObK, mrow, nth, rawI]
theorem clockOf_map (q : IntKind) (c : Nat) (es : List Ent) : clockOf (mapOb q c es) = c := clockOf_mapK _ _ _ _
theorem entsOf_mapK (kd : Kd) (q : IntKind) (c : Nat) (es : List Ent) : entsOf (mapObK kd q c es) = es := by
  apply List.ext_getElem?
  intro i
  simp only [entsOf, mapObK, mrow, Nat.add_sub_cancel, List.getElem?_map, List.getElem?_range]
  by_cases h : i < es.length
  · simp [List.getElem?_range h, nth, rawI, h]
  · rw [List.getElem?_eq_none (by simpa using h)]; simp [h]
theorem entsOf_map (q : IntKind) (c : Nat) (es : List Ent) : entsOf (mapOb q c es) = es := entsOf_mapK _ _ _ _
theorem IsMap_map (q : IntKind) (c : Nat) (es : List Ent) : IsMap q (mapOb q c es) = True := by
  refine eq_true ⟨rfl, ?_⟩
  exact (by rw [clockOf_map, entsOf_map]; rfl)
theorem clockOf_ro (o : Ob) : clockOf o.ro = clockOf o := rfl
theorem entsOf_ro (o : Ob) : entsOf o.ro = entsOf o := rfl
theorem IsMap_ro (q : IntKind) (o : Ob) : IsMap q o.ro = IsMap q o := by
  obtain ⟨k, g, z, n, r⟩ := o
  simp only [IsMap, clockOf_ro, entsOf_ro]
  simp only [Ob.ro, mapObK, Kd.toRo_ty, Ob.mk.injEq, true_and]
theorem mapOb_kd (q : IntKind) (c : Nat) (es : List Ent) : (mapOb q c es).kd = .map := rfl
theorem mapOb_n (q : IntKind) (c : Nat) (es : List Ent) : (mapOb q c es).n = es.length + 1 := rfl
theorem mapOb_gen (q : IntKind) (c : Nat) (es : List Ent) : (mapOb q c es).gen = 0 := rfl
theorem ro_kd (o : Ob) : o.ro.kd = o.kd.toRo := rfl
theorem ro_n (o : Ob) : o.ro.n = o.n := rfl
theorem ro_gen (o : Ob) : o.ro.gen = o.gen := rfl
theorem IsMap.get {q : IntKind} {o : Ob} (h : IsMap q o) : ∃ kd c es, kd.ty = 1 ∧ o.kd = kd ∧ clockOf o = c ∧ entsOf o = es ∧ o = mapObK kd q c es := ⟨_, _, _, h.1, rfl, rfl, rfl, h.2⟩

theorem alook_some : ∀ {es : List Ent} {k : Int} {v : D}, alook es k = some v → ∃ (j : Nat) (e : Ent), es[j]? = some e ∧ e.k = k ∧ e.v = v ∧ (∀ (i : Nat) (e' : Ent), i < j → es[i]? = some e' → e'.k ≠ k) ∧ (∀ u, aput es k u = es.set j ⟨k, u, e.b⟩) ∧ adel es k = es.eraseIdx j
  | [], _, _, h => by simp [alook] at h
  | e :: r, k, v, h => by
    simp only [alook] at h
    by_cases hk : e.k = k
    · rw [if_pos hk] at h; cases h
      exact ⟨0, e, rfl, hk, rfl, fun i _ hi => absurd hi (Nat.not_lt_zero i), fun u => by simp [aput, hk], by simp [adel, hk]⟩
    · rw [if_neg hk] at h
      obtain ⟨j, e', h1, h2, h3, h4, h5, h6⟩ := alook_some h
      refine ⟨j + 1, e', by simpa using h1, h2, h3, fun i x hi hx => ?_, fun u => by simp [aput, hk, h5 u], by simp [adel, hk, h6]⟩
      cases i with
      | zero => simp at hx; subst hx; exact hk
      | succ i => exact h4 i x (by omega) (by simpa using hx)
theorem alook_none : ∀ {es : List Ent} {k : Int}, alook es k = none → (∀ e ∈ es, e.k ≠ k) ∧ (∀ u, aput es k u = es) ∧ adel es k = es
  | [], _, _ => ⟨by simp, fun _ => rfl, rfl⟩
  | e :: r, k, h => by
    simp only [alook] at h
    by_cases hk : e.k = k
    · rw [if_pos hk] at h; cases h
    · rw [if_neg hk] at h
      obtain ⟨h1, h2, h3⟩ := alook_none h
      exact ⟨fun x hx => by
        rcases List.mem_cons.1 hx with rfl | h
        · exact hk
        · exact h1 x h, fun u => by simp [aput, hk, h2 u], by simp [adel, hk, h3]⟩
/-- Entries of which no two have one key. -/
def KeysNd (es : List Ent) : Prop := (es.map (·.k)).Nodup
/-- Entries, and those of a world's map. -/
structure EntRel (Z : Nat → Prop) (h : List Ob) (pl : List Pl) (w : World) (q : IntKind) (c : Nat) (es : List Ent) (ens : List MapEntry) : Prop where
  len : es.length = ens.length
  at_ : ∀ (i : Nat) (e : Ent) (a : MapEntry), es[i]? = some e → ens[i]? = some a → a.key = .int q e.k ∧ RelV Z h pl w e.v a.val ∧ a.born = e.b ∧ a.born < c
  inc : ∀ (i j : Nat) (a a' : MapEntry), i < j → ens[i]? = some a → ens[j]? = some a' → a.born < a'.born
theorem mapAt_of {Z : Nat → Prop} {h : List Ob} {pl : List Pl} {w : World} {q : IntKind} {c : Nat} {es : List Ent} {b : Nat} {ens : Array MapEntry} (hb : w.heap[b]? = some (.map ens c)) (E : EntRel Z h pl w q c es ens.toList) {kd : Kd} (hkd : kd.ty = 1) : ObAt Z h pl w (mapObK kd q c es) b 0 := by
  refine ObAt.ofMap hkd ⟨rfl, rfl, ens, c, hb, by have := E.len; simp at this; simp [mapObK, this], fun i _ => ?_, .cl _ _ (.raw _), fun i a ha => ?_, fun i j a a' hij h1 h2 => E.inc i j a a' hij (by simpa using h1) (by simpa using h2)⟩
  · show (mrow q c es i).length = 3
    cases i with
    | zero => rfl
    | succ i => simp only [mrow]; split <;> rfl
  · have hlt := (Array.getElem?_eq_some_iff.1 ha).1
    have hi : i < es.length := by have := E.len; simp at this; omega
    obtain ⟨h1, h2, h3, h4⟩ := E.at_ i es[i] a (List.getElem?_eq_getElem hi) (by simpa using ha)
    have e1 : mrow q c es (i + 1) = [.raw (.int q es[i].k), es[i].v, .raw (.int .i64 es[i].b)] := by simp [mrow, hi]
    show _ ∧ RelV Z h pl w (nth (mrow q c es (i + 1)) 0) _ ∧ RelV Z h pl w (nth (mrow q c es (i + 1)) 1) _ ∧ RelV Z h pl w (nth (mrow q c es (i + 1)) 2) _
    rw [e1]
    exact ⟨h4, by rw [h1]; exact .cl _ _ (.raw _), h2, by rw [h3]; exact .cl _ _ (.raw _)⟩
theorem mapAt_to {Z : Nat → Prop} {h : List Ob} {pl : List Pl} {w : World} {q : IntKind} {c : Nat} {es : List Ent} {b p : Nat} {kd : Kd} (hkd : kd.ty = 1) (x : ObAt Z h pl w (mapObK kd q c es) b p) : p = 0 ∧ ∃ ens : Array MapEntry, w.heap[b]? = some (.map ens c) ∧ EntRel Z h pl w q c es ens.toList := by
  obtain ⟨h0, _, ens, clock, h1, h2, _, h4, h5, h6⟩ := x.map hkd
  have hc : clock = c := by
    have := inv_raw h4
    simp at this; omega
  subst hc
  have hl : es.length = ens.size := by simpa [mapObK] using h2
  refine ⟨h0, ens, h1, by simpa using hl, fun i e a he ha => ?_, fun i j a a' hij g1 g2 => h6 i j a a' hij (by simpa using g1) (by simpa using g2)⟩
  obtain ⟨k1, k2, k3, k4⟩ := h5 i a (by simpa using ha)
  have e1 : (mapObK kd q clock es).row (i + 1) = [.raw (.int q e.k), e.v, .raw (.int .i64 e.b)] := by simp [mapObK, mrow, he]
  rw [e1] at k2 k3 k4
  have := inv_raw k2
  have h8 := inv_raw k4
  refine ⟨this, k3, ?_, k1⟩
  simp at h8; omega
theorem EntRel.keys {Z : Nat → Prop} {h : List Ob} {pl : List Pl} {w : World} {q : IntKind} {c : Nat} {es : List Ent} {ens : List MapEntry} (E : EntRel Z h pl w q c es ens) : IntKeys q ens := fun a ha => by
  obtain ⟨i, hi⟩ := List.getElem?_of_mem ha
  have hlt : i < es.length := by rw [E.len]; exact (List.getElem?_eq_some_iff.1 hi).1
  exact ⟨_, (E.at_ i es[i] a (List.getElem?_eq_getElem hlt) hi).1⟩
theorem EntRel.hit {Z : Nat → Prop} {h : List Ob} {pl : List Pl} {w : World} {q : IntKind} {c : Nat} {es : List Ent} {ens : Array MapEntry} (E : EntRel Z h pl w q c es ens.toList) {k : Int} {j : Nat} {e : Ent} (he : es[j]? = some e) (hk : e.k = k) (hn : ∀ (i : Nat) (e' : Ent), i < j → es[i]? = some e' → e'.k ≠ k) :
    ∃ a, ens[j]? = some a ∧ a.key = .int q k ∧ RelV Z h pl w e.v a.val ∧ a.born = e.b ∧ a.born < c ∧ ∀ (i : Nat) (e' : MapEntry), i < j → ens[i]? = some e' → e'.key ≠ .int q k := by
  have hlt : j < ens.toList.length := by rw [← E.len]; exact (List.getElem?_eq_some_iff.1 he).1
  obtain ⟨h1, h2, h3, h4⟩ := E.at_ j e ens.toList[j] he (List.getElem?_eq_getElem hlt)
  refine ⟨ens.toList[j], by simp, by rw [h1, hk], h2, h3, h4, fun i a' hij ha' => ?_⟩
  have hi : i < es.length := by have := (List.getElem?_eq_some_iff.1 he).1; omega
  obtain ⟨g1, _⟩ := E.at_ i es[i] a' (List.getElem?_eq_getElem hi) (by simpa using ha')
  rw [g1]
  intro hh
  exact hn i _ hij (List.getElem?_eq_getElem hi) (by simpa using hh)
theorem EntRel.miss {Z : Nat → Prop} {h : List Ob} {pl : List Pl} {w : World} {q : IntKind} {c : Nat} {es : List Ent} {ens : List MapEntry} (E : EntRel Z h pl w q c es ens) {k : Int} (hn : ∀ e ∈ es, e.k ≠ k) : ∀ a ∈ ens, a.key ≠ .int q k := fun a ha => by
  obtain ⟨i, hi⟩ := List.getElem?_of_mem ha
  have hlt : i < es.length := by rw [E.len]; exact (List.getElem?_eq_some_iff.1 hi).1
  rw [(E.at_ i es[i] a (List.getElem?_eq_getElem hlt) hi).1]
  intro hh
  exact hn _ (List.getElem_mem hlt) (by simpa using hh)
theorem EntRel.tr {Z : Nat → Prop} {h h' : List Ob} {pl pl' : List Pl} {w w' : World} (T : Tr h pl w h' pl' w') {q : IntKind} {c : Nat} {es : List Ent} {ens : List MapEntry} (E : EntRel Z h pl w q c es ens) : EntRel Z h' pl' w' q c es ens :=
  ⟨E.len, fun i e a h1 h2 => let ⟨g1, g2, g3⟩ := E.at_ i e a h1 h2; ⟨g1, g2.tr T, g3⟩, E.inc⟩
section
variable {P : Program} {L : Lay} {base nt : Nat} {s : St} {o : Oper} {q : IntKind} {t kt et : TypeId} {x i : Operand} {l g n : Nat} {ob : Ob} {k : Int}
/-- A map that a slot points to. -/
theorem map_at {Z : Nat → Prop} {pl : List Pl} {a : Act} {w : World} (r : Rel Z base nt s pl a w) {c : Nat} {es : List Ent} {kd : Kd} (hkd : kd.ty = 1) (hx : evalO s.fr x = .mref l 0) (hob : s.h[l]? = some (mapObK kd q c es)) :
    ∃ b ens, a.eval x = .map (some b) ∧ pl[l]? = some (some (b, 0)) ∧ (kd.ro = false → base ≤ b) ∧ w.heap[b]? = some (.map ens c) ∧ EntRel Z s.h pl w q c es ens.toList := by
  have e1 := r.eval x
  rw [hx] at e1
  obtain ⟨o', p, b, h1, h2, h3, h4, h5⟩ := inv_mref e1
  rw [hob] at h1; cases h1
  have h5 := h5 rfl
  rw [h5] at h2
  obtain ⟨hb0, xat⟩ := r.o.at_ l _ b 0 hob h2
  obtain ⟨_, ens, hb, E⟩ := mapAt_to hkd xat
  have hv := h3.2
  have : (mapObK kd q c es).kd.ty = 1 := hkd
  rw [this] at hv
  exact ⟨b, ens, hv, h2, hb0, hb, E⟩
/-- A map turns in its block. -/
theorem map_turn {Z : Nat → Prop} {pl : List Pl} {a : Act} {w : World} (r : Rel Z base nt s pl a w) {c : Nat} {es : List Ent} (hob : s.h[l]? = some (mapOb q c es)) {b : Nat} (hp : pl[l]? = some (some (b, 0))) (hb0 : base ≤ b) {ens : Array MapEntry} (hb : w.heap[b]? = some (.map ens c))
    {c' : Nat} {es' : List Ent} {ens' : Array MapEntry} (E : ∀ pl' w', Tr s.h pl w (s.h.set l (mapOb q c' es')) pl' w' → EntRel Z (s.h.set l (mapOb q c' es')) pl' w' q c' es' ens'.toList) :
    ∃ w', w' = { w with heap := w.heap.setIfInBounds b (.map ens' c') } ∧ Tr s.h pl w (s.h.set l (mapOb q c' es')) pl w' ∧ RelO Z base (s.h.set l (mapOb q c' es')) pl w' ∧ Below base w w' := by
  have hbl := lt_of_heap hb
  generalize hw' : ({ w with heap := w.heap.setIfInBounds b (.map ens' c') } : World) = w'
  have e : ∀ c, c ≠ b → w'.heap[c]? = w.heap[c]? := fun c hc => by rw [← hw']; simp [Array.getElem?_setIfInBounds, Ne.symm hc]
  have hnew : w'.heap[b]? = some (.map ens' c') := by rw [← hw']; simp [Array.getElem?_setIfInBounds, hbl]
  have T := Tr.turn (w' := w') r.o hob hp e (o' := mapOb q c' es') rfl rfl rfl (by rw [hb]; intro c el h; cases h)
  exact ⟨w', rfl, T, RelO.turn (hro := rfl) r.o hob hp e T (mapAt_of hnew (E pl w' T) rfl), below_of hb0 e (by rw [← hw']; simp) (by rw [← hw']) (by rw [← hw']) (by rw [← hw'])⟩
theorem lookup_run (hL : LayOk P L) {yt yk ye : Ty} (ht : ty L t = some yt) (htk : yt.k = .map kt et) (hkt : ty L kt = some yk) (hkk : yk.k = .int q) (hye : ty L et = some ye)
    {Z : Nat → Prop} {h : List Ob} {pl : List Pl} {w : World} {b c : Nat} {es : List Ent} {ens : Array MapEntry} (hb : w.heap[b]? = some (.map ens c)) (E : EntRel Z h pl w q c es ens.toList) (ok : Bool) :
    ∃ v, RelV Z h pl w (match alook es k with | some d => d | none => zeroD ye) v ∧ ∀ w' : World, w'.heap[b]? = w.heap[b]? →
      (lookup t (.map (some b)) (.int q k) ok).run P w' = .ok (if ok then .tuple #[v, .bool (alook es k).isSome] else v) w' := by
  have h3 := fun w : World => checkKey_int (P := P) (w := w) (k := k) (under_int (hL kt yk hkt) hkk) ens.isEmpty 9999
  have hx := under_map (hL t yt ht) htk
  cases hf : alook es k with
  | some d =>
    obtain ⟨j, e, g1, g2, g3, g4, _⟩ := alook_some hf
    obtain ⟨a, a1, a2, a3, a4, a5, a6⟩ := E.hit g1 g2 g4
    refine ⟨a.val, by rw [← g3]; exact a3, fun w' hw => ?_⟩
    have h := findNow_hit (i0 := 0) E.keys (by simpa using a1) a2 (fun j e' hj hj' => a6 j e' hj (by simpa using hj'))
    have h2 := findKey_run (P := P) (w := w') (under_int (hL kt yk hkt) hkk) h
    simp [lookup, underlying, hx, getObj, getObj_run (hw.trans hb), h2, h3]
  | none =>
    obtain ⟨g1, _⟩ := alook_none hf
    obtain ⟨z, hz, hzr⟩ := zeroD_ok (hL et ye hye) (N := free Z pl) w
    refine ⟨z, .cl _ _ hz, fun w' hw => ?_⟩
    have h2 := findKey_run (P := P) (w := w') (under_int (hL kt yk hkt) hkk) (findNow_miss (i := 0) E.keys (E.miss g1))
    simp [lookup, underlying, hx, getObj, getObj_run (hw.trans hb), h2, h3, hzr w']
theorem lookup_nil_run (hL : LayOk P L) {yt yk ye : Ty} (ht : ty L t = some yt) (htk : yt.k = .map kt et) (hkt : ty L kt = some yk) (hkk : yk.k = .int q) (hye : ty L et = some ye)
    {N : Nat → Prop} {w : World} (ok : Bool) : ∃ v, Cl N w (zeroD ye) v ∧ ∀ w' : World, (lookup t (.map none) (.int q k) ok).run P w' = .ok (if ok then .tuple #[v, .bool false] else v) w' := by
  obtain ⟨z, hz, hzr⟩ := zeroD_ok (hL et ye hye) (N := N) w
  refine ⟨z, hz, fun w' => ?_⟩
  have h3 := checkKey_int (P := P) (w := w') (k := k) (under_int (hL kt yk hkt) hkk) true 9999
  have h2 := findKey_run (P := P) (w := w') (k := k) (under_int (hL kt yk hkt) hkk) (es := []) (r := none) rfl
  simp [lookup, underlying, under_map (hL t yt ht) htk, h2, h3, hzr w']
/-- What is looked up. -/
def plook (L : Lay) (h : List Ob) (t : TypeId) (x i : D) (ok : Bool) : Ev := match ty L t with
  | some ⟨.map kt et, _, _, _⟩ => match ty L kt, ty L et with
    | some ⟨.int q, _, _, _⟩, some ye => match i with
      | .raw (.int q' k) => match x with
        | .mref l g => match h[l]? with
          | some o => some (IsMap q o ∧ q' = q ∧ g = 0, match alook (entsOf o) k with
            | some d => bif ok then .tup [d, .raw (.bool true)] else d
            | none => bif ok then .tup [zeroD ye, .raw (.bool false)] else zeroD ye)
          | none => none
        | .raw (.map none) => some (q' = q, bif ok then .tup [zeroD ye, .raw (.bool false)] else zeroD ye)
        | _ => none
      | _ => none
    | _, _ => none
  | _ => none
theorem look_ok (hL : LayOk P L) {ok : Bool} (ho : o.op = .lookup t x i ok) {p : Prop} {d : D} (h : plook L s.h t (evalO s.fr x) (evalO s.fr i) ok = some (p, d)) (hp : p) : PureOk P base nt o s d := by
  intro Z pl a w r
  unfold plook at h
  split at h
  case h_2 => cases h
  rename_i kt et m1 m2 m3 ht
  split at h
  case h_2 => cases h
  rename_i q n1 n2 n3 ye hkt hye
  split at h
  case h_2 => cases h
  rename_i q' k hi
  have e2 := r.eval i
  rw [hi] at e2
  have e2 := inv_raw e2
  split at h
  case h_3 => cases h
  case h_2 hx =>
    simp only [Option.some.injEq, Prod.mk.injEq] at h
    obtain ⟨rfl, rfl⟩ := h
    subst hp
    have e1 := r.eval x
    rw [hx] at e1
    have e1 := inv_raw e1
    obtain ⟨v, hv, hrun⟩ := lookup_nil_run (k := k) hL ht rfl hkt rfl hye (N := free Z pl) (w := w) ok
    cases ok with
    | false => exact ⟨v, .cl _ _ hv, fun w' hw => by simp [execOp, ho, e1, e2, hrun w']⟩
    | true =>
      refine ⟨.tuple #[v, .bool false], .tup _ [v, .bool false] rfl (fun i hi => match i, hi with
        | 0, _ => .cl _ _ hv
        | 1, _ => .cl _ _ (.raw _)), fun w' hw => by simp [execOp, ho, e1, e2, hrun w']⟩
  case h_1 l g hx =>
    split at h
    case h_2 => cases h
    rename_i ob hob
    simp only [Option.some.injEq, Prod.mk.injEq] at h
    obtain ⟨rfl, rfl⟩ := h
    obtain ⟨hm, rfl, rfl⟩ := hp
    obtain ⟨kd, c, es, hkd, _, _, hes, hm⟩ := hm.get
    rw [hes]
    subst hm
    obtain ⟨b, ens, e1, _, _, hb, E⟩ := map_at r hkd hx hob
    obtain ⟨v, hv, hrun⟩ := lookup_run (k := k) hL ht rfl hkt rfl hye hb E ok
    cases hf : alook es k with
    | some d =>
      rw [hf] at hv hrun
      cases ok with
      | false => exact ⟨v, hv, fun w' hw => by simp [execOp, ho, e1, e2, hrun w' (hw b (lt_of_heap hb))]⟩
      | true =>
        refine ⟨.tuple #[v, .bool true], .tup _ [v, .bool true] rfl (fun i hi => match i, hi with
          | 0, _ => hv
          | 1, _ => .cl _ _ (.raw _)), fun w' hw => by simp [execOp, ho, e1, e2, hrun w' (hw b (lt_of_heap hb))]⟩
    | none =>
      rw [hf] at hv hrun
      cases ok with
      | false => exact ⟨v, hv, fun w' hw => by simp [execOp, ho, e1, e2, hrun w' (hw b (lt_of_heap hb))]⟩
      | true =>
        refine ⟨.tuple #[v, .bool false], .tup _ [v, .bool false] rfl (fun i hi => match i, hi with
          | 0, _ => hv
          | 1, _ => .cl _ _ (.raw _)), fun w' hw => by simp [execOp, ho, e1, e2, hrun w' (hw b (lt_of_heap hb))]⟩
/-- How many entries. -/
def pmlen (L : Lay) (h : List Ob) (t : TypeId) (x : D) : Ev := match ty L t with
  | some ⟨.map _ _, _, _, _⟩ => match x with
    | .mref l g => match h[l]? with
      | some o => some (o.kd.ty = 1 ∧ g = o.gen, .raw (.int .i64 ((o.n - 1 : Nat) : Int)))
      | none => none
    | .raw (.map none) => some (True, .raw (.int .i64 0))
    | _ => none
  | _ => none
theorem mlen_ok (hL : LayOk P L) {tys : Array TypeId} (ho : o.op = .call ⟨.builtin .len, #[x], tys⟩) (hty : tys = #[t]) {p : Prop} {d : D} (h : pmlen L s.h t (evalO s.fr x) = some (p, d)) (hp : p) : PureOk P base nt o s d := by
  subst hty
  intro Z pl a w r
  unfold pmlen at h
  split at h
  case h_2 => cases h
  rename_i kt et m1 m2 m3 ht
  have hu := under_map (hL t _ ht) rfl
  have e1 := r.eval x
  split at h
  case h_3 => cases h
  case h_2 hx =>
    simp only [Option.some.injEq, Prod.mk.injEq] at h
    obtain ⟨rfl, rfl⟩ := h
    rw [hx] at e1
    have e1 := inv_raw e1
    refine ⟨.int .i64 0, .cl _ _ (.raw _), fun w' hw => ?_⟩
    rw [run_builtin ho]
    simp [e1, builtin, Builtin.len_, underlying, hu, goInt]
  case h_1 l g hx =>
    split at h
    case h_2 => cases h
    rename_i ob hob
    simp only [Option.some.injEq, Prod.mk.injEq] at h
    obtain ⟨rfl, rfl⟩ := h
    obtain ⟨hk, rfl⟩ := hp
    rw [hx] at e1
    obtain ⟨o', p, b, h1, h2, h3, h4, h5⟩ := inv_mref e1
    rw [hob] at h1; cases h1
    have h5 := h5 rfl
    rw [h5] at h2
    obtain ⟨hb0, xat⟩ := r.o.at_ l _ b 0 hob h2
    obtain ⟨_, _, ens, clock, hb, h6, _⟩ := xat.map hk
    have hv := h3.2
    rw [hk] at hv
    refine ⟨.int .i64 ((ob.n - 1 : Nat) : Int), .cl _ _ (.raw _), fun w' hw => ?_⟩
    rw [run_builtin ho]
    have hb' : w'.heap[b]? = some (.map ens clock) := by rw [hw b (lt_of_heap hb)]; exact hb
    simp [hv, mval, builtin, Builtin.len_, underlying, hu, getObj, getObj_run hb', h6, goInt]

/-! What makes and turns maps. -/
def pmake (L : Lay) (h : List Ob) (t : TypeId) : Option (Prop × List Ob × D) := match ty L t with
  | some ⟨.map kt _, _, _, _⟩ => match ty L kt with
    | some ⟨.int q, _, _, _⟩ => some (True, h ++ [mapOb q 0 []], .mref h.length 0)
    | _ => some (True, h ++ [mapOb .i64 0 []], .mref h.length 0)
  | _ => none
theorem make_ok (hL : LayOk P L) {rz : Option Operand} (hr : rz = none ∨ ∃ k n, rz = some (.const (.int k n)) ∧ 0 ≤ n) (ho : o.op = .makeMap t rz) {p : Prop} {h' : List Ob} {d : D} (h : pmake L s.h t = some (p, h', d)) : EffOk P base nt o s h' d := by
  have hm : ∃ q, p = True ∧ h' = s.h ++ [mapOb q 0 []] ∧ d = .mref s.h.length 0 ∧ ∃ kt vt a b c, ty L t = some ⟨.map kt vt, a, b, c⟩ := by
    unfold pmake at h
    split at h
    case h_2 => cases h
    rename_i kt vt _ _ _ ht
    split at h
    all_goals
      simp only [Option.some.injEq, Prod.mk.injEq] at h
      obtain ⟨rfl, rfl, rfl⟩ := h
      exact ⟨_, rfl, rfl, rfl, _, _, _, _, _, ht⟩
  obtain ⟨q, rfl, rfl, rfl, kt, vt, _, _, _, ht⟩ := hm
  intro Z pl a w r hbs
  have e : ∀ b, b < w.heap.size → (w.alloc (.map #[] 0)).heap[b]? = w.heap[b]? := fun b hb => heap_push_old w _ b hb
  have hnew : (w.alloc (.map #[] 0)).heap[w.heap.size]? = some (.map #[] 0) := heap_alloc_new w _
  have T : Tr s.h pl w (s.h ++ [mapOb q 0 []]) (pl ++ [some (w.heap.size, 0)]) (w.alloc (.map #[] 0)) := Tr.push r.o e _ _ (by intro b q h; simp at h; omega)
  have hpl : pl.length = s.h.length := r.o.len
  refine ⟨.map (some w.heap.size), w.alloc (.map #[] 0), pl ++ [some (w.heap.size, 0)], .inl ?_, T, ?_, ?_, below_alloc hbs _, fun _ => e⟩
  · rcases hr with rfl | ⟨k, n, rfl, hn⟩
    · simp [execOp, ho, makeMap]
    · simp [execOp, ho, makeMap, Act.eval, underlying, under_map (hL t _ ht) rfl, asInt, asIntOf]
  · exact RelO.push' r.o e _ (Nat.le_refl _) hbs (mapAt_of (kd := .map) hnew ⟨rfl, fun i e a h => by simp at h, fun i j a a' _ h => by simp at h⟩ rfl)
  · exact .mref _ _ (mapOb q 0 []) (some (w.heap.size, 0)) w.heap.size (by simp) (by rw [← hpl]; simp) ⟨by simp [mapOb, mapObK, Kd.ty], rfl⟩ (Nat.le_refl _) (fun _ => rfl)
def pupd (L : Lay) (h : List Ob) (t : TypeId) (x i v : D) : Option (Prop × List Ob) := match ty L t with
  | some ⟨.map kt _, _, _, _⟩ => match ty L kt with
    | some ⟨.int q, _, _, _⟩ => match x, i with
      | .mref l g, .raw (.int q' k) => match h[l]? with
        | some o => some (IsMap q o ∧ q' = q ∧ g = 0 ∧ o.kd.ro = false, h.set l (mset q (clockOf o) (entsOf o) k v))
        | none => none
      | _, _ => none
    | _ => none
  | _ => none
theorem extC_map {w : World} {b : Nat} {es : Array MapEntry} {c : Nat} (hb : w.heap[b]? = some (.map es c)) (o : Obj) : ExtC w { w with heap := w.heap.setIfInBounds b o } := fun a v h => by
  by_cases e : a.block = b
  · simp [World.cell?, e, hb] at h
  · rw [World.cell?_of_block (w := w)]
    · exact h
    · simp [Array.getElem?_setIfInBounds, Ne.symm e]
theorem upd_okC (hL : LayOk P L) {v : Operand} (ho : o.op = .mapUpdate t x i v) {p : Prop} {h' : List Ob} (h : pupd L s.h t (evalO s.fr x) (evalO s.fr i) (evalO s.fr v) = some (p, h')) (hp : p) : ∀ (Z : Nat → Prop) pl a w, Rel Z base nt s pl a w → base ≤ w.heap.size → ∃ v w' pl', ((execOp a.eval o).run P w = .ok (.value v) w' ∨ ((execOp a.eval o).run P w = .ok .skip w' ∧ v = Go.undef)) ∧ Tr s.h pl w h' pl' w' ∧ RelO Z base h' pl' w' ∧ RelV Z h' pl' w' .undef v ∧ Below base w w' ∧ ExtC w w' := by
  unfold pupd at h
  split at h
  case h_2 => cases h
  split at h
  case h_2 => cases h
  rename_i kt et _ _ _ ht _ q _ _ _ hkt
  split at h
  case h_2 => cases h
  rename_i l g q' k hx hi
  split at h
  case h_2 => cases h
  rename_i ob hob
  simp only [Option.some.injEq, Prod.mk.injEq] at h
  obtain ⟨rfl, rfl⟩ := h
  obtain ⟨hm, rfl, rfl, hro⟩ := hp
  obtain ⟨kd, c, es, hkd, hk0, hcs, hes, hm⟩ := hm.get
  rw [hes, hcs]
  have hk1 : kd = .map := by rw [hk0] at hro; cases kd <;> first | rfl | (exfalso; revert hkd; decide) | (exfalso; revert hro; decide)
  subst hk1
  rw [show mapObK .map q' c es = mapOb q' c es from rfl] at hm
  subst hm
  intro Z pl a w r hbs
  have e2 := r.eval i
  rw [hi] at e2
  have e2 := inv_raw e2
  have e3 := r.eval v
  obtain ⟨b, ens, e1, h2, hb0, hb, E⟩ := map_at (kd := .map) r rfl hx hob
  have hb0 := hb0 rfl
  have ht' := under_map (hL t _ ht) rfl
  have hk' := under_int (hL kt _ hkt) rfl
  cases hf : alook es k with
  | some d =>
    obtain ⟨j, e, g1, g2, g3, g4, g5, _⟩ := alook_some hf
    obtain ⟨a1, b1, b2, b3, b4, b5, b6⟩ := E.hit g1 g2 g4
    have hrun := update_hit_run (P := P) (w := w) (k := k) ht' hk' hb E.keys b1 b2 b6 (a.eval v)
    have hm : mset q' c es k (evalO s.fr v) = mapOb q' c (es.set j ⟨k, evalO s.fr v, e.b⟩) := by simp only [mset, hf]; rw [g5]
    rw [hm]
    obtain ⟨w', rfl, T, O, B⟩ := map_turn r hob h2 hb0 hb (c' := c) (es' := es.set j ⟨k, evalO s.fr v, e.b⟩) (ens' := ens.modify j fun e => { e with key := .int q' k, val := a.eval v }) (fun pl' w' T => by
      have E' := E.tr T
      have hget : ∀ (i' : Nat) (x : MapEntry), (ens.modify j fun e => { e with key := .int q' k, val := a.eval v }).toList[i']? = some x → ∃ y, ens.toList[i']? = some y ∧ x.born = y.born ∧ (i' ≠ j → x = y) ∧ (i' = j → x.key = .int q' k ∧ x.val = a.eval v) := fun i' x hx => by
        have hx : (ens.modify j fun e => { e with key := .int q' k, val := a.eval v })[i']? = some x := by rw [← Array.getElem?_toList]; exact hx
        rw [Array.getElem?_modify] at hx
        split at hx
        · rename_i hij
          subst hij
          rw [b1] at hx
          simp at hx
          subst hx
          exact ⟨a1, by simpa using b1, rfl, fun h => absurd rfl h, fun _ => ⟨rfl, rfl⟩⟩
        · rename_i hij
          exact ⟨x, by simpa using hx, rfl, fun _ => rfl, fun h => absurd h.symm hij⟩
      refine ⟨by have := E.len; simp at this ⊢; exact this, fun i' e' a' he' ha' => ?_, fun i1 i2 x y h12 hx hy => ?_⟩
      · obtain ⟨y, y1, y2, y3, y4⟩ := hget i' a' ha'
        by_cases hij : i' = j
        · subst hij
          have hlt := (List.getElem?_eq_some_iff.1 g1).1
          rw [List.getElem?_set_self hlt] at he'
          cases he'
          obtain ⟨d1, d2⟩ := y4 rfl
          have : y = a1 := by have b1' : ens.toList[i']? = some a1 := by simpa using b1
                              rw [y1] at b1'; simpa using b1'
          subst this
          exact ⟨d1, by rw [d2]; exact e3.tr T, by rw [y2, b4], by rw [y2]; exact b5⟩
        · rw [List.getElem?_set_ne (Ne.symm hij)] at he'
          rw [y3 hij]
          exact E'.at_ i' e' y he' y1
      · obtain ⟨x', hx', hb1, _⟩ := hget i1 x hx
        obtain ⟨y', hy', hb2, _⟩ := hget i2 y hy
        rw [hb1, hb2]; exact E.inc i1 i2 x' y' h12 hx' hy')
    exact ⟨Go.undef, _, pl, .inr ⟨by simp [execOp, ho, e1, e2, hrun], rfl⟩, T, O, .cl _ _ (.undef _), B, extC_map hb _⟩
  | none =>
    obtain ⟨g1, _⟩ := alook_none hf
    have hrun := update_miss_run (P := P) (w := w) (k := k) ht' hk' hb E.keys (E.miss g1) (a.eval v)
    have hm : mset q' c es k (evalO s.fr v) = mapOb q' (c + 1) (es ++ [⟨k, evalO s.fr v, c⟩]) := by simp only [mset, hf]
    rw [hm]
    obtain ⟨w', rfl, T, O, B⟩ := map_turn r hob h2 hb0 hb (c' := c + 1) (es' := es ++ [⟨k, evalO s.fr v, c⟩]) (ens' := ens.push { key := .int q' k, val := a.eval v, born := c }) (fun pl' w' T => by
      have E' := E.tr T
      have hl : es.length = ens.size := by have := E.len; simpa using this
      refine ⟨by simp [hl], fun i' e' a' he' ha' => ?_, fun i1 i2 x y h12 hx hy => ?_⟩
      · have ha' : (ens.push { key := .int q' k, val := a.eval v, born := c })[i']? = some a' := by rw [← Array.getElem?_toList]; exact ha'
        rw [Array.getElem?_push] at ha'
        rcases append_inv he' with h1 | ⟨h1, h1'⟩
        · have := (List.getElem?_eq_some_iff.1 h1).1
          rw [if_neg (by omega)] at ha'
          obtain ⟨k1, k2, k3, k4⟩ := E'.at_ i' e' a' h1 (by simpa using ha')
          exact ⟨k1, k2, k3, by omega⟩
        · subst h1'
          rw [if_pos (by omega)] at ha'
          cases ha'
          exact ⟨rfl, e3.tr T, rfl, by simp⟩
      · have hx : (ens.push { key := .int q' k, val := a.eval v, born := c })[i1]? = some x := by rw [← Array.getElem?_toList]; exact hx
        have hy : (ens.push { key := .int q' k, val := a.eval v, born := c })[i2]? = some y := by rw [← Array.getElem?_toList]; exact hy
        rw [Array.getElem?_push] at hx hy
        have old : ∀ (i : Nat) (z : MapEntry), ens[i]? = some z → z.born < c := fun i z hz => by
          have hlt := (Array.getElem?_eq_some_iff.1 hz).1
          exact (E.at_ i (es[i]'(by omega)) z (List.getElem?_eq_getElem (by omega)) (by simpa using hz)).2.2.2
        split at hx
        · split at hy
          · omega
          · have := (Array.getElem?_eq_some_iff.1 hy).1; omega
        · split at hy
          · cases hy; exact old i1 x hx
          · exact E.inc i1 i2 x y h12 (by simpa using hx) (by simpa using hy))
    exact ⟨Go.undef, _, pl, .inr ⟨by simp [execOp, ho, e1, e2, hrun], rfl⟩, T, O, .cl _ _ (.undef _), B, extC_map hb _⟩
theorem upd_ok (hL : LayOk P L) {v : Operand} (ho : o.op = .mapUpdate t x i v) {p : Prop} {h' : List Ob} (h : pupd L s.h t (evalO s.fr x) (evalO s.fr i) (evalO s.fr v) = some (p, h')) (hp : p) : EffOk P base nt o s h' .undef := fun Z pl a w r hb => by
  obtain ⟨v, w', pl', h1, h2, h3, h4, h5, _⟩ := upd_okC hL ho h hp Z pl a w r hb
  exact ⟨v, w', pl', h1, h2, h3, h4, h5, fun hc => by simp [calm, ho] at hc⟩
def pdel (L : Lay) (h : List Ob) (t : TypeId) (x i : D) : Option (Prop × List Ob) := match ty L t with
  | some ⟨.map kt _, _, _, _⟩ => match ty L kt with
    | some ⟨.int q, _, _, _⟩ => match i with
      | .raw (.int q' k) => match x with
        | .mref l g => match h[l]? with
          | some o => some (IsMap q o ∧ q' = q ∧ g = 0 ∧ o.kd.ro = false, h.set l (mapOb q (clockOf o) (adel (entsOf o) k)))
          | none => none
        | .raw (.map none) => some (q' = q, h)
        | _ => none
      | _ => none
    | _ => none
  | _ => none
theorem del_ok (hL : LayOk P L) {tk : TypeId} (ho : o.op = .call ⟨.builtin .delete, #[x, i], #[t, tk]⟩) {p : Prop} {h' : List Ob} (h : pdel L s.h t (evalO s.fr x) (evalO s.fr i) = some (p, h')) (hp : p) : EffOk P base nt o s h' (.tup []) := by
  unfold pdel at h
  split at h
  case h_2 => cases h
  split at h
  case h_2 => cases h
  rename_i kt et _ _ _ ht _ q _ _ _ hkt
  have ht' := under_map (hL t _ ht) rfl
  have hk' := under_int (hL kt _ hkt) rfl
  split at h
  case h_2 => cases h
  rename_i q' k hi
  split at h
  case h_3 => cases h
  case h_2 hx =>
    simp only [Option.some.injEq, Prod.mk.injEq] at h
    obtain ⟨rfl, rfl⟩ := h
    subst hp
    intro Z pl a w r hbs
    have e2 := r.eval i
    rw [hi] at e2
    have e2 := inv_raw e2
    have e1 := r.eval x
    rw [hx] at e1
    have e1 := inv_raw e1
    have h3 := checkKey_int (P := P) (w := w) (k := k) hk' true 9999
    refine ⟨.tuple #[], w, pl, .inl ?_, Tr.refl _ _ _, r.o, .tup [] [] rfl (fun i hi => absurd hi (Nat.not_lt_zero i)), Below.refl _ _, fun _ => Ext.refl w⟩
    rw [run_builtin ho]
    simp [e1, e2, builtin, Builtin.delete_, underlying, ht', h3]
  case h_1 l g hx =>
    split at h
    case h_2 => cases h
    rename_i ob hob
    simp only [Option.some.injEq, Prod.mk.injEq] at h
    obtain ⟨rfl, rfl⟩ := h
    obtain ⟨hm, rfl, rfl, hro⟩ := hp
    obtain ⟨kd, c, es, hkd, hk0, hcs, hes, hm⟩ := hm.get
    rw [hes, hcs]
    have hk1 : kd = .map := by rw [hk0] at hro; cases kd <;> first | rfl | (exfalso; revert hkd; decide) | (exfalso; revert hro; decide)
    subst hk1
    rw [show mapObK .map q' c es = mapOb q' c es from rfl] at hm
    subst hm
    intro Z pl a w r hbs
    have e2 := r.eval i
    rw [hi] at e2
    have e2 := inv_raw e2
    obtain ⟨b, ens, e1, h2, hb0, hb, E⟩ := map_at (kd := .map) r rfl hx hob
    have hb0 := hb0 rfl
    cases hf : alook es k with
    | some d =>
      obtain ⟨j, e, g1, g2, g3, g4, g5, g6⟩ := alook_some hf
      obtain ⟨a1, b1, b2, b3, b4, b5, b6⟩ := E.hit g1 g2 g4
      have hrun := delete_hit_run (P := P) (w := w) (k := k) (ty := o.type) (kt2 := tk) ht' hk' hb E.keys b1 b2 b6
      rw [g6]
      have hjs : j < ens.size := (Array.getElem?_eq_some_iff.1 b1).1
      obtain ⟨w', rfl, T, O, B⟩ := map_turn r hob h2 hb0 hb (c' := c) (es' := es.eraseIdx j) (ens' := ens.eraseIdxIfInBounds j) (fun pl' w' T => by
        have E' := E.tr T
        have hl : es.length = ens.size := by have := E.len; simpa using this
        have hto : (ens.eraseIdxIfInBounds j).toList = ens.toList.eraseIdx j := by simp [Array.eraseIdxIfInBounds, hjs, Array.toList_eraseIdx]
        rw [hto]
        refine ⟨by simp [List.length_eraseIdx, hl], fun i' e' a' he' ha' => ?_, fun i1 i2 x y h12 hx hy => ?_⟩
        · rw [List.getElem?_eraseIdx] at he' ha'
          split at he'
          · rw [if_pos ‹_›] at ha'; exact E'.at_ _ _ _ he' ha'
          · rw [if_neg ‹_›] at ha'; exact E'.at_ _ _ _ he' ha'
        · rw [List.getElem?_eraseIdx] at hx hy
          split at hx <;> split at hy <;> exact E.inc _ _ x y (by omega) hx hy)
      refine ⟨.tuple #[], _, pl, .inl ?_, T, O, .tup [] [] rfl (fun i hi => absurd hi (Nat.not_lt_zero i)), B, fun hc => by simp [calm, ho] at hc⟩
      rw [run_builtin ho]
      simp [e1, e2, builtin, hrun]
    | none =>
      obtain ⟨g1, _, g6⟩ := alook_none hf
      have hrun := delete_miss_run (P := P) (w := w) (k := k) (ty := o.type) (kt2 := tk) ht' hk' hb E.keys (E.miss g1)
      rw [g6]
      obtain ⟨w', rfl, T, O, B⟩ := map_turn r hob h2 hb0 hb (c' := c) (es' := es) (ens' := ens) (fun pl' w' T => E.tr T)
      refine ⟨.tuple #[], _, pl, .inl ?_, T, O, .tup [] [] rfl (fun i hi => absurd hi (Nat.not_lt_zero i)), B, fun hc => by simp [calm, ho] at hc⟩
      rw [run_builtin ho]
      simp [e1, e2, builtin, hrun]
/-! Iterators. -/
def itrow (l c c' : Nat) (seen : List Nat) : Nat → List D
  | 0 => [.mref l 0]
  | 1 => [.raw (.int .i64 c)]
  | 2 => [.raw (.int .i64 c')]
  | r + 3 => match seen[r]? with
    | some b => [.raw (.int .i64 b)]
    | none => [.undef]
/-- An iterator over map l, begun at clock c, last step at c'; 'seen': the entries met. -/
def iterOb (l c c' : Nat) (seen : List Nat) : Ob := ⟨.iter, 0, 1, seen.length + 3, itrow l c c' seen⟩
def prange (L : Lay) (h : List Ob) (t : TypeId) (x : D) : Option (Prop × List Ob × D) := match ty L t with
  | some ⟨.map _ _, _, _, _⟩ => match x with
    | .mref l g => match h[l]? with
      | some o => some (IsMap .i64 o ∧ g = 0, h ++ [iterOb l (clockOf o) (clockOf o) []], .mref h.length 0)
      | none => none
    | _ => none
  | _ => none
theorem iterAt_of {Z : Nat → Prop} {h : List Ob} {pl : List Pl} {w : World} {l c c' : Nat} {seen : List Nat} {b m : Nat} {sn : Array Nat} (hb : w.heap[b]? = some (.mapIter (some m) c sn c')) (hs : sn.toList = seen) (hm : RelV Z h pl w (.mref l 0) (.map (some m))) : ObAt Z h pl w (iterOb l c c' seen) b 0 := by
  subst hs
  refine ObAt.ofIter rfl ⟨rfl, rfl, m, c, c', sn, hb, by simp [iterOb], fun i _ => ?_, hm, .cl _ _ (.raw _), .cl _ _ (.raw _), fun i s hs => ?_⟩
  · show (itrow l c c' sn.toList i).length = 1
    unfold itrow; split <;> (try split) <;> rfl
  · have hs : sn.toList[i]? = some s := by simpa using hs
    show RelV Z h pl w (nth (itrow l c c' sn.toList (i + 3)) 0) _
    have : itrow l c c' sn.toList (i + 3) = [.raw (.int .i64 s)] := by simp only [itrow, hs]
    rw [this]; exact .cl _ _ (.raw _)
theorem iterAt_to {Z : Nat → Prop} {h : List Ob} {pl : List Pl} {w : World} {l c c' : Nat} {seen : List Nat} {b p : Nat} (x : ObAt Z h pl w (iterOb l c c' seen) b p) : p = 0 ∧ ∃ (m : Nat) (sn : Array Nat), w.heap[b]? = some (.mapIter (some m) c sn c') ∧ sn.toList = seen ∧ RelV Z h pl w (.mref l 0) (.map (some m)) := by
  obtain ⟨h0, _, m, since, last, sn, h1, h2, _, h4, h5, h6, h7⟩ := x.iter rfl
  have e1 : since = c := by have := inv_raw h5; simp at this; omega
  have e2 : last = c' := by have := inv_raw h6; simp at this; omega
  subst e1; subst e2
  refine ⟨h0, m, sn, h1, ?_, h4⟩
  have hl : seen.length = sn.size := by simpa [iterOb] using h2
  apply List.ext_getElem?
  intro i
  by_cases hi : i < sn.size
  · have h8 := h7 i sn[i] (Array.getElem?_eq_getElem hi)
    have e3 : (iterOb l since last seen).row (i + 3) = [.raw (.int .i64 (seen[i]'(by omega)))] := by
      show itrow l since last seen (i + 3) = _
      simp only [itrow, List.getElem?_eq_getElem (show i < seen.length by omega)]
    rw [e3] at h8
    have := inv_raw h8
    simp at this
    rw [List.getElem?_eq_getElem (show i < sn.toList.length by simpa using hi), List.getElem?_eq_getElem (show i < seen.length by omega)]
    simp only [Array.getElem_toList, Option.some.injEq]; omega
  · rw [List.getElem?_eq_none (by simp; omega), List.getElem?_eq_none (by omega)]
theorem range_ok (hL : LayOk P L) (ho : o.op = .range t x) {p : Prop} {h' : List Ob} {d : D} (h : prange L s.h t (evalO s.fr x) = some (p, h', d)) (hp : p) : EffOk P base nt o s h' d := by
  unfold prange at h
  split at h
  case h_2 => cases h
  rename_i kt et _ _ _ ht
  split at h
  case h_2 => cases h
  rename_i l g hx
  split at h
  case h_2 => cases h
  rename_i ob hob
  simp only [Option.some.injEq, Prod.mk.injEq] at h
  obtain ⟨rfl, rfl, rfl⟩ := h
  obtain ⟨hm, rfl⟩ := hp
  obtain ⟨kd, c, es, hkd, _, hcs, _, hm⟩ := hm.get
  rw [hcs]
  subst hm
  intro Z pl a w r hbs
  obtain ⟨b, ens, e1, h2, _, hb, E⟩ := map_at r hkd hx hob
  have hrun := range_run (P := P) (w := w) (under_map (hL t _ ht) rfl) hb
  have e : ∀ b', b' < w.heap.size → (w.alloc (.mapIter (some b) c #[] c)).heap[b']? = w.heap[b']? := fun b' hb => heap_push_old w _ b' hb
  have hnew : (w.alloc (.mapIter (some b) c #[] c)).heap[w.heap.size]? = some (.mapIter (some b) c #[] c) := heap_alloc_new w _
  have T : Tr s.h pl w (s.h ++ [iterOb l c c []]) (pl ++ [some (w.heap.size, 0)]) (w.alloc (.mapIter (some b) c #[] c)) := Tr.push r.o e _ _ (by intro b q h; simp at h; omega)
  have hpl : pl.length = s.h.length := r.o.len
  have hv := r.eval x
  rw [hx, e1] at hv
  refine ⟨.pointer (some ⟨w.heap.size, 0, none⟩), w.alloc (.mapIter (some b) c #[] c), pl ++ [some (w.heap.size, 0)], .inl ?_, T, ?_, ?_, below_alloc hbs _, fun _ => e⟩
  · simp [execOp, ho, e1, hrun]
  · exact RelO.push' r.o e _ (Nat.le_refl _) hbs (iterAt_of hnew rfl (hv.tr T))
  · exact .mref _ _ (iterOb l c c []) (some (w.heap.size, 0)) w.heap.size (by simp) (by rw [← hpl]; simp) ⟨by simp [iterOb, Kd.ty], rfl⟩ (Nat.le_refl _) (fun _ => rfl)
/-- A step of an iterator: all are met, or any one that is not. -/
theorem next_run (ho : o.op = .next x false) {Z : Nat → Prop} {pl : List Pl} {a : Act} {w : World} (r : Rel Z base nt s pl a w) (hbs : base ≤ w.heap.size) {li c : Nat} {es : List Ent} {seen : List Nat} (hx : evalO s.fr x = .mref li 0) (hit : s.h[li]? = some (iterOb l c c seen)) {kd : Kd} (hkd : kd.ty = 1) (hob : s.h[l]? = some (mapObK kd q c es)) :
    ((∀ e ∈ es, e.b ∈ seen) ∧ (execOp a.eval o).run P w = .ok (.value (.tuple #[.bool false])) w) ∨
    ∃ e ∈ es, e.b ∉ seen ∧ ∃ v w', (execOp a.eval o).run P w = .ok (.value v) w' ∧ Tr s.h pl w (s.h.set li (iterOb l c c (seen ++ [e.b]))) pl w' ∧ RelO Z base (s.h.set li (iterOb l c c (seen ++ [e.b]))) pl w' ∧
      RelV Z (s.h.set li (iterOb l c c (seen ++ [e.b]))) pl w' (.tup [.raw (.bool true), .raw (.int q e.k), e.v]) v ∧ Below base w w' := by
  have e1 := r.eval x
  rw [hx] at e1
  obtain ⟨o', p, b, h1, h2, h3, h4, h5⟩ := inv_mref e1
  rw [hit] at h1; cases h1
  have h5 := h5 rfl
  rw [h5] at h2
  obtain ⟨hb0, xat⟩ := r.o.at_ li _ b 0 hit h2
  obtain ⟨_, m, sn, hb, hsn, hmr⟩ := iterAt_to xat
  have hv : a.eval x = .pointer (some ⟨b, 0, none⟩) := h3.2
  obtain ⟨o2, p2, bm, k1, k2, k3, k4, k5⟩ := inv_mref hmr
  rw [hob] at k1; cases k1
  have k5 := k5 rfl
  rw [k5] at k2
  have k3 := k3.2
  rw [show (mapObK kd q c es).kd.ty = 1 from hkd] at k3
  have k3 : m = bm := by simpa [mval] using k3
  subst k3
  obtain ⟨hm0, mat⟩ := r.o.at_ l _ m 0 hob k2
  obtain ⟨_, ens, hbm, E⟩ := mapAt_to hkd mat
  have hl : es.length = ens.toList.length := E.len
  have hold : ∀ y ∈ ens.toList, y.born < c := fun y hy => by
    obtain ⟨j, hj⟩ := List.getElem?_of_mem hy
    have hlt := (List.getElem?_eq_some_iff.1 hj).1
    exact (E.at_ j (es[j]'(by omega)) y (List.getElem?_eq_getElem (by omega)) hj).2.2.2
  rcases run_next_at (P := P) w o.type b m c c sn ens c hb hbm hold (Nat.le_refl _) with ⟨g1, g2⟩ | ⟨y, g1, w1, g2, g3⟩
  · refine .inl ⟨fun e he => ?_, by simp [execOp, ho, hv, g2]⟩
    obtain ⟨j, hj⟩ := List.getElem?_of_mem he
    have hlt := (List.getElem?_eq_some_iff.1 hj).1
    obtain ⟨_, _, e3, _⟩ := E.at_ j e (ens.toList[j]'(by omega)) hj (List.getElem?_eq_getElem (by omega))
    have hnone : ∀ z ∈ ens.toList, sn.contains z.born = true := fun z hz => by
      have : leftOf ens sn = #[] := Array.eq_empty_of_size_eq_zero g1
      unfold leftOf at this
      rw [Array.filter_eq_empty_iff] at this
      have := this z (by simpa using hz)
      simpa using this
    have := hnone _ (List.getElem_mem (show j < ens.toList.length by omega))
    rw [e3] at this
    rw [← hsn]
    simpa using this
  · obtain ⟨j, hj⟩ := List.getElem?_of_mem (show y ∈ ens.toList by unfold leftOf at g1; simp at g1; simpa using g1.1)
    have hlt := (List.getElem?_eq_some_iff.1 hj).1
    obtain ⟨d1, d2, d3, d4⟩ := E.at_ j (es[j]'(by omega)) y (List.getElem?_eq_getElem (by omega)) hj
    have hns : y.born ∉ sn.toList := by unfold leftOf at g1; simp at g1; simpa using g1.2
    refine .inr ⟨es[j]'(by omega), List.getElem_mem _, by rw [← d3, ← hsn]; exact hns, ?_⟩
    rw [← d3]
    have hh : w1.heap = w.heap := by rcases g2 with rfl | rfl <;> rfl
    generalize hw' : ChangeMaps.setBlock w1 b (.mapIter (some m) c (sn.push y.born) c) = w' at g3
    have hbl := lt_of_heap hb
    have hwh : w'.heap = w.heap.setIfInBounds b (.mapIter (some m) c (sn.push y.born) c) := by rw [← hw', ← hh]; rfl
    have e : ∀ k, k ≠ b → w'.heap[k]? = w.heap[k]? := fun k hk => by rw [hwh]; simp [Array.getElem?_setIfInBounds, Ne.symm hk]
    have hnew : w'.heap[b]? = some (.mapIter (some m) c (sn.push y.born) c) := by rw [hwh]; simp [Array.getElem?_setIfInBounds, hbl]
    have T := Tr.turn (w' := w') r.o hit h2 e (o' := iterOb l c c (seen ++ [y.born])) rfl rfl rfl (by rw [hb]; intro c el h; cases h)
    refine ⟨_, w', by simp only [execOp, ho, hv, Sem.run_bind, g3, Result.andThen_ok]; rfl, T, RelO.turn (hro := rfl) r.o hit h2 e T (iterAt_of hnew (by rw [Array.toList_push, hsn]) (hmr.tr T)), ?_, ?_⟩
    · rw [d1]
      exact .tup _ [.bool true, .int q (es[j]'(by omega)).k, y.val] rfl fun i hi => match i, hi with
        | 0, _ => .cl _ _ (.raw _)
        | 1, _ => .cl _ _ (.raw _)
        | 2, _ => d2.tr T
    · have B : Below base w w1 := by
        rcases g2 with rfl | rfl
        · exact .refl _ _
        · exact (Below.refl _ _).drew
      refine B.trans (below_of (hb0 rfl) (fun k hk => by rw [hh]; exact e k hk) (by rw [hwh, hh]; simp) (by rw [← hw']; rfl) (by rw [← hw']; rfl) (by rw [← hw']; rfl))
end
end Go.Fg
namespace Go.Fg
set_option linter.unusedSimpArgs false
set_option linter.unusedVariables false
open Go.RowKit (Below)
variable {Z : Nat → Prop}

structure Cx where
  L : Lay
  E : EqT

def pstep (X : Cx) (s : St) : Op → Ev
  | .move x => some (True, evalO s.fr x)
  | .assign x => some (True, evalO s.fr x)
  | .pick c x y => match evalO s.fr c with
    | .raw (.bool b) => some (True, bif b then evalO s.fr x else evalO s.fr y)
    | _ => none
  | .binOp op t x y _ => match pbin X.L op t (evalO s.fr x) (evalO s.fr y) with
    | some r => some r
    | none => pbinA X.E op t (evalO s.fr x) (evalO s.fr y)
  | .unOp u _ x => match u, evalO s.fr x with
    | .not, .raw (.bool b) => some (True, .raw (.bool (!b)))
    | .neg, .raw (.int k n) => some (True, .raw (.int k (k.wrap (0 - n))))
    | .xor, .raw (.int k n) => some (True, .raw (.int k (bits .xor k (if k.signed then -1 else k.max) n)))
    | _, _ => none
  | .convert a b x => pconv X.L a b (evalO s.fr x)
  | .build t parts => match pbuild X.L s.fr t parts.toList with
    | some d => some (True, d)
    | none => none
  | .load t x => pload X.L s.h t (evalO s.fr x)
  | .nilCheck x => bif (evalO s.fr x).there then some (True, evalO s.fr x) else none
  | .fieldAddr t x f => pfieldAddr X.L t f (evalO s.fr x)
  | .field t x f => pfieldV X.L t f (evalO s.fr x)
  | .indexAddr t x i => pindexAddr X.L s.h t (evalO s.fr x) (evalO s.fr i)
  | .index t x i => pindex X.L t (evalO s.fr x) (evalO s.fr i)
  | .extract x i => match evalO s.fr x with
    | .tup cs => some (i < cs.length, nth cs i)
    | _ => none
  | .slice t x lo hi mx => match mx with
    | none => pslice X.L s.fr s.h t (evalO s.fr x) lo hi
    | some _ => none
  | .makeFunc fn first caps => match fn, first with
    | .func f, ⟨fs⟩ => some (True, .clo f fs.length ((fs ++ caps.toList).map (evalO s.fr)))
    | _, _ => none
  | .call ⟨.builtin b, ⟨args⟩, ⟨tys⟩⟩ => match b, args, tys with
    | .len, [x], [t] => match plen X.L t (evalO s.fr x) with
      | some r => some r
      | none => pmlen X.L s.h t (evalO s.fr x)
    | .max, [x, y], _ => match evalO s.fr x, evalO s.fr y with
      | .raw (.int k m), .raw (.int _ n) => some (True, .raw (.int k (max m n)))
      | _, _ => none
    | .min, [x, y], _ => match evalO s.fr x, evalO s.fr y with
      | .raw (.int k m), .raw (.int _ n) => some (True, .raw (.int k (min m n)))
      | _, _ => none
    | _, _, _ => none
  | .lookup t x i ok => plook X.L s.h t (evalO s.fr x) (evalO s.fr i) ok
  | _ => none

structure CxOk (P : Program) (X : Cx) : Prop where
  L : LayOk P X.L
  E : EqOk P X.E

theorem pstep_ok {P : Program} {X : Cx} (hX : CxOk P X) {base nt : Nat} {s : St} {o : Oper} {p : Prop} {d : D} (h : pstep X s o.op = some (p, d)) (hp : p) : PureOk P base nt o s d := by
  unfold pstep at h
  split at h
  case h_1 x ho => simp only [Option.some.injEq, Prod.mk.injEq] at h; obtain ⟨rfl, rfl⟩ := h; exact move_ok (.inl ho)
  case h_2 x ho => simp only [Option.some.injEq, Prod.mk.injEq] at h; obtain ⟨rfl, rfl⟩ := h; exact move_ok (.inr ho)
  case h_3 c x y ho =>
    split at h
    · rename_i b hc
      simp only [Option.some.injEq, Prod.mk.injEq] at h; obtain ⟨rfl, rfl⟩ := h; exact pick_ok ho hc
    · cases h
  case h_4 op t x y yt ho =>
    split at h
    · rename_i r hr
      simp only [Option.some.injEq] at h
      subst h
      exact pbin_ok hX.L ho hr hp
    · exact pbinA_ok hX.E ho h
  case h_5 u t x ho =>
    split at h
    · rename_i b hx; simp only [Option.some.injEq, Prod.mk.injEq] at h; obtain ⟨rfl, rfl⟩ := h; exact unop_ok ho rfl hx
    · rename_i k n hx; simp only [Option.some.injEq, Prod.mk.injEq] at h; obtain ⟨rfl, rfl⟩ := h; exact neg_ok ho rfl hx
    · rename_i k n hx; simp only [Option.some.injEq, Prod.mk.injEq] at h; obtain ⟨rfl, rfl⟩ := h; exact inv_ok ho rfl hx
    · cases h
  case h_6 a b x ho => exact conv_ok hX.L ho h
  case h_7 t parts ho =>
    split at h
    · rename_i dd hd; simp only [Option.some.injEq, Prod.mk.injEq] at h; obtain ⟨rfl, rfl⟩ := h; exact build_ok hX.L ho hd
    · cases h
  case h_8 t x ho => exact load_ok hX.L ho h hp
  case h_9 x ho =>
    obtain ⟨ht, h2⟩ := cond_none h
    simp only [Option.some.injEq, Prod.mk.injEq] at h2; obtain ⟨rfl, rfl⟩ := h2
    exact nilCheck_ok ho rfl ht
  case h_10 t x f ho => exact fieldAddr_ok hX.L ho h hp
  case h_11 t x f ho => exact fieldV_ok hX.L ho h hp
  case h_12 t x i ho => exact indexAddr_ok hX.L ho h hp
  case h_13 t x i ho => exact index_ok hX.L ho h hp
  case h_14 x i ho =>
    split at h
    · rename_i cs hx; simp only [Option.some.injEq, Prod.mk.injEq] at h; obtain ⟨rfl, rfl⟩ := h; exact extract_ok ho hx hp
    · cases h
  case h_15 t x lo hi mx ho =>
    split at h
    · exact slice_ok hX.L ho h hp
    · cases h
  case h_16 fn first caps ho =>
    split at h
    · simp only [Option.some.injEq, Prod.mk.injEq] at h; obtain ⟨rfl, rfl⟩ := h; exact makeFunc_ok ho
    · cases h
  case h_17 b args tys ho =>
    split at h
    · split at h
      · rename_i r hr
        simp only [Option.some.injEq] at h
        subst h
        exact len_ok hX.L ho hr
      · exact mlen_ok hX.L ho rfl h hp
    · split at h
      · rename_i k m k' n hx hy; simp only [Option.some.injEq, Prod.mk.injEq] at h; obtain ⟨rfl, rfl⟩ := h; exact max2_ok ho hx hy
      · cases h
    · split at h
      · rename_i k m k' n hx hy; simp only [Option.some.injEq, Prod.mk.injEq] at h; obtain ⟨rfl, rfl⟩ := h; exact min2_ok ho hx hy
      · cases h
    · cases h
  case h_18 t x i ok ho => exact look_ok hX.L ho h hp
  case h_19 => cases h

def estep (X : Cx) (s : St) : Op → Option (Prop × List Ob × D)
  | .alloc t => match ty X.L t with
    | some y => some (True, s.h ++ [⟨.one, 0, (y.zero.map ofCell).length, 1, fun _ => y.zero.map ofCell⟩], .ptr s.h.length 0 0 0)
    | none => none
  | .box _ x => match cellsD (evalO s.fr x) with
    | some cs => some (True, s.h ++ [⟨.one, 0, cs.length, 1, fun _ => cs⟩], .ptr s.h.length 0 0 0)
    | none => none
  | .store t a x => match pstore X.L s.h t (evalO s.fr a) (evalO s.fr x) with
    | some (p, h') => some (p, h', .undef)
    | none => none
  | .buildSlice t len parts => pbuildSlice X.L s.fr s.h t len parts.toList
  | .call ⟨.builtin b, ⟨args⟩, ⟨tys⟩⟩ => match b, args, tys with
    | .append, [x, y], [t, t'] => bif Nat.beq t t' then papp X.L s.h t (evalO s.fr x) (evalO s.fr y) else none
    | .delete, [x, i], [t, _] => match pdel X.L s.h t (evalO s.fr x) (evalO s.fr i) with
      | some (p, h') => some (p, h', .tup [])
      | none => none
    | _, _, _ => none
  | .makeMap t rz => match rz with
    | none => pmake X.L s.h t
    | some (.const (.int _ n)) => bif decide (0 ≤ n) then pmake X.L s.h t else none
    | some _ => none
  | .mapUpdate t x i v => match pupd X.L s.h t (evalO s.fr x) (evalO s.fr i) (evalO s.fr v) with
    | some (p, h') => some (p, h', .undef)
    | none => none
  | .range t x => prange X.L s.h t (evalO s.fr x)
  | _ => none
theorem papp_cases {L : Lay} {h : List Ob} {t : TypeId} {s x : D} {r : Prop × List Ob × D} (e : papp L h t s x = some r) : s = .nil ∨ ∃ l g off len, s = .ref l g off len := by
  unfold papp at e
  split at e
  · split at e
    · exact .inl rfl
    · exact .inr ⟨_, _, _, _, rfl⟩
    · cases e
  · cases e
theorem estep_ok {P : Program} {X : Cx} (hX : CxOk P X) {base nt : Nat} {s : St} {o : Oper} {p : Prop} {h' : List Ob} {d : D} (h : estep X s o.op = some (p, h', d)) (hp : p) : EffOk P base nt o s h' d := by
  unfold estep at h
  split at h
  case h_1 t ho =>
    split at h
    · rename_i y hy; simp only [Option.some.injEq, Prod.mk.injEq] at h; obtain ⟨rfl, rfl, rfl⟩ := h; exact alloc_ok hX.L ho hy
    · cases h
  case h_2 t x ho =>
    split at h
    · rename_i cs hc; simp only [Option.some.injEq, Prod.mk.injEq] at h; obtain ⟨rfl, rfl, rfl⟩ := h; exact box_ok ho hc
    · cases h
  case h_3 t a x ho =>
    split at h
    · rename_i p' h'' hs; simp only [Option.some.injEq, Prod.mk.injEq] at h; obtain ⟨rfl, rfl, rfl⟩ := h; exact store_ok hX.L ho hs hp
    · cases h
  case h_4 t len parts ho => exact buildSlice_ok hX.L ho h hp
  case h_5 b args tys ho =>
    split at h
    · obtain ⟨ht, h2⟩ := cond_none h
      have ht := Nat.eq_of_beq_eq_true ht
      subst ht
      rcases papp_cases h2 with e | ⟨l, g, off, len, e⟩
      · rw [e] at h2; exact append_nil_ok hX.L ho e h2 hp
      · rw [e] at h2; exact append_ref_ok hX.L ho e h2 hp
    · split at h
      · rename_i p' h'' hs; simp only [Option.some.injEq, Prod.mk.injEq] at h; obtain ⟨rfl, rfl, rfl⟩ := h; exact del_ok hX.L ho hs hp
      · cases h
    · cases h
  case h_6 t rz ho =>
    split at h
    · exact make_ok hX.L (.inl rfl) ho h
    · rename_i k n
      obtain ⟨hn, h2⟩ := cond_none h
      exact make_ok hX.L (.inr ⟨k, n, rfl, of_decide_eq_true hn⟩) ho h2
    · cases h
  case h_7 t x i v ho =>
    split at h
    · rename_i p' h'' hs; simp only [Option.some.injEq, Prod.mk.injEq] at h; obtain ⟨rfl, rfl, rfl⟩ := h; exact upd_ok hX.L ho hs hp
    · cases h
  case h_8 t x ho => exact range_ok hX.L ho h hp
  case h_9 => cases h

/-! Guards, regions, code. -/
abbrev G := Option (Option Nat × Bool)
def guardOf (ops : Array Oper) (o : Oper) : G := match o.guard with
  | none => none
  | some (j, b) => some ((ops[j]?).bind (·.dst), b)
/-- An operation without what its run does not look at. -/
def strip (o : Oper) : Oper := ⟨o.dst, o.op, o.type, "", #[], none⟩
theorem wp_strip {P : Program} {o : Oper} {a : Act} {w : World} {K : Act → World → Prop} {Q : Exit → Act → World → Prop} : (strip o).wp P a w K Q = o.wp P a w K Q := rfl
def gops (ops : Array Oper) : List (Oper × G) := ops.toList.map fun o => (strip o, guardOf ops o)
def boolAt (tmps : Array Value) (t : Nat) : Option Bool := match tmps[t]? with
  | some (.bool b) => some b
  | _ => none
def wantedG (g : G) (tmps : Array Value) : Bool := match g with
  | none => true
  | some (none, _) => false
  | some (some t, b) => boolAt tmps t == some b
theorem wanted_iff (ops : Array Oper) (o : Oper) (tmps : Array Value) : Region.wanted o (yielded ops tmps) = wantedG (guardOf ops o) tmps := by
  unfold Region.wanted guardOf wantedG
  cases hg : o.guard with
  | none => rfl
  | some jb =>
    obtain ⟨j, b⟩ := jb
    dsimp only
    cases hd : (ops[j]?).bind (·.dst) with
    | none => simp [yielded, hd]
    | some t =>
      simp only [yielded, hd, Option.bind_some, boolAt]
      cases ht : tmps[t]? with
      | none => rfl
      | some v => cases v <;> rfl

def wpG (P : Program) (Q : Exit → Act → World → Prop) : List (Oper × G) → Act → World → Prop
  | [], a, w => Q .normal a w
  | (o, g) :: r, a, w => if wantedG g a.tmps = true then o.wp P a w (wpG P Q r) Q else wpG P Q r (a.put o.dst Go.undef) w
theorem wpG_ok {P : Program} {ops : Array Oper} {Q : Exit → Act → World → Prop} : ∀ (n i : Nat) (a : Act) (w : World), i + n = ops.size → wpG P Q ((gops ops).drop i) a w → wpOps P ops Q (List.range' i n) a w
  | 0, i, a, w, hi, h => by
    have : (gops ops).drop i = [] := List.drop_eq_nil_of_le (by simp [gops]; omega)
    rw [this] at h
    exact h
  | n + 1, i, a, w, hi, h => by
    have hlt : i < ops.size := by omega
    have hd : (gops ops).drop i = (strip ops[i], guardOf ops ops[i]) :: (gops ops).drop (i + 1) := by
      rw [List.drop_eq_getElem_cons (by simp [gops]; omega)]
      simp [gops]
    rw [hd] at h
    rw [List.range'_succ]
    simp only [wpOps, Array.getElem?_eq_getElem hlt, wanted_iff]
    simp only [wpG] at h
    split at h
    · rename_i hw
      rw [if_pos hw]
      refine .inl ?_
      have mono : ∀ (K K' : Act → World → Prop), (∀ a w, K a w → K' a w) → ops[i].wp P a w K Q → ops[i].wp P a w K' Q := by
        intro K K' hk hh
        unfold Oper.wp at *
        generalize (execOp a.eval ops[i]).run P w = r at *
        cases r with
        | ok x w' =>
          cases x <;> simp only [Oper.upon] at hh ⊢ <;> first | exact hk _ _ hh | exact hh | skip
          · exact hh.mono fun e w'' he => by cases e <;> first | exact hk _ _ he | exact he
          · exact hh.mono fun v w'' he => hk _ _ he
        | halt x w' => cases x <;> exact hh
      rw [wp_strip] at h
      exact mono _ _ (fun a w => wpG_ok n (i + 1) a w (by omega)) h
    · rename_i hw
      rw [if_neg hw]
      exact wpG_ok n (i + 1) _ w (by omega) h
theorem wpG_region {P : Program} {id : Nat} {ops : Array Oper} {Q : Exit → Act → World → Prop} {a : Act} {w : World} (h : wpG P Q (gops ops) a w) : (Code.region id ops false).wp P Q a w :=
  wp_region (by rw [List.range_eq_range']; exact wpG_ok ops.size 0 a w (by omega) (by simpa using h))

/-- Where a walk began: the world, the objects that the call was lent, and where they lie. -/
structure Start where
  w : World
  F : List Ob
  pl : List Pl
/-- Which blocks closed values may lean on: those to come, and those of the call's own objects. -/
structure ZIn (Z : Nat → Prop) (w0 : Start) (pl : List Pl) (w : World) : Prop where
  new : ∀ b, w.heap.size ≤ b → Z b
  own : ∀ (l b q : Nat), pl[l]? = some (some (b, q)) → w0.w.heap.size ≤ b → Z b
theorem ZIn.step {Z : Nat → Prop} {w0 : Start} {h h' : List Ob} {pl pl' : List Pl} {w w' : World} (S : ZIn Z w0 pl w) (T : Tr h pl w h' pl' w') (hs : w.heap.size ≤ w'.heap.size) : ZIn Z w0 pl' w' where
  new := fun b hb => S.new b (by omega)
  own := fun l b q e h0 => by
    rcases Nat.lt_or_ge b w.heap.size with hlt | hge
    · by_cases ha : away pl b
      · exact absurd e ((T.old b ha hlt).1 l q)
      · obtain ⟨l1, h1⟩ := Classical.not_forall.1 ha
        obtain ⟨q1, h2⟩ := Classical.not_forall.1 h1
        exact S.own l1 b q1 (Classical.not_not.1 h2) h0
    · exact S.new b hge
theorem ZIn.start {Z : Nat → Prop} {base : Nat} {w0 : Start} {h : List Ob} {pl : List Pl} (R : RelO Z base h pl w0.w) (hz : ∀ b, w0.w.heap.size ≤ b → Z b) : ZIn Z w0 pl w0.w where
  new := hz
  own := fun l b q e h0 => absurd (R.lt e).1 (by omega)
def Since (Z : Nat → Prop) (base : Nat) (w0 : Start) (h : List Ob) (pl : List Pl) (w : World) : Prop := Below base w0.w w ∧ Tr w0.F w0.pl w0.w h pl w ∧ ZIn Z w0 pl w
theorem Since.step {Z : Nat → Prop} {base : Nat} {w0 : Start} {h h' : List Ob} {pl pl' : List Pl} {w w' : World} (S : Since Z base w0 h pl w) (T : Tr h pl w h' pl' w') (b : Below base w w') : Since Z base w0 h' pl' w' := ⟨S.1.trans b, S.2.1.trans T, S.2.2.step T b.size⟩
section
variable (P : Program) (base nt : Nat) (w0 : Start)
def ZOk (_ : Start) (_ : Nat → Prop) : Prop := True
def lift (Z : Nat → Prop) (Q : Exit → St → Prop) (e : Exit) (a : Act) (w : World) : Prop := ∃ s pl, Q e s ∧ Rel Z base nt s pl a w ∧ Since Z base w0 s.h pl w
/-- The abstract weakest precondition of code. -/
def A (c : Code) (Q : Exit → St → Prop) (s : St) : Prop := ∀ (Z : Nat → Prop), ZOk w0 Z → ∀ pl a w, Rel Z base nt s pl a w → Since Z base w0 s.h pl w → c.wp P (lift base nt w0 Z Q) a w
def AG (l : List (Oper × G)) (Q : Exit → St → Prop) (s : St) : Prop := ∀ (Z : Nat → Prop), ZOk w0 Z → ∀ pl a w, Rel Z base nt s pl a w → Since Z base w0 s.h pl w → wpG P (lift base nt w0 Z Q) l a w
end

inductive Item where
  | code (c : Code)
  | ops (l : List (Oper × G))
  | inBlock (id : Nat)
  | inScope

def kont (P : Program) (base nt : Nat) (w0 : Start) (Q : Exit → St → Prop) : List Item → Exit → St → Prop
  | [], e, s => Q e s
  | .code c :: k, .normal, s => A P base nt w0 c (kont P base nt w0 Q k) s
  | .code _ :: k, e, s => kont P base nt w0 Q k e s
  | .ops l :: k, .normal, s => AG P base nt w0 l (kont P base nt w0 Q k) s
  | .ops _ :: k, e, s => kont P base nt w0 Q k e s
  | .inBlock id :: k, .exit j, s => if j = id then kont P base nt w0 Q k .normal s else kont P base nt w0 Q k (.exit j) s
  | .inBlock _ :: k, e, s => kont P base nt w0 Q k e s
  | .inScope :: _, .goto _, _ => False
  | .inScope :: k, e, s => kont P base nt w0 Q k e s

inductive Tree where
  | done (e : Exit) (s : St)
  | stop (k : List Item) (s : St)
  | vc (p : Prop) (t : Tree)
  | ite (b : Bool) (t e : Tree)
  | fail

def Tree.holds (P : Program) (base nt : Nat) (w0 : Start) (Q : Exit → St → Prop) : Tree → Prop
  | .done e s => Q e s
  | .stop k s => kont P base nt w0 Q k .normal s
  | .vc p t => p ∧ t.holds P base nt w0 Q
  | .ite b t e => (b = true → t.holds P base nt w0 Q) ∧ (b = false → e.holds P base nt w0 Q)
  | .fail => False

def exitK (id : Nat) : List Item → Option (List Item)
  | [] => none
  | .inBlock j :: k => bif Nat.beq id j then some k else exitK id k
  | _ :: k => exitK id k
def putO (fr : List (Nat × D)) (t : Option Nat) (d : D) : List (Nat × D) := match t with
  | none => fr
  | some t => put fr t d
def okO (nt : Nat) : Option Nat → Bool
  | none => true
  | some t => Nat.blt t nt

def beqB : Bool → Bool → Bool
  | true, x => x
  | false, x => !x
theorem beqB_iff (b x : Bool) : beqB b x = (x == b) := by cases b <;> cases x <;> rfl

def exec (X : Cx) (nt : Nat) : Nat → List Item → St → Tree
  | 0, k, s => .stop k s
  | _ + 1, [], s => .done .normal s
  | n + 1, .inBlock _ :: k, s => exec X nt n k s
  | n + 1, .inScope :: k, s => exec X nt n k s
  | n + 1, .code c :: k, s => match c with
    | .skip => exec X nt n k s
    | .label _ => exec X nt n k s
    | .seq a b => exec X nt n (.code a :: .code b :: k) s
    | .cond c a b => match evalO s.fr c with
      | .raw (.bool x) => .ite x (exec X nt n (.code a :: k) s) (exec X nt n (.code b :: k) s)
      | _ => .fail
    | .block id c => exec X nt n (.code c :: .inBlock id :: k) s
    | .scope c => exec X nt n (.code c :: .inScope :: k) s
    | .exit id => match exitK id k with
      | some k' => exec X nt n k' s
      | none => .done (.exit id) s
    | .ret => .done .ret s
    | .region id ops dr => bif dr then .stop (.code (.region id ops dr) :: k) s else exec X nt n (.ops (gops ops) :: k) s
    | c => .stop (.code c :: k) s
  | n + 1, .ops [] :: k, s => exec X nt n k s
  | n + 1, .ops ((o, g) :: r) :: k, s => match g with
    | none => match pstep X s o.op with
      | some (p, d) => bif okO nt o.dst then .vc p (exec X nt n (.ops r :: k) ⟨putO s.fr o.dst d, s.h⟩) else .fail
      | none => match estep X s o.op with
        | some (p, h', d) => bif okO nt o.dst then .vc p (exec X nt n (.ops r :: k) ⟨putO s.fr o.dst d, h'⟩) else .fail
        | none => .stop (.ops ((o, none) :: r) :: k) s
    | some (none, _) => bif okO nt o.dst then exec X nt n (.ops r :: k) ⟨putO s.fr o.dst (.raw Go.undef), s.h⟩ else .fail
    | some (some t, b) => match get s.fr t with
      | .raw (.bool x) => .ite (beqB b x) (exec X nt n (.ops ((o, none) :: r) :: k) ⟨put s.fr t (.raw (.bool b)), s.h⟩)
          (bif okO nt o.dst then exec X nt n (.ops r :: k) ⟨putO (put s.fr t (.raw (.bool (!b)))) o.dst (.raw Go.undef), s.h⟩ else .fail)
      | .raw (.tuple _) => bif okO nt o.dst then exec X nt n (.ops r :: k) ⟨putO s.fr o.dst (.raw Go.undef), s.h⟩ else .fail
      | _ => .fail

/-! That the tree's conditions suffice. -/
section
variable {P : Program} {base nt : Nat} {w0 : Start} {Q : Exit → St → Prop}

theorem A.mono {c : Code} {Q Q' : Exit → St → Prop} {s : St} (h : A P base nt w0 c Q s) (hq : ∀ e s, Q e s → Q' e s) : A P base nt w0 c Q' s :=
  fun Z z pl a w r b => wp_mono (h Z z pl a w r b) fun _ _ _ ⟨s', pl', h1, h2, h3⟩ => ⟨s', pl', hq _ _ h1, h2, h3⟩

theorem A_seq {x y : Code} {s : St} (h : A P base nt w0 x (fun e s' => match e with | .normal => A P base nt w0 y Q s' | e => Q e s') s) : A P base nt w0 (.seq x y) Q s := by
  intro Z z pl a w r b
  refine wp_seq (wp_mono (h Z z pl a w r b) fun e a' w' hh => ?_)
  obtain ⟨s', pl', h1, h2, h3⟩ := hh
  cases e with
  | normal => exact h1 Z z pl' a' w' h2 h3
  | exit id => exact ⟨s', pl', h1, h2, h3⟩
  | goto l => exact ⟨s', pl', h1, h2, h3⟩
  | ret => exact ⟨s', pl', h1, h2, h3⟩
  | panic ch => exact ⟨s', pl', h1, h2, h3⟩
  | outgrown => exact ⟨s', pl', h1, h2, h3⟩
theorem A_block {id : Nat} {c : Code} {s : St} (h : A P base nt w0 c (fun e s' => match e with | .exit j => if j = id then Q .normal s' else Q (.exit j) s' | e => Q e s') s) : A P base nt w0 (.block id c) Q s := by
  intro Z z pl a w r b
  refine wp_block (wp_mono (h Z z pl a w r b) fun e a' w' hh => ?_)
  obtain ⟨s', pl', h1, h2, h3⟩ := hh
  cases e with
  | exit j =>
    simp only [Exit.inBlock]
    dsimp only at h1
    split
    · rename_i hj; rw [if_pos hj] at h1; exact ⟨s', pl', h1, h2, h3⟩
    · rename_i hj; rw [if_neg hj] at h1; exact ⟨s', pl', h1, h2, h3⟩
  | normal => exact ⟨s', pl', h1, h2, h3⟩
  | goto l => exact ⟨s', pl', h1, h2, h3⟩
  | ret => exact ⟨s', pl', h1, h2, h3⟩
  | panic ch => exact ⟨s', pl', h1, h2, h3⟩
  | outgrown => exact ⟨s', pl', h1, h2, h3⟩

theorem A_scope {c : Code} {s : St} (h : A P base nt w0 c (fun e s' => match e with | .goto _ => False | e => Q e s') s) : A P base nt w0 (.scope c) Q s := by
  intro Z z pl a w r b
  refine wp_scope_straight (wp_mono (h Z z pl a w r b) fun e a' w' hh => ?_)
  obtain ⟨s', pl', h1, h2, h3⟩ := hh
  cases e with
  | goto l => exact h1.elim
  | normal => exact ⟨s', pl', h1, h2, h3⟩
  | exit j => exact ⟨s', pl', h1, h2, h3⟩
  | ret => exact ⟨s', pl', h1, h2, h3⟩
  | panic ch => exact ⟨s', pl', h1, h2, h3⟩
  | outgrown => exact ⟨s', pl', h1, h2, h3⟩
theorem kont_scope {c : Code} {k : List Item} {s : St} (h : kont P base nt w0 Q (.code c :: .inScope :: k) .normal s) : kont P base nt w0 Q (.code (.scope c) :: k) .normal s := by
  simp only [kont] at h ⊢
  refine A_scope (h.mono fun e s' he => ?_)
  cases e <;> exact he
theorem kont_seq {a b : Code} {k : List Item} {s : St} (h : kont P base nt w0 Q (.code a :: .code b :: k) .normal s) : kont P base nt w0 Q (.code (.seq a b) :: k) .normal s := by
  simp only [kont] at h ⊢
  refine A_seq (h.mono fun e s' he => ?_)
  cases e <;> exact he
theorem kont_block {id : Nat} {c : Code} {k : List Item} {s : St} (h : kont P base nt w0 Q (.code c :: .inBlock id :: k) .normal s) : kont P base nt w0 Q (.code (.block id c) :: k) .normal s := by
  simp only [kont] at h ⊢
  refine A_block (h.mono fun e s' he => ?_)
  cases e <;> exact he
theorem kont_cond {c : Operand} {x y : Code} {k : List Item} {s : St} {t : Bool} (hc : evalO s.fr c = .raw (.bool t)) (h1 : t = true → kont P base nt w0 Q (.code x :: k) .normal s) (h2 : t = false → kont P base nt w0 Q (.code y :: k) .normal s) :
    kont P base nt w0 Q (.code (.cond c x y) :: k) .normal s := by
  simp only [kont] at h1 h2 ⊢
  intro Z z pl a w r b
  have he := r.eval c
  rw [hc] at he
  have := inv_raw he
  cases t
  · exact wp_cond_false this (h2 rfl Z z pl a w r b)
  · exact wp_cond_true this (h1 rfl Z z pl a w r b)
theorem kont_exit {id : Nat} : ∀ {k k' : List Item} {s : St}, exitK id k = some k' → kont P base nt w0 Q k' .normal s → kont P base nt w0 Q k (.exit id) s
  | [], k', s, h, _ => by simp [exitK] at h
  | .code c :: k, k', s, h, hk => by simp only [exitK] at h; simp only [kont]; exact kont_exit h hk
  | .ops c :: k, k', s, h, hk => by simp only [exitK] at h; simp only [kont]; exact kont_exit h hk
  | .inScope :: k, k', s, h, hk => by simp only [exitK] at h; simp only [kont]; exact kont_exit h hk
  | .inBlock j :: k, k', s, h, hk => by
    simp only [exitK] at h
    simp only [kont]
    by_cases hj : id = j
    · subst hj
      simp at h
      subst h
      rw [if_pos rfl]; exact hk
    · have : Nat.beq id j = false := by rw [← Bool.not_eq_true, Nat.beq_eq]; exact hj
      rw [this] at h
      rw [if_neg hj]
      exact kont_exit h hk
theorem kont_exit_none {id : Nat} : ∀ {k : List Item} {s : St}, exitK id k = none → Q (.exit id) s → kont P base nt w0 Q k (.exit id) s
  | [], s, _, hq => hq
  | .code c :: k, s, h, hq => by simp only [exitK] at h; simp only [kont]; exact kont_exit_none h hq
  | .ops c :: k, s, h, hq => by simp only [exitK] at h; simp only [kont]; exact kont_exit_none h hq
  | .inScope :: k, s, h, hq => by simp only [exitK] at h; simp only [kont]; exact kont_exit_none h hq
  | .inBlock j :: k, s, h, hq => by
    simp only [exitK] at h
    simp only [kont]
    by_cases hj : id = j
    · subst hj; simp at h
    · have : Nat.beq id j = false := by rw [← Bool.not_eq_true, Nat.beq_eq]; exact hj
      rw [this] at h
      rw [if_neg hj]
      exact kont_exit_none h hq
theorem kont_ret : ∀ {k : List Item} {s : St}, Q .ret s → kont P base nt w0 Q k .ret s
  | [], _, hq => hq
  | .code _ :: _, _, hq => by simp only [kont]; exact kont_ret hq
  | .ops _ :: _, _, hq => by simp only [kont]; exact kont_ret hq
  | .inBlock _ :: _, _, hq => by simp only [kont]; exact kont_ret hq
  | .inScope :: _, _, hq => by simp only [kont]; exact kont_ret hq

theorem okO_lt {t : Nat} (h : okO nt (some t) = true) : t < nt := by simpa [okO, Nat.blt_eq] using h

/-- A slot is passed over. -/
theorem Rel.skip {s : St} {pl : List Pl} {a : Act} {w : World} (r : Rel Z base nt s pl a w) {t : Option Nat} (ht : okO nt t = true) : Rel Z base nt ⟨putO s.fr t (.raw Go.undef), s.h⟩ pl (a.put t Go.undef) w := by
  cases t with
  | none => exact r
  | some t => exact r.to (Tr.ext r.o fun _ _ => rfl) r.o (okO_lt ht) (.cl _ _ (.raw _))

theorem AG_pure {o : Oper} {rest : List (Oper × G)} {s : St} {d : D} (h : PureOk P base nt o s d) (ht : okO nt o.dst = true) (hk : AG P base nt w0 rest Q ⟨putO s.fr o.dst d, s.h⟩) : AG P base nt w0 ((o, none) :: rest) Q s := by
  intro Z z pl a w r b
  obtain ⟨v, hv, hrun⟩ := h Z pl a w r
  simp only [wpG, wantedG, if_true]
  unfold Oper.wp
  rw [hrun w fun _ _ => rfl]
  simp only [Oper.upon_value]
  refine hk Z z pl _ w ?_ b
  cases hd : o.dst with
  | none => exact r
  | some t => rw [hd] at ht; exact r.to (Tr.ext r.o fun _ _ => rfl) r.o (okO_lt ht) hv
theorem AG_eff (hbase : base ≤ w0.w.heap.size) {o : Oper} {rest : List (Oper × G)} {s : St} {h' : List Ob} {d : D} (h : EffOk P base nt o s h' d) (ht : okO nt o.dst = true) (hk : AG P base nt w0 rest Q ⟨putO s.fr o.dst d, h'⟩) : AG P base nt w0 ((o, none) :: rest) Q s := by
  intro Z z pl a w r b
  obtain ⟨v, w', pl', hrun, hT, hO, hv, hb, _⟩ := h Z pl a w r (Nat.le_trans hbase b.1.size)
  have fin : ∀ u, u = v → Rel Z base nt ⟨putO s.fr o.dst d, h'⟩ pl' (a.put o.dst u) w' := by
    rintro u rfl
    cases hd : o.dst with
    | none => exact r.to' hT hO u
    | some t => rw [hd] at ht; exact r.to hT hO (okO_lt ht) hv
  simp only [wpG, wantedG, if_true]
  unfold Oper.wp
  rcases hrun with hrun | ⟨hrun, hu⟩
  · rw [hrun]
    simp only [Oper.upon_value]
    exact hk Z z pl' _ w' (fin v rfl) (b.step hT hb)
  · rw [hrun]
    simp only [Oper.upon_skip]
    exact hk Z z pl' _ w' (fin _ hu.symm) (b.step hT hb)

theorem boolAt_of {tmps : Array Value} {t : Nat} {b : Bool} (h : tmps.getD t Go.undef = .bool b) : boolAt tmps t = some b := by
  unfold boolAt
  rw [Array.getD_eq_getD_getElem?] at h
  cases hh : tmps[t]? with
  | none => rw [hh] at h; simp [Go.undef] at h
  | some v => rw [hh] at h; simp at h; rw [h]
theorem boolAt_tuple {tmps : Array Value} {t : Nat} {vs : Array Value} (h : tmps.getD t Go.undef = .tuple vs) : boolAt tmps t = none := by
  unfold boolAt
  rw [Array.getD_eq_getD_getElem?] at h
  cases hh : tmps[t]? with
  | none => rfl
  | some v => rw [hh] at h; simp at h; rw [h]

/-- A slot's value is told anew. -/
theorem Rel.tell {s : St} {pl : List Pl} {a : Act} {w : World} (r : Rel Z base nt s pl a w) {t : Nat} {d : D} (hd : RelV Z s.h pl w d (a.tmps.getD t Go.undef)) : Rel Z base nt ⟨put s.fr t d, s.h⟩ pl a w :=
  ⟨r.nt, r.defers, fun u => by
    rw [get_put]
    by_cases h : u = t
    · subst h; rw [if_pos rfl]; exact hd
    · rw [if_neg h]; exact r.fr u, r.o⟩

theorem AG_guard {o : Oper} {rest : List (Oper × G)} {s : St} {t : Nat} {b x : Bool} (hx : get s.fr t = .raw (.bool x)) (ht : okO nt o.dst = true ∨ x = b)
    (h1 : x = b → AG P base nt w0 ((o, none) :: rest) Q ⟨put s.fr t (.raw (.bool b)), s.h⟩) (h2 : x = (!b) → AG P base nt w0 rest Q ⟨putO (put s.fr t (.raw (.bool (!b)))) o.dst (.raw Go.undef), s.h⟩) : AG P base nt w0 ((o, some (some t, b)) :: rest) Q s := by
  intro Z z pl a w r bb
  have hr := r.fr t
  rw [hx] at hr
  have hv := inv_raw hr
  have hb := boolAt_of hv
  simp only [wpG, wantedG, hb]
  by_cases hxb : x = b
  · have := h1 hxb Z z pl a w (r.tell (by rw [hv, hxb]; exact .cl _ _ (.raw _))) bb
    simp only [wpG, wantedG, if_true] at this
    rw [if_pos (by simp [hxb])]
    exact this
  · have hxn : x = (!b) := by cases x <;> cases b <;> simp_all
    rw [if_neg (by simp [hxb])]
    have r2 : Rel Z base nt ⟨put s.fr t (.raw (.bool (!b))), s.h⟩ pl a w := r.tell (by rw [hv, hxn]; exact .cl _ _ (.raw _))
    exact h2 hxn Z z pl _ w (r2.skip (ht.resolve_right hxb)) bb
theorem AG_pass {o : Oper} {rest : List (Oper × G)} {s : St} {g : Option Nat × Bool} (hg : g.1 = none ∨ ∃ t vs, g.1 = some t ∧ get s.fr t = .raw (.tuple vs)) (ht : okO nt o.dst = true) (h : AG P base nt w0 rest Q ⟨putO s.fr o.dst (.raw Go.undef), s.h⟩) : AG P base nt w0 ((o, some g) :: rest) Q s := by
  intro Z z pl a w r bb
  obtain ⟨g1, b⟩ := g
  have : wantedG (some (g1, b)) a.tmps = false := by
    rcases hg with rfl | ⟨t, vs, rfl, hx⟩
    · rfl
    · have hr := r.fr t
      rw [hx] at hr
      simp [wantedG, boolAt_tuple (inv_raw hr)]
  simp only [wpG, this, Bool.false_eq_true, if_false]
  exact h Z z pl _ w (r.skip ht) bb

theorem exec_ok {X : Cx} (hX : CxOk P X) (hbase : base ≤ w0.w.heap.size) : ∀ (n : Nat) (k : List Item) (s : St), (exec X nt n k s).holds P base nt w0 Q → kont P base nt w0 Q k .normal s
  | 0, k, s, h => by cases k <;> exact h
  | n + 1, [], s, h => h
  | n + 1, .inBlock id :: k, s, h => by
    simp only [exec] at h
    simp only [kont]
    exact exec_ok hX hbase n k s h
  | n + 1, .inScope :: k, s, h => by
    simp only [exec] at h
    simp only [kont]
    exact exec_ok hX hbase n k s h
  | n + 1, .code c :: k, s, h => by
    cases c with
    | skip => simp only [exec] at h; have := exec_ok hX hbase n k s h; simp only [kont]; exact fun Z z pl a w r b => wp_skip ⟨s, pl, this, r, b⟩
    | label l => simp only [exec] at h; have := exec_ok hX hbase n k s h; simp only [kont]; exact fun Z z pl a w r b => wp_label ⟨s, pl, this, r, b⟩
    | seq x y => simp only [exec] at h; exact kont_seq (exec_ok hX hbase n _ s h)
    | block id c => simp only [exec] at h; exact kont_block (exec_ok hX hbase n _ s h)
    | cond c x y =>
      simp only [exec] at h
      split at h
      · rename_i b hb
        exact kont_cond hb (fun e => exec_ok hX hbase n _ s (h.1 e)) (fun e => exec_ok hX hbase n _ s (h.2 e))
      · exact h.elim
    | exit id =>
      simp only [exec] at h
      simp only [kont]
      split at h
      · rename_i k' hk
        have := kont_exit hk (exec_ok hX hbase n k' s h)
        exact fun Z z pl a w r b => wp_exit ⟨s, pl, this, r, b⟩
      · rename_i hk
        have := kont_exit_none (P := P) (base := base) (nt := nt) (w0 := w0) hk h
        exact fun Z z pl a w r b => wp_exit ⟨s, pl, this, r, b⟩
    | ret =>
      simp only [exec] at h
      simp only [kont]
      exact fun Z z pl a w r b => wp_ret ⟨s, pl, kont_ret h, r, b⟩
    | region id ops dr =>
      simp only [exec] at h
      cases dr
      · have := exec_ok hX hbase n _ s h
        simp only [kont] at this ⊢
        exact fun Z z pl a w r b => wpG_region (this Z z pl a w r b)
      · exact h
    | loop c => exact h
    | rangeFunc f ps a b => exact h
    | scope b => simp only [exec] at h; exact kont_scope (exec_ok hX hbase n _ s h)
    | goto l => exact h
    | refuse w => exact h
  | n + 1, .ops [] :: k, s, h => by
    simp only [exec] at h
    simp only [kont]
    have := exec_ok hX hbase n k s h
    exact fun Z z pl a w r b => ⟨s, pl, this, r, b⟩
  | n + 1, .ops ((o, g) :: r) :: k, s, h => by
    have pr : ∀ s', okO nt o.dst = true ∨ True → (exec X nt n (.ops r :: k) s').holds P base nt w0 Q → AG P base nt w0 r (kont P base nt w0 Q k) s' := fun s' _ hh => by
      have := exec_ok hX hbase n (.ops r :: k) s' hh
      simpa only [kont] using this
    cases g with
    | none =>
      simp only [exec] at h
      simp only [kont]
      split at h
      · rename_i p d hp
        cases ht : okO nt o.dst
        · rw [ht] at h; exact h.elim
        · rw [ht] at h
          exact AG_pure (pstep_ok hX hp h.1) ht (pr _ (.inl ht) h.2)
      · split at h
        · rename_i p h' d hp
          cases ht : okO nt o.dst
          · rw [ht] at h; exact h.elim
          · rw [ht] at h
            exact AG_eff hbase (estep_ok hX hp h.1) ht (pr _ (.inl ht) h.2)
        · simpa only [Tree.holds, kont] using h
    | some g =>
      obtain ⟨g1, b⟩ := g
      cases g1 with
      | none =>
        simp only [exec] at h
        simp only [kont]
        cases ht : okO nt o.dst
        · rw [ht] at h; exact h.elim
        · rw [ht] at h
          exact AG_pass (.inl rfl) ht (pr _ (.inl ht) h)
      | some t =>
        simp only [exec] at h
        simp only [kont]
        split at h
        · rename_i x hx
          simp only [Tree.holds, beqB_iff, beq_iff_eq, beq_eq_false_iff_ne, ne_eq] at h
          have h3 := fun e => exec_ok hX hbase n _ _ (h.1 e)
          simp only [kont] at h3
          refine AG_guard hx ?_ h3 fun e => ?_
          · by_cases hxb : x = b
            · exact .inr hxb
            · have := h.2 hxb
              cases ht : okO nt o.dst
              · rw [ht] at this; exact this.elim
              · exact .inl rfl
          · have := h.2 (by rw [e]; cases b <;> simp)
            cases ht : okO nt o.dst
            · rw [ht] at this; exact this.elim
            · rw [ht] at this; exact pr _ (.inl ht) this
        · rename_i vs hx
          cases ht : okO nt o.dst
          · rw [ht] at h; exact h.elim
          · rw [ht] at h
            exact AG_pass (.inr ⟨t, _, rfl, hx⟩) ht (pr _ (.inl ht) h)
        · exact h.elim
end
end Go.Fg
namespace Go.Fg
set_option linter.unusedSimpArgs false
set_option linter.unusedVariables false
open Go.RowKit (Below)
variable {Z : Nat → Prop}

mutual
def D.shift (k : Nat) : D → D
  | .ref l g off len => .ref (k + l) g off len
  | .ptr l g i j => .ptr (k + l) g i j
  | .mref l g => .mref (k + l) g
  | .clo f nf cs => .clo f nf (shiftL k cs)
  | .agg cs => .agg (shiftL k cs)
  | .tup cs => .tup (shiftL k cs)
  | d => d
def shiftL (k : Nat) : List D → List D
  | [] => []
  | c :: cs => c.shift k :: shiftL k cs
end
def Ob.shift (k : Nat) (o : Ob) : Ob := { o with row := fun i => shiftL k (o.row i) }

theorem shiftL_length (k : Nat) : ∀ cs : List D, (shiftL k cs).length = cs.length
  | [] => rfl
  | _ :: cs => by simp [shiftL, shiftL_length k cs]
theorem nth_shiftL (k : Nat) : ∀ (cs : List D) (i : Nat), i < cs.length → nth (shiftL k cs) i = (nth cs i).shift k
  | [], i, h => by simp at h
  | c :: cs, 0, _ => by simp [shiftL, nth]
  | c :: cs, i + 1, h => by
    have := nth_shiftL k cs i (by simpa using h)
    simpa [shiftL, nth] using this

/-- The callee's objects behind the caller's. -/
theorem RelV.join {Zc : Nat → Prop} {h h' : List Ob} {pl pl' : List Pl} {w : World} (hl : pl.length = h.length) (hf : ∀ b, free Zc pl' b → free Z (pl ++ pl') b) {d : D} {v : Value} (r : RelV Zc h' pl' w d v) :
    RelV Z (h ++ h'.map (Ob.shift h.length)) (pl ++ pl') w (d.shift h.length) v := by
  have hob : ∀ (l : Nat) (o : Ob), h'[l]? = some o → (h ++ h'.map (Ob.shift h.length))[h.length + l]? = some (o.shift h.length) := fun l o e => by
    rw [List.getElem?_append_right (by omega)]; simp [e]
  have hpl : ∀ (l : Nat) (p : Pl), pl'[l]? = some p → (pl ++ pl')[h.length + l]? = some p := fun l p e => by
    rw [List.getElem?_append_right (by omega), hl]; simp [e]
  have hcl : ∀ (d : D) (v : Value), Cl (free Zc pl') w d v → RelV Z (h ++ h'.map (Ob.shift h.length)) (pl ++ pl') w (d.shift h.length) v := by
    intro d v hc
    have hc2 := hc.mono (N' := free Z (pl ++ pl')) (w' := w) (fun b hb _ => ⟨hf b hb, rfl⟩)
    clear hc
    induction hc2 with
    | raw v => exact .cl _ _ (.raw v)
    | undef v => exact .cl _ _ (.undef v)
    | nil a => exact .cl _ _ (.nil a)
    | imm sz n row a cap b o vs ha hl hs hc hr ih => exact .cl _ _ (.imm sz n row a cap b o vs ha hl hs hc hr)
    | ip cells b o vs hc hr ih => exact .cl _ _ (.ip cells b o vs hc hr)
    | clo f nf cs vs hl hr ih => exact .clo f nf _ vs (by rw [shiftL_length]; exact hl) (fun i hi => by rw [shiftL_length] at hi; rw [nth_shiftL _ _ _ hi]; exact ih i hi)
    | agg cs vs hl hr ih => exact .agg _ vs (by rw [shiftL_length]; exact hl) (fun i hi => by rw [shiftL_length] at hi; rw [nth_shiftL _ _ _ hi]; exact ih i hi)
    | tup cs vs hl hr ih => exact .tup _ vs (by rw [shiftL_length]; exact hl) (fun i hi => by rw [shiftL_length] at hi; rw [nth_shiftL _ _ _ hi]; exact ih i hi)
  induction r with
  | cl d v hc => exact hcl d v hc
  | ref l g off len o p a cap ho hp hk hg hs => exact .ref _ g off len _ p a cap (hob l o ho) (hpl l p hp) hk hg hs
  | ptr l g i j o p a ho hp hk hg hs => exact .ptr _ g i j _ p a (hob l o ho) (hpl l p hp) hk hg hs
  | mref l g o p b ho hp hk hg hs => exact .mref _ g _ p b (hob l o ho) (hpl l p hp) hk hg hs
  | clo f nf cs vs hl hr ih => exact .clo f nf _ vs (by rw [shiftL_length]; exact hl) (fun i hi => by rw [shiftL_length] at hi; rw [nth_shiftL _ _ _ hi]; exact ih i hi)
  | agg cs vs hl hr ih => exact .agg _ vs (by rw [shiftL_length]; exact hl) (fun i hi => by rw [shiftL_length] at hi; rw [nth_shiftL _ _ _ hi]; exact ih i hi)
  | tup cs vs hl hr ih => exact .tup _ vs (by rw [shiftL_length]; exact hl) (fun i hi => by rw [shiftL_length] at hi; rw [nth_shiftL _ _ _ hi]; exact ih i hi)

theorem Tr.join {base : Nat} {h h' : List Ob} {pl pl' : List Pl} {w w' : World} (R : RelO Z base h pl w) (hb : Below w.heap.size w w') (hnew : ∀ (l b q : Nat), pl'[l]? = some (some (b, q)) → w.heap.size ≤ b) :
    Tr h pl w (h ++ h') (pl ++ pl') w' where
  old := fun b hfr hlt => by
    refine ⟨fun l q e => ?_, hb.block b hlt⟩
    by_cases hl : l < pl.length
    · rw [List.getElem?_append_left hl] at e; exact hfr l q e
    · rw [List.getElem?_append_right (by omega)] at e
      have := hnew _ _ _ e; omega
  obj := fun l o p ho hp => ⟨o, p, by rw [List.getElem?_append_left (lt_of_some ho)]; exact ho, by rw [List.getElem?_append_left (ltp_of_some hp)]; exact hp, Nat.le_refl _, rfl, fun _ => ⟨rfl, rfl⟩⟩
  shape := fun l o o' b q ho ho' hg hp c el hbb => ⟨c, by rw [hb.block b (R.lt hp).1]; exact hbb, rfl⟩

theorem RelO.join {Zc : Nat → Prop} {base : Nat} {h h' : List Ob} {pl pl' : List Pl} {w w' : World} (R : RelO Z base h pl w) (hbase : base ≤ w.heap.size) (hb : Below w.heap.size w w') (R' : RelO Zc w.heap.size h' pl' w')
    (hf : ∀ b, free Zc pl' b → free Z (pl ++ pl') b) (hnew : ∀ (l b q : Nat), pl'[l]? = some (some (b, q)) → w.heap.size ≤ b) : RelO Z base (h ++ h'.map (Ob.shift h.length)) (pl ++ pl') w' := by
  have T := Tr.join (h' := h'.map (Ob.shift h.length)) R hb hnew
  refine ⟨by simp [R.len, R'.len], ?_, ?_, ?_⟩
  · intro l l' b q q' e1 e2
    by_cases h1 : l < pl.length <;> by_cases h2 : l' < pl.length
    · rw [List.getElem?_append_left h1] at e1; rw [List.getElem?_append_left h2] at e2; exact R.inj _ _ _ _ _ e1 e2
    · rw [List.getElem?_append_left h1] at e1; rw [List.getElem?_append_right (by omega)] at e2
      have := (R.lt e1).1; have := hnew _ _ _ e2; omega
    · rw [List.getElem?_append_right (by omega)] at e1; rw [List.getElem?_append_left h2] at e2
      have := (R.lt e2).1; have := hnew _ _ _ e1; omega
    · rw [List.getElem?_append_right (by omega)] at e1 e2
      have := R'.inj _ _ _ _ _ e1 e2; omega
  · intro l o ho hp
    by_cases h1 : l < h.length
    · rw [List.getElem?_append_left h1] at ho
      rw [List.getElem?_append_left (by rw [R.len]; exact h1)] at hp
      exact R.noRow l o ho hp
    · rw [List.getElem?_append_right (by omega)] at ho
      rw [List.getElem?_append_right (by rw [R.len]; omega), R.len] at hp
      simp only [List.getElem?_map, Option.map_eq_some_iff] at ho
      obtain ⟨o', ho', rfl⟩ := ho
      exact R'.noRow _ o' ho' hp
  · intro l o b q ho hp
    by_cases h1 : l < h.length
    · rw [List.getElem?_append_left h1] at ho
      rw [List.getElem?_append_left (by rw [R.len]; exact h1)] at hp
      obtain ⟨g1, x⟩ := R.at_ l o b q ho hp
      exact ⟨g1, x.to rfl rfl rfl (hb.block b (R.lt hp).1) (fun _ _ => rfl) fun i j v _ _ hr => hr.tr T⟩
    · rw [List.getElem?_append_right (by omega)] at ho
      rw [List.getElem?_append_right (by rw [R.len]; omega), R.len] at hp
      simp only [List.getElem?_map, Option.map_eq_some_iff] at ho
      obtain ⟨o', ho', rfl⟩ := ho
      obtain ⟨g1, x⟩ := R'.at_ _ o' b q ho' hp
      refine ⟨fun _ => by have := hnew _ _ _ hp; omega, x.to rfl rfl rfl rfl (fun i _ => shiftL_length _ _) fun i j v hi hj hr => ?_⟩
      show RelV Z _ _ _ (nth (shiftL _ (o'.row i)) j) v
      rw [nth_shiftL _ _ _ hj]
      exact hr.join R.len hf

/-! Contracts. -/
/-- Called with objects F lent, and with values that read so, function f returns what meets R: a value and objects, those that were lent first; nothing else changes. -/
def MFn (P : Program) (f : FuncId) (F : List Ob) (args : List D) (R : D → List Ob → Prop) : Prop :=
  ∀ (Z : Nat → Prop) (base : Nat) (w : World) (pl : List Pl) (vs : List Value), base ≤ w.heap.size → (∀ b, w.heap.size ≤ b → Z b) → RelO Z base F pl w →
    vs.length = args.length → (∀ i, i < args.length → RelV Z F pl w (nth args i) (nthV vs i)) →
    Calls P f vs.toArray w fun e w' => ∃ v d h pl', e = .returned v ∧ R d h ∧ RelO Z base h pl' w' ∧ RelV Z h pl' w' d v ∧ Tr F pl w h pl' w' ∧ Below base w w'
theorem MFn.mono {P : Program} {f : FuncId} {F : List Ob} {args : List D} {R R' : D → List Ob → Prop} (h : MFn P f F args R) (hr : ∀ d h, R d h → R' d h) : MFn P f F args R' := fun Z base w pl vs h1 h2 h3 h4 h5 =>
  (h Z base w pl vs h1 h2 h3 h4 h5).mono fun _ _ ⟨v, d, hh, pl', k1, k2, k3⟩ => ⟨v, d, hh, pl', k1, hr _ _ k2, k3⟩
/-- The same with nothing lent: what was there is ens it was. -/
def AFn (P : Program) (f : FuncId) (args : List D) (R : D → List Ob → Prop) : Prop := MFn P f [] args R
theorem AFn.mono {P : Program} {f : FuncId} {args : List D} {R R' : D → List Ob → Prop} (h : AFn P f args R) (hr : ∀ d h, R d h → R' d h) : AFn P f args R' := MFn.mono h hr

def initFr : List D → Nat → List (Nat × D)
  | [], _ => []
  | d :: r, i => (i, d) :: initFr r (i + 1)
theorem get_initFr : ∀ (args : List D) (i t : Nat), get (initFr args i) t = if i ≤ t then nth args (t - i) else .undef
  | [], i, t => by simp [initFr, get, nth]
  | d :: r, i, t => by
    simp only [initFr, get]
    by_cases h : i = t
    · subst h; simp [nth]
    · have : Nat.beq i t = false := by rw [← Bool.not_eq_true, Nat.beq_eq]; exact h
      rw [this]
      simp only [cond_false]
      rw [get_initFr r (i + 1) t]
      by_cases h2 : i + 1 ≤ t
      · rw [if_pos h2, if_pos (by omega)]
        obtain ⟨m, rfl⟩ : ∃ m, t = i + (m + 1) := ⟨t - i - 1, by omega⟩
        rw [show i + (m + 1) - (i + 1) = m by omega, show i + (m + 1) - i = m + 1 by omega]
        simp [nth]
      · rw [if_neg h2, if_neg (by omega)]

/-- What a function hands back. -/
def resD (L : Lay) (s : St) : List ResultVar → Option (Prop × List D)
  | [] => some (True, [])
  | .tmp t :: r => match resD L s r with
    | some (p, ds) => some (p, get s.fr t :: ds)
    | none => none
  | .cell a ty :: r => match pload L s.h ty (get s.fr a), resD L s r with
    | some (q, d), some (p, ds) => some (q ∧ p, d :: ds)
    | _, _ => none
def one : List D → D
  | [d] => d
  | ds => .tup ds
/-- The post of a body: at its end the results meet R. -/
def Post (L : Lay) (rs : List ResultVar) (R : D → List Ob → Prop) : Exit → St → Prop
  | .normal, s | .ret, s => match resD L s rs with
    | some (p, ds) => p ∧ R (one ds) s.h
    | none => False
  | _, _ => False

def resV (tmps : Array Value) : ResultVar → Sem Value
  | .tmp t => pure (tmps.getD t Go.undef)
  | .cell x t => do loadVar t (← asAddr (tmps.getD x Go.undef))
theorem results_eq (fn : Func) (tmps : Array Value) : results fn tmps = (do let vs ← fn.results.mapM (resV tmps); pure (if h : vs.size = 1 then vs[0] else .tuple vs)) := by
  unfold results
  congr 2
theorem run_resD {P : Program} {L : Lay} (hL : LayOk P L) {base nt : Nat} {s : St} {pl : List Pl} {a : Act} {w : World} (r : Rel Z base nt s pl a w) : ∀ (rs : List ResultVar) (p : Prop) (ds : List D), resD L s rs = some (p, ds) → p →
    ∃ vs : List Value, vs.length = ds.length ∧ (∀ i, i < ds.length → RelV Z s.h pl w (nth ds i) (nthV vs i)) ∧
      (rs.mapM (resV a.tmps)).run P w = .ok vs w
  | [], p, ds, h, _ => by simp [resD] at h; obtain ⟨_, rfl⟩ := h; exact ⟨[], rfl, fun i hi => by simp at hi, by simp⟩
  | .tmp t :: rs, p, ds, h, hp => by
    simp only [resD] at h
    split at h
    · rename_i q ds' hr
      simp only [Option.some.injEq, Prod.mk.injEq] at h
      obtain ⟨rfl, rfl⟩ := h
      obtain ⟨vs, h1, h2, h3⟩ := run_resD hL r rs _ _ hr hp
      refine ⟨a.tmps.getD t Go.undef :: vs, by simp [h1], fun i hi => ?_, by simp [List.mapM_cons, resV, h3]⟩
      cases i with
      | zero => exact r.fr t
      | succ i => have := h2 i (by simpa using hi); simpa [nth, nthV] using this
    · cases h
  | .cell x t :: rs, p, ds, h, hp => by
    simp only [resD] at h
    split at h
    · rename_i q d p' ds' hl hr
      simp only [Option.some.injEq, Prod.mk.injEq] at h
      obtain ⟨rfl, rfl⟩ := h
      obtain ⟨vs, h1, h2, h3⟩ := run_resD hL r rs _ _ hr hp.2
      -- the load, by a load's own law
      have ho := load_ok (P := P) (base := base) (nt := nt) (s := s) (o := ⟨none, .load t (.tmp x), 0, "", #[], none⟩) hL (t := t) (x := .tmp x) rfl hl hp.1
      obtain ⟨v, hv, hrun⟩ := ho Z pl a w r
      have hrun := hrun w (fun _ _ => rfl)
      refine ⟨v :: vs, by simp [h1], fun i hi => ?_, ?_⟩
      · cases i with
        | zero => exact hv
        | succ i => have := h2 i (by simpa using hi); simpa [nth, nthV] using this
      · have hx := r.fr x
        have hld : (resV a.tmps (.cell x t)).run P w = .ok v w := by
          simp only [execOp, Act.eval, Instr.loadAt, Sem.run_bind] at hrun
          simp only [resV]
          have hptr : ∃ ad, a.tmps.getD x Go.undef = .pointer (some ad) := by
            unfold pload at hl
            split at hl
            · cases hl
            · split at hl
              · rename_i hg; rw [hg] at hx; obtain ⟨_, _, ad, hv, _⟩ := inv_ptr hx; exact ⟨_, hv⟩
              · rename_i hg; rw [hg] at hx; obtain ⟨_, _, _, hv, _⟩ := inv_ip hx; exact ⟨_, hv⟩
              · cases hl
          obtain ⟨ad, had⟩ := hptr
          rw [had] at hrun ⊢
          simp only [Instr.sureAddr, asAddr, Sem.run_bind, Sem.run_pure, Result.andThen_ok] at hrun ⊢
          generalize (loadVar t ad).run P w = r1 at *
          cases r1 with
          | ok u w1 => simp only [Result.andThen_ok] at hrun; cases hrun; rfl
          | halt x w1 => simp only [Result.andThen_halt] at hrun; cases hrun
        simp [List.mapM_cons, hld, h3]
    · cases h

theorem MFn_of {P : Program} {L : Lay} (hL : LayOk P L) {f : FuncId} {fn : Func} {c : Code} (hf : P.funcs[f]? = some fn) (hb : fn.body = some c) {F : List Ob} {args : List D} {R : D → List Ob → Prop} (hn : args.length ≤ fn.ntmps)
    (h : ∀ (base : Nat) (w : World) (pl : List Pl), base ≤ w.heap.size → pl.length = F.length → A P base fn.ntmps ⟨w, F, pl⟩ c (Post L fn.results.toList R) ⟨initFr args 0, F⟩) : MFn P f F args R := by
  intro Z base w pl vs hbase hZ hO hl hc
  refine calls_of_wp hf hb ?_
  have hrel : Rel Z base fn.ntmps ⟨initFr args 0, F⟩ pl { tmps := vs.toArray ++ Array.replicate (fn.ntmps - vs.toArray.size) Go.undef, defers := [] } w := by
    refine ⟨by simp; omega, rfl, fun t => ?_, hO⟩
    rw [get_initFr]
    simp only [Nat.zero_le, if_true, Nat.sub_zero]
    by_cases ht : t < args.length
    · have := hc t ht
      have e : (vs.toArray ++ Array.replicate (fn.ntmps - vs.toArray.size) Go.undef).getD t Go.undef = nthV vs t := by
        rw [Array.getD_eq_getD_getElem?, Array.getElem?_append_left (by simp; omega)]
        simp [nthV, List.getD_eq_getElem?_getD]
      rw [e]
      exact this
    · have : nth args t = .undef := by simp [nth, List.getD_eq_getElem?_getD, List.getElem?_eq_none (Nat.le_of_not_lt ht)]
      rw [this]
      exact .cl _ _ (.undef _)
  refine wp_mono (h base w pl hbase hO.len _ trivial pl _ w hrel ⟨Below.refl _ _, Tr.refl _ _ _, ZIn.start (w0 := ⟨w, F, pl⟩) hO hZ⟩) fun e a' w' hh => ?_
  obtain ⟨s', pl', hq, r', hbl, hT, _⟩ := hh
  have fin : (match resD L s' fn.results.toList with | some (p, ds) => p ∧ R (one ds) s'.h | none => False) → a'.defers = [] ∧ ∃ v, (results fn a'.tmps).run P w' = .ok v w' ∧
      ∃ v1 d h pl', Ending.returned v = .returned v1 ∧ R d h ∧ RelO Z base h pl' w' ∧ RelV Z h pl' w' d v1 ∧ Tr F pl w h pl' w' ∧ Below base w w' := by
    intro hm
    split at hm
    · rename_i p ds hres
      obtain ⟨vs', h1, h2, h3⟩ := run_resD hL r' _ _ _ hres hm.1
      have hrun : (fn.results.mapM (resV a'.tmps)).run P w' = .ok vs'.toArray w' := by
        rw [Array.mapM_eq_mapM_toList]
        simp only [Sem.run_map, h3, Result.andThen_ok]
      refine ⟨r'.defers, ?_⟩
      have hsz : vs'.toArray.size = vs'.length := by simp
      match ds, vs', h1, h2, hrun, hm with
      | [d], [v], _, h2, hrun, hm =>
        refine ⟨v, ?_, v, d, s'.h, pl', rfl, hm.2, r'.o, h2 0 (by simp), hT, hbl⟩
        rw [results_eq]; simp only [Sem.run_bind]
        rw [hrun]; simp
      | [], [], _, h2, hrun, hm =>
        refine ⟨.tuple #[], ?_, _, _, s'.h, pl', rfl, hm.2, r'.o, .tup [] [] rfl (fun i hi => by simp at hi), hT, hbl⟩
        rw [results_eq]; simp only [Sem.run_bind]
        rw [hrun]; simp
      | d :: d2 :: ds, v :: v2 :: vs, h1, h2, hrun, hm =>
        refine ⟨.tuple (v :: v2 :: vs).toArray, ?_, _, _, s'.h, pl', rfl, hm.2, r'.o, .tup _ _ h1 h2, hT, hbl⟩
        rw [results_eq]; simp only [Sem.run_bind]
        rw [hrun]; simp
      | [], _ :: _, h1, _, _, _ => simp at h1
      | [_], [], h1, _, _, _ => simp at h1
      | [_], _ :: _ :: _, h1, _, _, _ => simp at h1
      | _ :: _ :: _, [], h1, _, _, _ => simp at h1
      | _ :: _ :: _, [_], h1, _, _, _ => simp at h1
    · exact hm.elim
  cases e with
  | normal => exact fin hq
  | ret => exact fin hq
  | exit id => exact hq.elim
  | goto l => exact hq.elim
  | panic ch => exact hq.elim
  | outgrown => exact hq.elim
end Go.Fg
