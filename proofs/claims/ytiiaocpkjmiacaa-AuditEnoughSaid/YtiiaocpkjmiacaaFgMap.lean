/- Maps whose keys are integers: what is found in one, and what becomes of one. No conditions: laws. -/
import Derived.Test.YtiiaocpkjmiacaaFgQuiet
import Derived.Maps.RangeRun
namespace Go.Fg
set_option linter.unusedSimpArgs false
set_option linter.unusedVariables false
open Go.RowKit (Below)
open Go.Instr
/-- Entries whose keys are integers of a kind. -/
def IntKeys (q : IntKind) (es : List MapEntry) : Prop := ∀ e ∈ es, ∃ n, e.key = .int q n
theorem findNow_miss {q : IntKind} {k : Int} : ∀ {es : List MapEntry} {i : Nat}, IntKeys q es → (∀ e ∈ es, e.key ≠ .int q k) → findNow (.int q) (.int q k) es i = some none
  | [], _, _, _ => rfl
  | e :: es, i, h, hn => by
    obtain ⟨n, hk⟩ := h e (List.mem_cons_self ..)
    have hne : (k == n) = false := by
      rw [beq_eq_false_iff_ne]
      rintro rfl
      exact hn e (List.mem_cons_self ..) hk
    simp only [findNow, hk, sameNow, if_true, hne]
    exact findNow_miss (fun e he => h e (List.mem_cons_of_mem _ he)) (fun e he => hn e (List.mem_cons_of_mem _ he))
theorem findNow_hit {q : IntKind} {k : Int} : ∀ {es : List MapEntry} {i0 i : Nat} {e : MapEntry}, IntKeys q es → es[i]? = some e → e.key = .int q k → (∀ (j : Nat) (e' : MapEntry), j < i → es[j]? = some e' → e'.key ≠ .int q k) →
    findNow (.int q) (.int q k) es i0 = some (some (i0 + i, e.val))
  | [], _, _, _, _, h, _, _ => by simp at h
  | x :: es, i0, i, e, hI, h, hk, hn => by
    obtain ⟨n, hx⟩ := hI x (List.mem_cons_self ..)
    cases i with
    | zero =>
      simp at h; subst h
      rw [hx] at hk
      obtain rfl : n = k := by simpa using hk
      simp [findNow, hx, sameNow]
    | succ i =>
      have hne : (k == n) = false := by
        rw [beq_eq_false_iff_ne]
        rintro rfl
        exact hn 0 x (by omega) rfl hx
      simp only [findNow, hx, sameNow, if_true, hne]
      rw [findNow_hit (i0 := i0 + 1) (fun e he => hI e (List.mem_cons_of_mem _ he)) (by simpa using h) hk (fun j e' hj he => hn (j + 1) e' (by omega) (by simpa using he))]
      simp; omega
section
variable {P : Program} {w : World} {q : IntKind} {k : Int}
theorem checkKey_int {kt : TypeId} (hk : P.underlying kt = some (.int q)) (em : Bool) (n : Nat) : (checkKey em (n + 1) kt (.int q k)).run P w = .ok () w := by
  simp [checkKey, underlying, hk]
theorem findKey_run {kt : TypeId} (hk : P.underlying kt = some (.int q)) {es : List MapEntry} {r : Option (Nat × Value)} (h : findNow (.int q) (.int q k) es 0 = some r) : (findKey kt (.int q k) es).run P w = .ok r w := by
  simp [findKey, underlying, hk, h]
theorem getObj_run {α : Type} {b : Nat} {es : Array MapEntry} {clock : Nat} (hb : w.heap[b]? = some (.map es clock)) (c : Obj → Sem α) : (Sem.getObj b c).run P w = (c (.map es clock)).run P w := by
  simp only [Sem.run, hb]
theorem lookup_hit_run {xt kt et : TypeId} {b : Nat} {es : Array MapEntry} {clock : Nat} (hx : P.underlying xt = some (.map kt et)) (hk : P.underlying kt = some (.int q)) (hb : w.heap[b]? = some (.map es clock)) (hI : IntKeys q es.toList)
    {i : Nat} {e : MapEntry} (hi : es[i]? = some e) (he : e.key = .int q k) (hn : ∀ (j : Nat) (e' : MapEntry), j < i → es[j]? = some e' → e'.key ≠ .int q k) :
    (lookup xt (.map (some b)) (.int q k) true).run P w = .ok (.tuple #[e.val, .bool true]) w := by
  have h := findNow_hit (i0 := 0) hI (by simpa using hi) he (fun j e' hj hj' => hn j e' hj (by simpa using hj'))
  have h2 := findKey_run (P := P) (w := w) hk h
  have h3 := checkKey_int (P := P) (w := w) (k := k) hk es.isEmpty 9999
  simp [lookup, underlying, hx, getObj, getObj_run hb, h2, h3]
theorem lookup_miss_run {xt kt et : TypeId} {b : Nat} {es : Array MapEntry} {clock : Nat} (hx : P.underlying xt = some (.map kt et)) (hk : P.underlying kt = some (.int q)) (hb : w.heap[b]? = some (.map es clock)) (hI : IntKeys q es.toList)
    (hn : ∀ e ∈ es.toList, e.key ≠ .int q k) {z : Value} (hz : (zeroValue et).run P w = .ok z w) :
    (lookup xt (.map (some b)) (.int q k) true).run P w = .ok (.tuple #[z, .bool false]) w := by
  have h2 := findKey_run (P := P) (w := w) hk (findNow_miss (i := 0) hI hn)
  have h3 := checkKey_int (P := P) (w := w) (k := k) hk es.isEmpty 9999
  simp [lookup, underlying, hx, getObj, getObj_run hb, h2, h3, hz]
theorem setObj_run {α : Type} {b : Nat} {es : Array MapEntry} {clock : Nat} (hb : w.heap[b]? = some (.map es clock)) (o : Obj) (c : Sem α) : (Sem.setObj b o c).run P w = c.run P { w with heap := w.heap.setIfInBounds b o } := by
  simp only [Sem.run, hb]
theorem update_hit_run {xt kt et : TypeId} {b : Nat} {es : Array MapEntry} {clock : Nat} (hx : P.underlying xt = some (.map kt et)) (hk : P.underlying kt = some (.int q)) (hb : w.heap[b]? = some (.map es clock)) (hI : IntKeys q es.toList)
    {i : Nat} {e : MapEntry} (hi : es[i]? = some e) (he : e.key = .int q k) (hn : ∀ (j : Nat) (e' : MapEntry), j < i → es[j]? = some e' → e'.key ≠ .int q k) (v : Value) :
    (mapUpdate xt (.map (some b)) (.int q k) v).run P w = .ok () { w with heap := w.heap.setIfInBounds b (.map (es.modify i fun e => { e with key := .int q k, val := v }) clock) } := by
  have h := findNow_hit (i0 := 0) hI (by simpa using hi) he (fun j e' hj hj' => hn j e' hj (by simpa using hj'))
  have h2 := findKey_run (P := P) (w := w) hk h
  have h3 := checkKey_int (P := P) (w := w) (k := k) hk false 9999
  simp [mapUpdate, underlying, hx, getObj, getObj_run hb, h2, h3, hi, he, keyThatStays, sameBits, setObj, setObj_run hb]
theorem update_miss_run {xt kt et : TypeId} {b : Nat} {es : Array MapEntry} {clock : Nat} (hx : P.underlying xt = some (.map kt et)) (hk : P.underlying kt = some (.int q)) (hb : w.heap[b]? = some (.map es clock)) (hI : IntKeys q es.toList)
    (hn : ∀ e ∈ es.toList, e.key ≠ .int q k) (v : Value) :
    (mapUpdate xt (.map (some b)) (.int q k) v).run P w = .ok () { w with heap := w.heap.setIfInBounds b (.map (es.push { key := .int q k, val := v, born := clock }) (clock + 1)) } := by
  have h2 := findKey_run (P := P) (w := w) hk (findNow_miss (i := 0) hI hn)
  have h3 := checkKey_int (P := P) (w := w) (k := k) hk false 9999
  simp [mapUpdate, underlying, hx, getObj, getObj_run hb, h2, h3, setObj, setObj_run hb]
theorem delete_hit_run {xt kt et ty kt2 : TypeId} {b : Nat} {es : Array MapEntry} {clock : Nat} (hx : P.underlying xt = some (.map kt et)) (hk : P.underlying kt = some (.int q)) (hb : w.heap[b]? = some (.map es clock)) (hI : IntKeys q es.toList)
    {i : Nat} {e : MapEntry} (hi : es[i]? = some e) (he : e.key = .int q k) (hn : ∀ (j : Nat) (e' : MapEntry), j < i → es[j]? = some e' → e'.key ≠ .int q k) :
    (Builtin.delete_ #[xt, kt2] ty #[.map (some b), .int q k]).run P w = .ok (.tuple #[]) { w with heap := w.heap.setIfInBounds b (.map (es.eraseIdxIfInBounds i) clock) } := by
  have h := findNow_hit (i0 := 0) hI (by simpa using hi) he (fun j e' hj hj' => hn j e' hj (by simpa using hj'))
  have h2 := findKey_run (P := P) (w := w) hk h
  have h3 := checkKey_int (P := P) (w := w) (k := k) hk es.isEmpty 9999
  simp [Builtin.delete_, underlying, hx, getObj, getObj_run hb, h2, h3, setObj, setObj_run hb]
theorem delete_miss_run {xt kt et ty kt2 : TypeId} {b : Nat} {es : Array MapEntry} {clock : Nat} (hx : P.underlying xt = some (.map kt et)) (hk : P.underlying kt = some (.int q)) (hb : w.heap[b]? = some (.map es clock)) (hI : IntKeys q es.toList)
    (hn : ∀ e ∈ es.toList, e.key ≠ .int q k) :
    (Builtin.delete_ #[xt, kt2] ty #[.map (some b), .int q k]).run P w = .ok (.tuple #[]) { w with heap := w.heap.setIfInBounds b (.map es clock) } := by
  have h2 := findKey_run (P := P) (w := w) hk (findNow_miss (i := 0) hI hn)
  have h3 := checkKey_int (P := P) (w := w) (k := k) hk es.isEmpty 9999
  simp [Builtin.delete_, underlying, hx, getObj, getObj_run hb, h2, h3, setObj, setObj_run hb]
theorem range_run {xt kt et : TypeId} {b : Nat} {es : Array MapEntry} {clock : Nat} (hx : P.underlying xt = some (.map kt et)) (hb : w.heap[b]? = some (.map es clock)) :
    (Instr.range xt (.map (some b))).run P w = .ok (.pointer (some ⟨w.heap.size, 0, none⟩)) { w with heap := w.heap.push (.mapIter (some b) clock #[] clock) } := by
  simp [Instr.range, underlying, hx, getObj, getObj_run hb, newObj, Sem.run]
theorem entry_run {b it : Nat} {es : Array MapEntry} {clock since : Nat} {seen : Array Nat} (hb : w.heap[b]? = some (.map es clock)) (hi : w.heap[it]? = some (.mapIter (some b) since seen clock))
    {s : Nat} (hs : seen.back? = some s) {e : MapEntry} (he : es.find? (·.born == s) = some e) : (Instr.entry (.pointer (some ⟨it, 0, none⟩))).run P w = .ok (.tuple #[e.key, e.val]) w := by
  simp [Instr.entry, getObj, Sem.run, hb, hi, hs, he]
end
theorem Tr.turn {Z : Nat → Prop} {base : Nat} {h : List Ob} {pl : List Pl} {w w' : World} (R : RelO Z base h pl w) {l : Nat} {o o' : Ob} {b : Nat} (ho : h[l]? = some o) (hp : pl[l]? = some (some (b, 0))) (e : ∀ c, c ≠ b → w'.heap[c]? = w.heap[c]?)
    (hg : o'.gen = o.gen) (hk : o'.kd.ty = o.kd.ty) (hz : o'.sz = o.sz) (hnc : ∀ c el, w.heap[b]? ≠ some (.cells c el (0, 0))) : Tr h pl w (h.set l o') pl w' where
  old := fun c hc _ => ⟨hc, e c (fun h => by subst h; exact hc l 0 hp)⟩
  obj := fun l1 o1 p h1 h2 => by
    by_cases hl : l = l1
    · subst hl
      rw [ho] at h1; cases h1
      exact ⟨o', p, List.getElem?_set_self (lt_of_some ho), h2, by omega, hk, fun _ => ⟨hz, rfl⟩⟩
    · exact ⟨o1, p, by rw [List.getElem?_set_ne hl]; exact h1, h2, Nat.le_refl _, rfl, fun _ => ⟨rfl, rfl⟩⟩
  shape := fun l1 o1 o2 c q h1 h2 _ h3 cs el hc => by
    by_cases hb : c = b
    · subst hb; exact absurd hc (hnc cs el)
    · exact ⟨cs, by rw [e c hb]; exact hc, rfl⟩
theorem RelO.turn {Z : Nat → Prop} {base : Nat} {h : List Ob} {pl : List Pl} {w w' : World} (R : RelO Z base h pl w) {l : Nat} {o o' : Ob} {b : Nat} (ho : h[l]? = some o) (hp : pl[l]? = some (some (b, 0))) (e : ∀ c, c ≠ b → w'.heap[c]? = w.heap[c]?)
    (T : Tr h pl w (h.set l o') pl w') (hx : ObAt Z (h.set l o') pl w' o' b 0) (hro : o'.kd.ro = o.kd.ro) : RelO Z base (h.set l o') pl w' where
  len := by rw [List.length_set]; exact R.len
  inj := R.inj
  noRow := fun l1 o1 h1 h2 => by
    by_cases hl : l = l1
    · subst hl; rw [hp] at h2; cases h2
    · rw [List.getElem?_set_ne hl] at h1; exact R.noRow l1 o1 h1 h2
  at_ := fun l1 o1 c q h1 h2 => by
    by_cases hl : l = l1
    · subst hl
      rw [List.getElem?_set_self (lt_of_some ho)] at h1; cases h1
      rw [hp] at h2; cases h2
      exact ⟨fun hr => (R.at_ l o b 0 ho hp).1 (by rw [← hro, hr]), hx⟩
    · rw [List.getElem?_set_ne hl] at h1
      obtain ⟨g1, x⟩ := R.at_ l1 o1 c q h1 h2
      have hc : c ≠ b := fun h => by subst h; exact hl (R.inj l l1 c 0 q hp h2)
      exact ⟨g1, x.to rfl rfl rfl (e c hc) (fun _ _ => rfl) fun i j v _ _ hr => hr.tr T⟩
/-! Maps as lists of entries. -/
structure Ent where
  k : Int
  v : D
  b : Nat
def mrow (q : IntKind) (c : Nat) (es : List Ent) : Nat → List D
  | 0 => [.raw (.int .i64 c), .undef, .undef]
  | r + 1 => match es[r]? with
    | some e => [.raw (.int q e.k), e.v, .raw (.int .i64 e.b)]
    | none => [.undef, .undef, .undef]
/-- A map of these entries, with this clock. -/
def mapObK (kd : Kd) (q : IntKind) (c : Nat) (es : List Ent) : Ob := ⟨kd, 0, 3, es.length + 1, mrow q c es⟩
def mapOb (q : IntKind) (c : Nat) (es : List Ent) : Ob := mapObK .map q c es
def alook : List Ent → Int → Option D
  | [], _ => none
  | e :: r, k => if e.k = k then some e.v else alook r k
def aput : List Ent → Int → D → List Ent
  | [], _, _ => []
  | e :: r, k, v => if e.k = k then ⟨k, v, e.b⟩ :: r else e :: aput r k v
def adel : List Ent → Int → List Ent
  | [], _ => []
  | e :: r, k => if e.k = k then r else e :: adel r k
/-- What becomes of a map when a key is set. -/
def mset (q : IntKind) (c : Nat) (es : List Ent) (k : Int) (v : D) : Ob := match alook es k with
  | some _ => mapOb q c (aput es k v)
  | none => mapOb q (c + 1) (es ++ [⟨k, v, c⟩])
def rawI : D → Int
  | .raw (.int _ n) => n
  | _ => 0
def clockOf (o : Ob) : Nat := (rawI (nth (o.row 0) 0)).toNat
def entsOf (o : Ob) : List Ent := (List.range (o.n - 1)).map fun i => ⟨rawI (nth (o.row (i + 1)) 0), nth (o.row (i + 1)) 1, (rawI (nth (o.row (i + 1)) 2)).toNat⟩
def Ob.ro (o : Ob) : Ob := ⟨o.kd.toRo, o.gen, o.sz, o.n, o.row⟩
def IsMap (q : IntKind) (o : Ob) : Prop := o.kd.ty = 1 ∧ o = mapObK o.kd q (clockOf o) (entsOf o)
theorem clockOf_mapK (kd : Kd) (q : IntKind) (c : Nat) (es : List Ent) : clockOf (mapObK kd q c es) = c := by simp [clockOf, mapObK, mrow, nth, rawI]
theorem clockOf_map (q : IntKind) (c : Nat) (es : List Ent) : clockOf (mapOb q c es) = c := clockOf_mapK _ _ _ _
theorem entsOf_mapK (kd : Kd) (q : IntKind) (c : Nat) (es : List Ent) : entsOf (mapObK kd q c es) = es := by
  apply List.ext_getElem?
  intro i
  simp only [entsOf, mapObK, mrow, Nat.add_sub_cancel, List.getElem?_map, List.getElem?_range]
  by_cases h : i < es.length
  · simp [List.getElem?_range h, nth, rawI, h]
  · rw [List.getElem?_eq_none (by simpa using h)]; simp [h]
theorem entsOf_map (q : IntKind) (c : Nat) (es : List Ent) : entsOf (mapOb q c es) = es := entsOf_mapK _ _ _ _
theorem IsMap_map (q : IntKind) (c : Nat) (es : List Ent) : IsMap q (mapOb q c es) = True := by
  refine eq_true ⟨rfl, ?_⟩
  exact (by rw [clockOf_map, entsOf_map]; rfl)
theorem clockOf_ro (o : Ob) : clockOf o.ro = clockOf o := rfl
theorem entsOf_ro (o : Ob) : entsOf o.ro = entsOf o := rfl
theorem IsMap_ro (q : IntKind) (o : Ob) : IsMap q o.ro = IsMap q o := by
  obtain ⟨k, g, z, n, r⟩ := o
  simp only [IsMap, clockOf_ro, entsOf_ro]
  simp only [Ob.ro, mapObK, Kd.toRo_ty, Ob.mk.injEq, true_and]
theorem mapOb_kd (q : IntKind) (c : Nat) (es : List Ent) : (mapOb q c es).kd = .map := rfl
theorem mapOb_n (q : IntKind) (c : Nat) (es : List Ent) : (mapOb q c es).n = es.length + 1 := rfl
theorem mapOb_gen (q : IntKind) (c : Nat) (es : List Ent) : (mapOb q c es).gen = 0 := rfl
theorem ro_kd (o : Ob) : o.ro.kd = o.kd.toRo := rfl
theorem ro_n (o : Ob) : o.ro.n = o.n := rfl
theorem ro_gen (o : Ob) : o.ro.gen = o.gen := rfl
theorem IsMap.get {q : IntKind} {o : Ob} (h : IsMap q o) : ∃ kd c es, kd.ty = 1 ∧ o.kd = kd ∧ clockOf o = c ∧ entsOf o = es ∧ o = mapObK kd q c es := ⟨_, _, _, h.1, rfl, rfl, rfl, h.2⟩

theorem alook_some : ∀ {es : List Ent} {k : Int} {v : D}, alook es k = some v → ∃ (j : Nat) (e : Ent), es[j]? = some e ∧ e.k = k ∧ e.v = v ∧ (∀ (i : Nat) (e' : Ent), i < j → es[i]? = some e' → e'.k ≠ k) ∧ (∀ u, aput es k u = es.set j ⟨k, u, e.b⟩) ∧ adel es k = es.eraseIdx j
  | [], _, _, h => by simp [alook] at h
  | e :: r, k, v, h => by
    simp only [alook] at h
    by_cases hk : e.k = k
    · rw [if_pos hk] at h; cases h
      exact ⟨0, e, rfl, hk, rfl, fun i _ hi => absurd hi (Nat.not_lt_zero i), fun u => by simp [aput, hk], by simp [adel, hk]⟩
    · rw [if_neg hk] at h
      obtain ⟨j, e', h1, h2, h3, h4, h5, h6⟩ := alook_some h
      refine ⟨j + 1, e', by simpa using h1, h2, h3, fun i x hi hx => ?_, fun u => by simp [aput, hk, h5 u], by simp [adel, hk, h6]⟩
      cases i with
      | zero => simp at hx; subst hx; exact hk
      | succ i => exact h4 i x (by omega) (by simpa using hx)
theorem alook_none : ∀ {es : List Ent} {k : Int}, alook es k = none → (∀ e ∈ es, e.k ≠ k) ∧ (∀ u, aput es k u = es) ∧ adel es k = es
  | [], _, _ => ⟨by simp, fun _ => rfl, rfl⟩
  | e :: r, k, h => by
    simp only [alook] at h
    by_cases hk : e.k = k
    · rw [if_pos hk] at h; cases h
    · rw [if_neg hk] at h
      obtain ⟨h1, h2, h3⟩ := alook_none h
      exact ⟨fun x hx => by
        rcases List.mem_cons.1 hx with rfl | h
        · exact hk
        · exact h1 x h, fun u => by simp [aput, hk, h2 u], by simp [adel, hk, h3]⟩
theorem alook_aput : ∀ {es : List Ent} {k : Int} (v : D) (k' : Int), alook (aput es k v) k' = if k' = k then (alook es k).map (fun _ => v) else alook es k'
  | [], k, v, k' => by simp [aput, alook]
  | e :: r, k, v, k' => by
    by_cases h : e.k = k
    · simp only [aput, if_pos h, alook]
      by_cases h2 : k = k'
      · simp [h2]
      · rw [if_neg h2, if_neg (fun e => h2 e.symm), if_neg (by rw [h]; exact h2)]
    · simp only [aput, if_neg h, alook]
      rw [alook_aput v k']
      by_cases h2 : k' = k
      · subst h2; simp [h]
      · simp [h2]
theorem alook_app : ∀ (es es' : List Ent) (k : Int), alook (es ++ es') k = (alook es k).or (alook es' k)
  | [], _, _ => by simp [alook]
  | e :: r, es', k => by
    by_cases h : e.k = k
    · simp [alook, h]
    · simp [alook, h, alook_app r es' k]
theorem mset_ok (q : IntKind) (c : Nat) (es : List Ent) (k : Int) (v : D) : ∃ c' es', mset q c es k v = mapOb q c' es' ∧ ∀ k', alook es' k' = if k' = k then some v else alook es k' := by
  unfold mset
  cases h : alook es k with
  | some d =>
    refine ⟨c, aput es k v, rfl, fun k' => ?_⟩
    rw [alook_aput, h]; rfl
  | none =>
    refine ⟨c + 1, es ++ [⟨k, v, c⟩], rfl, fun k' => ?_⟩
    rw [alook_app]
    by_cases h2 : k' = k
    · subst h2; simp [h, alook]
    · rw [if_neg h2]
      cases alook es k' <;> simp [alook, Ne.symm h2]
/-- Entries of which no two have one key. -/
def KeysNd (es : List Ent) : Prop := (es.map (·.k)).Nodup
theorem alook_adel : ∀ {es : List Ent} (k : Int) (k' : Int), KeysNd es → alook (adel es k) k' = if k' = k then none else alook es k'
  | [], k, k', _ => by simp [adel, alook]
  | e :: r, k, k', hn => by
    simp only [KeysNd, List.map_cons, List.nodup_cons] at hn
    by_cases h : e.k = k
    · simp only [adel, if_pos h, alook]
      by_cases h2 : k' = k
      · subst h2
        rw [if_pos rfl]
        have : ∀ x ∈ r, x.k ≠ k' := fun x hx hk => hn.1 (by rw [h, ← hk]; exact List.mem_map.2 ⟨x, hx, rfl⟩)
        clear hn
        induction r with
        | nil => rfl
        | cons y r ih => simp only [alook]; rw [if_neg (this y (List.mem_cons_self ..))]; exact ih fun x hx => this x (List.mem_cons_of_mem _ hx)
      · rw [if_neg h2, if_neg (by rw [h]; exact fun e => h2 e.symm)]
    · simp only [adel, if_neg h, alook]
      rw [alook_adel k k' hn.2]
      by_cases h2 : k' = k
      · subst h2; simp [h]
      · simp [h2]
/-- Entries, and those of a world's map. -/
structure EntRel (Z : Nat → Prop) (h : List Ob) (pl : List Pl) (w : World) (q : IntKind) (c : Nat) (es : List Ent) (as : List MapEntry) : Prop where
  len : es.length = as.length
  at_ : ∀ (i : Nat) (e : Ent) (a : MapEntry), es[i]? = some e → as[i]? = some a → a.key = .int q e.k ∧ RelV Z h pl w e.v a.val ∧ a.born = e.b ∧ a.born < c
  inc : ∀ (i j : Nat) (a a' : MapEntry), i < j → as[i]? = some a → as[j]? = some a' → a.born < a'.born
theorem mapAt_of {Z : Nat → Prop} {h : List Ob} {pl : List Pl} {w : World} {q : IntKind} {c : Nat} {es : List Ent} {b : Nat} {as : Array MapEntry} (hb : w.heap[b]? = some (.map as c)) (E : EntRel Z h pl w q c es as.toList) {kd : Kd} (hkd : kd.ty = 1) : ObAt Z h pl w (mapObK kd q c es) b 0 := by
  refine ObAt.ofMap hkd ⟨rfl, rfl, as, c, hb, by have := E.len; simp at this; simp [mapObK, this], fun i _ => ?_, .cl _ _ (.raw _), fun i a ha => ?_, fun i j a a' hij h1 h2 => E.inc i j a a' hij (by simpa using h1) (by simpa using h2)⟩
  · show (mrow q c es i).length = 3
    cases i with
    | zero => rfl
    | succ i => simp only [mrow]; split <;> rfl
  · have hlt := (Array.getElem?_eq_some_iff.1 ha).1
    have hi : i < es.length := by have := E.len; simp at this; omega
    obtain ⟨h1, h2, h3, h4⟩ := E.at_ i es[i] a (List.getElem?_eq_getElem hi) (by simpa using ha)
    have e1 : mrow q c es (i + 1) = [.raw (.int q es[i].k), es[i].v, .raw (.int .i64 es[i].b)] := by simp [mrow, hi]
    show _ ∧ RelV Z h pl w (nth (mrow q c es (i + 1)) 0) _ ∧ RelV Z h pl w (nth (mrow q c es (i + 1)) 1) _ ∧ RelV Z h pl w (nth (mrow q c es (i + 1)) 2) _
    rw [e1]
    exact ⟨h4, by rw [h1]; exact .cl _ _ (.raw _), h2, by rw [h3]; exact .cl _ _ (.raw _)⟩
theorem mapAt_to {Z : Nat → Prop} {h : List Ob} {pl : List Pl} {w : World} {q : IntKind} {c : Nat} {es : List Ent} {b p : Nat} {kd : Kd} (hkd : kd.ty = 1) (x : ObAt Z h pl w (mapObK kd q c es) b p) : p = 0 ∧ ∃ as : Array MapEntry, w.heap[b]? = some (.map as c) ∧ EntRel Z h pl w q c es as.toList := by
  obtain ⟨h0, _, as, clock, h1, h2, _, h4, h5, h6⟩ := x.map hkd
  have hc : clock = c := by
    have := inv_raw h4
    simp at this; omega
  subst hc
  have hl : es.length = as.size := by simpa [mapObK] using h2
  refine ⟨h0, as, h1, by simpa using hl, fun i e a he ha => ?_, fun i j a a' hij g1 g2 => h6 i j a a' hij (by simpa using g1) (by simpa using g2)⟩
  obtain ⟨k1, k2, k3, k4⟩ := h5 i a (by simpa using ha)
  have e1 : (mapObK kd q clock es).row (i + 1) = [.raw (.int q e.k), e.v, .raw (.int .i64 e.b)] := by simp [mapObK, mrow, he]
  rw [e1] at k2 k3 k4
  have := inv_raw k2
  have h8 := inv_raw k4
  refine ⟨this, k3, ?_, k1⟩
  simp at h8; omega
theorem EntRel.keys {Z : Nat → Prop} {h : List Ob} {pl : List Pl} {w : World} {q : IntKind} {c : Nat} {es : List Ent} {as : List MapEntry} (E : EntRel Z h pl w q c es as) : IntKeys q as := fun a ha => by
  obtain ⟨i, hi⟩ := List.getElem?_of_mem ha
  have hlt : i < es.length := by rw [E.len]; exact (List.getElem?_eq_some_iff.1 hi).1
  exact ⟨_, (E.at_ i es[i] a (List.getElem?_eq_getElem hlt) hi).1⟩
theorem EntRel.hit {Z : Nat → Prop} {h : List Ob} {pl : List Pl} {w : World} {q : IntKind} {c : Nat} {es : List Ent} {as : Array MapEntry} (E : EntRel Z h pl w q c es as.toList) {k : Int} {j : Nat} {e : Ent} (he : es[j]? = some e) (hk : e.k = k) (hn : ∀ (i : Nat) (e' : Ent), i < j → es[i]? = some e' → e'.k ≠ k) :
    ∃ a, as[j]? = some a ∧ a.key = .int q k ∧ RelV Z h pl w e.v a.val ∧ a.born = e.b ∧ a.born < c ∧ ∀ (i : Nat) (e' : MapEntry), i < j → as[i]? = some e' → e'.key ≠ .int q k := by
  have hlt : j < as.toList.length := by rw [← E.len]; exact (List.getElem?_eq_some_iff.1 he).1
  obtain ⟨h1, h2, h3, h4⟩ := E.at_ j e as.toList[j] he (List.getElem?_eq_getElem hlt)
  refine ⟨as.toList[j], by simp, by rw [h1, hk], h2, h3, h4, fun i a' hij ha' => ?_⟩
  have hi : i < es.length := by have := (List.getElem?_eq_some_iff.1 he).1; omega
  obtain ⟨g1, _⟩ := E.at_ i es[i] a' (List.getElem?_eq_getElem hi) (by simpa using ha')
  rw [g1]
  intro hh
  exact hn i _ hij (List.getElem?_eq_getElem hi) (by simpa using hh)
theorem EntRel.miss {Z : Nat → Prop} {h : List Ob} {pl : List Pl} {w : World} {q : IntKind} {c : Nat} {es : List Ent} {as : List MapEntry} (E : EntRel Z h pl w q c es as) {k : Int} (hn : ∀ e ∈ es, e.k ≠ k) : ∀ a ∈ as, a.key ≠ .int q k := fun a ha => by
  obtain ⟨i, hi⟩ := List.getElem?_of_mem ha
  have hlt : i < es.length := by rw [E.len]; exact (List.getElem?_eq_some_iff.1 hi).1
  rw [(E.at_ i es[i] a (List.getElem?_eq_getElem hlt) hi).1]
  intro hh
  exact hn _ (List.getElem_mem hlt) (by simpa using hh)
theorem EntRel.tr {Z : Nat → Prop} {h h' : List Ob} {pl pl' : List Pl} {w w' : World} (T : Tr h pl w h' pl' w') {q : IntKind} {c : Nat} {es : List Ent} {as : List MapEntry} (E : EntRel Z h pl w q c es as) : EntRel Z h' pl' w' q c es as :=
  ⟨E.len, fun i e a h1 h2 => let ⟨g1, g2, g3⟩ := E.at_ i e a h1 h2; ⟨g1, g2.tr T, g3⟩, E.inc⟩
section
variable {P : Program} {L : Lay} {base nt : Nat} {s : St} {o : Oper} {q : IntKind} {t kt et : TypeId} {x i : Operand} {l g n : Nat} {ob : Ob} {k : Int}
/-- A map that a slot points to. -/
theorem map_at {Z : Nat → Prop} {pl : List Pl} {a : Act} {w : World} (r : Rel Z base nt s pl a w) {c : Nat} {es : List Ent} {kd : Kd} (hkd : kd.ty = 1) (hx : evalO s.fr x = .mref l 0) (hob : s.h[l]? = some (mapObK kd q c es)) :
    ∃ b as, a.eval x = .map (some b) ∧ pl[l]? = some (some (b, 0)) ∧ (kd.ro = false → base ≤ b) ∧ w.heap[b]? = some (.map as c) ∧ EntRel Z s.h pl w q c es as.toList := by
  have e1 := r.eval x
  rw [hx] at e1
  obtain ⟨o', p, b, h1, h2, h3, h4, h5⟩ := inv_mref e1
  rw [hob] at h1; cases h1
  have h5 := h5 rfl
  rw [h5] at h2
  obtain ⟨hb0, xat⟩ := r.o.at_ l _ b 0 hob h2
  obtain ⟨_, as, hb, E⟩ := mapAt_to hkd xat
  have hv := h3.2
  have : (mapObK kd q c es).kd.ty = 1 := hkd
  rw [this] at hv
  exact ⟨b, as, hv, h2, hb0, hb, E⟩
/-- A map turns in its block. -/
theorem map_turn {Z : Nat → Prop} {pl : List Pl} {a : Act} {w : World} (r : Rel Z base nt s pl a w) {c : Nat} {es : List Ent} (hob : s.h[l]? = some (mapOb q c es)) {b : Nat} (hp : pl[l]? = some (some (b, 0))) (hb0 : base ≤ b) {as : Array MapEntry} (hb : w.heap[b]? = some (.map as c))
    {c' : Nat} {es' : List Ent} {as' : Array MapEntry} (E : ∀ pl' w', Tr s.h pl w (s.h.set l (mapOb q c' es')) pl' w' → EntRel Z (s.h.set l (mapOb q c' es')) pl' w' q c' es' as'.toList) :
    ∃ w', w' = { w with heap := w.heap.setIfInBounds b (.map as' c') } ∧ Tr s.h pl w (s.h.set l (mapOb q c' es')) pl w' ∧ RelO Z base (s.h.set l (mapOb q c' es')) pl w' ∧ Below base w w' := by
  have hbl := lt_of_heap hb
  generalize hw' : ({ w with heap := w.heap.setIfInBounds b (.map as' c') } : World) = w'
  have e : ∀ c, c ≠ b → w'.heap[c]? = w.heap[c]? := fun c hc => by rw [← hw']; simp [Array.getElem?_setIfInBounds, Ne.symm hc]
  have hnew : w'.heap[b]? = some (.map as' c') := by rw [← hw']; simp [Array.getElem?_setIfInBounds, hbl]
  have T := Tr.turn (w' := w') r.o hob hp e (o' := mapOb q c' es') rfl rfl rfl (by rw [hb]; intro c el h; cases h)
  exact ⟨w', rfl, T, RelO.turn (hro := rfl) r.o hob hp e T (mapAt_of hnew (E pl w' T) rfl), below_of hb0 e (by rw [← hw']; simp) (by rw [← hw']) (by rw [← hw']) (by rw [← hw'])⟩
theorem lookup_run (hL : LayOk P L) {yt yk ye : Ty} (ht : ty L t = some yt) (htk : yt.k = .map kt et) (hkt : ty L kt = some yk) (hkk : yk.k = .int q) (hye : ty L et = some ye)
    {Z : Nat → Prop} {h : List Ob} {pl : List Pl} {w : World} {b c : Nat} {es : List Ent} {as : Array MapEntry} (hb : w.heap[b]? = some (.map as c)) (E : EntRel Z h pl w q c es as.toList) (ok : Bool) :
    ∃ v, RelV Z h pl w (match alook es k with | some d => d | none => zeroD ye) v ∧ ∀ w' : World, w'.heap[b]? = w.heap[b]? →
      (lookup t (.map (some b)) (.int q k) ok).run P w' = .ok (if ok then .tuple #[v, .bool (alook es k).isSome] else v) w' := by
  have h3 := fun w : World => checkKey_int (P := P) (w := w) (k := k) (under_int (hL kt yk hkt) hkk) as.isEmpty 9999
  have hx := under_map (hL t yt ht) htk
  cases hf : alook es k with
  | some d =>
    obtain ⟨j, e, g1, g2, g3, g4, _⟩ := alook_some hf
    obtain ⟨a, a1, a2, a3, a4, a5, a6⟩ := E.hit g1 g2 g4
    refine ⟨a.val, by rw [← g3]; exact a3, fun w' hw => ?_⟩
    have h := findNow_hit (i0 := 0) E.keys (by simpa using a1) a2 (fun j e' hj hj' => a6 j e' hj (by simpa using hj'))
    have h2 := findKey_run (P := P) (w := w') (under_int (hL kt yk hkt) hkk) h
    simp [lookup, underlying, hx, getObj, getObj_run (hw.trans hb), h2, h3]
  | none =>
    obtain ⟨g1, _⟩ := alook_none hf
    obtain ⟨z, hz, hzr⟩ := zeroD_ok (hL et ye hye) (N := free Z pl) w
    refine ⟨z, .cl _ _ hz, fun w' hw => ?_⟩
    have h2 := findKey_run (P := P) (w := w') (under_int (hL kt yk hkt) hkk) (findNow_miss (i := 0) E.keys (E.miss g1))
    simp [lookup, underlying, hx, getObj, getObj_run (hw.trans hb), h2, h3, hzr w']
theorem lookup_nil_run (hL : LayOk P L) {yt yk ye : Ty} (ht : ty L t = some yt) (htk : yt.k = .map kt et) (hkt : ty L kt = some yk) (hkk : yk.k = .int q) (hye : ty L et = some ye)
    {N : Nat → Prop} {w : World} (ok : Bool) : ∃ v, Cl N w (zeroD ye) v ∧ ∀ w' : World, (lookup t (.map none) (.int q k) ok).run P w' = .ok (if ok then .tuple #[v, .bool false] else v) w' := by
  obtain ⟨z, hz, hzr⟩ := zeroD_ok (hL et ye hye) (N := N) w
  refine ⟨z, hz, fun w' => ?_⟩
  have h3 := checkKey_int (P := P) (w := w') (k := k) (under_int (hL kt yk hkt) hkk) true 9999
  have h2 := findKey_run (P := P) (w := w') (k := k) (under_int (hL kt yk hkt) hkk) (es := []) (r := none) rfl
  simp [lookup, underlying, under_map (hL t yt ht) htk, h2, h3, hzr w']
/-- What is looked up. -/
def plook (L : Lay) (h : List Ob) (t : TypeId) (x i : D) (ok : Bool) : Ev := match ty L t with
  | some ⟨.map kt et, _, _, _⟩ => match ty L kt, ty L et with
    | some ⟨.int q, _, _, _⟩, some ye => match i with
      | .raw (.int q' k) => match x with
        | .mref l g => match h[l]? with
          | some o => some (IsMap q o ∧ q' = q ∧ g = 0, match alook (entsOf o) k with
            | some d => bif ok then .tup [d, .raw (.bool true)] else d
            | none => bif ok then .tup [zeroD ye, .raw (.bool false)] else zeroD ye)
          | none => none
        | .raw (.map none) => some (q' = q, bif ok then .tup [zeroD ye, .raw (.bool false)] else zeroD ye)
        | _ => none
      | _ => none
    | _, _ => none
  | _ => none
theorem look_ok (hL : LayOk P L) {ok : Bool} (ho : o.op = .lookup t x i ok) {p : Prop} {d : D} (h : plook L s.h t (evalO s.fr x) (evalO s.fr i) ok = some (p, d)) (hp : p) : PureOk P base nt o s d := by
  intro Z pl a w r
  unfold plook at h
  split at h
  case h_2 => cases h
  rename_i kt et m1 m2 m3 ht
  split at h
  case h_2 => cases h
  rename_i q n1 n2 n3 ye hkt hye
  split at h
  case h_2 => cases h
  rename_i q' k hi
  have e2 := r.eval i
  rw [hi] at e2
  have e2 := inv_raw e2
  split at h
  case h_3 => cases h
  case h_2 hx =>
    simp only [Option.some.injEq, Prod.mk.injEq] at h
    obtain ⟨rfl, rfl⟩ := h
    subst hp
    have e1 := r.eval x
    rw [hx] at e1
    have e1 := inv_raw e1
    obtain ⟨v, hv, hrun⟩ := lookup_nil_run (k := k) hL ht rfl hkt rfl hye (N := free Z pl) (w := w) ok
    cases ok with
    | false => exact ⟨v, .cl _ _ hv, fun w' hw => by simp [execOp, ho, e1, e2, hrun w']⟩
    | true =>
      refine ⟨.tuple #[v, .bool false], .tup _ [v, .bool false] rfl (fun i hi => match i, hi with
        | 0, _ => .cl _ _ hv
        | 1, _ => .cl _ _ (.raw _)), fun w' hw => by simp [execOp, ho, e1, e2, hrun w']⟩
  case h_1 l g hx =>
    split at h
    case h_2 => cases h
    rename_i ob hob
    simp only [Option.some.injEq, Prod.mk.injEq] at h
    obtain ⟨rfl, rfl⟩ := h
    obtain ⟨hm, rfl, rfl⟩ := hp
    obtain ⟨kd, c, es, hkd, _, _, hes, hm⟩ := hm.get
    rw [hes]
    subst hm
    obtain ⟨b, as, e1, _, _, hb, E⟩ := map_at r hkd hx hob
    obtain ⟨v, hv, hrun⟩ := lookup_run (k := k) hL ht rfl hkt rfl hye hb E ok
    cases hf : alook es k with
    | some d =>
      rw [hf] at hv hrun
      cases ok with
      | false => exact ⟨v, hv, fun w' hw => by simp [execOp, ho, e1, e2, hrun w' (hw b (lt_of_heap hb))]⟩
      | true =>
        refine ⟨.tuple #[v, .bool true], .tup _ [v, .bool true] rfl (fun i hi => match i, hi with
          | 0, _ => hv
          | 1, _ => .cl _ _ (.raw _)), fun w' hw => by simp [execOp, ho, e1, e2, hrun w' (hw b (lt_of_heap hb))]⟩
    | none =>
      rw [hf] at hv hrun
      cases ok with
      | false => exact ⟨v, hv, fun w' hw => by simp [execOp, ho, e1, e2, hrun w' (hw b (lt_of_heap hb))]⟩
      | true =>
        refine ⟨.tuple #[v, .bool false], .tup _ [v, .bool false] rfl (fun i hi => match i, hi with
          | 0, _ => hv
          | 1, _ => .cl _ _ (.raw _)), fun w' hw => by simp [execOp, ho, e1, e2, hrun w' (hw b (lt_of_heap hb))]⟩
/-- How many entries. -/
def pmlen (L : Lay) (h : List Ob) (t : TypeId) (x : D) : Ev := match ty L t with
  | some ⟨.map _ _, _, _, _⟩ => match x with
    | .mref l g => match h[l]? with
      | some o => some (o.kd.ty = 1 ∧ g = o.gen, .raw (.int .i64 ((o.n - 1 : Nat) : Int)))
      | none => none
    | .raw (.map none) => some (True, .raw (.int .i64 0))
    | _ => none
  | _ => none
theorem mlen_ok (hL : LayOk P L) {tys : Array TypeId} (ho : o.op = .call ⟨.builtin .len, #[x], tys⟩) (hty : tys = #[t]) {p : Prop} {d : D} (h : pmlen L s.h t (evalO s.fr x) = some (p, d)) (hp : p) : PureOk P base nt o s d := by
  subst hty
  intro Z pl a w r
  unfold pmlen at h
  split at h
  case h_2 => cases h
  rename_i kt et m1 m2 m3 ht
  have hu := under_map (hL t _ ht) rfl
  have e1 := r.eval x
  split at h
  case h_3 => cases h
  case h_2 hx =>
    simp only [Option.some.injEq, Prod.mk.injEq] at h
    obtain ⟨rfl, rfl⟩ := h
    rw [hx] at e1
    have e1 := inv_raw e1
    refine ⟨.int .i64 0, .cl _ _ (.raw _), fun w' hw => ?_⟩
    rw [run_builtin ho]
    simp [e1, builtin, Builtin.len_, underlying, hu, goInt]
  case h_1 l g hx =>
    split at h
    case h_2 => cases h
    rename_i ob hob
    simp only [Option.some.injEq, Prod.mk.injEq] at h
    obtain ⟨rfl, rfl⟩ := h
    obtain ⟨hk, rfl⟩ := hp
    rw [hx] at e1
    obtain ⟨o', p, b, h1, h2, h3, h4, h5⟩ := inv_mref e1
    rw [hob] at h1; cases h1
    have h5 := h5 rfl
    rw [h5] at h2
    obtain ⟨hb0, xat⟩ := r.o.at_ l _ b 0 hob h2
    obtain ⟨_, _, as, clock, hb, h6, _⟩ := xat.map hk
    have hv := h3.2
    rw [hk] at hv
    refine ⟨.int .i64 ((ob.n - 1 : Nat) : Int), .cl _ _ (.raw _), fun w' hw => ?_⟩
    rw [run_builtin ho]
    have hb' : w'.heap[b]? = some (.map as clock) := by rw [hw b (lt_of_heap hb)]; exact hb
    simp [hv, mval, builtin, Builtin.len_, underlying, hu, getObj, getObj_run hb', h6, goInt]

/-! What makes and turns maps. -/
def pmake (L : Lay) (h : List Ob) (t : TypeId) : Option (Prop × List Ob × D) := match ty L t with
  | some ⟨.map kt _, _, _, _⟩ => match ty L kt with
    | some ⟨.int q, _, _, _⟩ => some (True, h ++ [mapOb q 0 []], .mref h.length 0)
    | _ => none
  | _ => none
theorem make_ok (hL : LayOk P L) {rz : Option Operand} (hr : rz = none ∨ ∃ k n, rz = some (.const (.int k n)) ∧ 0 ≤ n) (ho : o.op = .makeMap t rz) {p : Prop} {h' : List Ob} {d : D} (h : pmake L s.h t = some (p, h', d)) : EffOk P base nt o s h' d := by
  unfold pmake at h
  split at h
  case h_2 => cases h
  split at h
  case h_2 => cases h
  rename_i kt _ _ _ _ ht _ q _ _ _ hkt
  simp only [Option.some.injEq, Prod.mk.injEq] at h
  obtain ⟨rfl, rfl, rfl⟩ := h
  intro Z pl a w r hbs
  have e : ∀ b, b < w.heap.size → (w.alloc (.map #[] 0)).heap[b]? = w.heap[b]? := fun b hb => heap_push_old w _ b hb
  have hnew : (w.alloc (.map #[] 0)).heap[w.heap.size]? = some (.map #[] 0) := heap_alloc_new w _
  have T : Tr s.h pl w (s.h ++ [mapOb q 0 []]) (pl ++ [some (w.heap.size, 0)]) (w.alloc (.map #[] 0)) := Tr.push r.o e _ _ (by intro b q h; simp at h; omega)
  have hpl : pl.length = s.h.length := r.o.len
  refine ⟨.map (some w.heap.size), w.alloc (.map #[] 0), pl ++ [some (w.heap.size, 0)], .inl ?_, T, ?_, ?_, below_alloc hbs _, fun _ => e⟩
  · rcases hr with rfl | ⟨k, n, rfl, hn⟩
    · simp [execOp, ho, makeMap]
    · simp [execOp, ho, makeMap, Act.eval, underlying, under_map (hL t _ ht) rfl, asInt, asIntOf]
  · exact RelO.push' r.o e _ (Nat.le_refl _) hbs (mapAt_of (kd := .map) hnew ⟨rfl, fun i e a h => by simp at h, fun i j a a' _ h => by simp at h⟩ rfl)
  · exact .mref _ _ (mapOb q 0 []) (some (w.heap.size, 0)) w.heap.size (by simp) (by rw [← hpl]; simp) ⟨by simp [mapOb, mapObK, Kd.ty], rfl⟩ (Nat.le_refl _) (fun _ => rfl)
def pupd (L : Lay) (h : List Ob) (t : TypeId) (x i v : D) : Option (Prop × List Ob) := match ty L t with
  | some ⟨.map kt _, _, _, _⟩ => match ty L kt with
    | some ⟨.int q, _, _, _⟩ => match x, i with
      | .mref l g, .raw (.int q' k) => match h[l]? with
        | some o => some (IsMap q o ∧ q' = q ∧ g = 0 ∧ o.kd.ro = false, h.set l (mset q (clockOf o) (entsOf o) k v))
        | none => none
      | _, _ => none
    | _ => none
  | _ => none
theorem upd_ok (hL : LayOk P L) {v : Operand} (ho : o.op = .mapUpdate t x i v) {p : Prop} {h' : List Ob} (h : pupd L s.h t (evalO s.fr x) (evalO s.fr i) (evalO s.fr v) = some (p, h')) (hp : p) : EffOk P base nt o s h' .undef := by
  unfold pupd at h
  split at h
  case h_2 => cases h
  split at h
  case h_2 => cases h
  rename_i kt et _ _ _ ht _ q _ _ _ hkt
  split at h
  case h_2 => cases h
  rename_i l g q' k hx hi
  split at h
  case h_2 => cases h
  rename_i ob hob
  simp only [Option.some.injEq, Prod.mk.injEq] at h
  obtain ⟨rfl, rfl⟩ := h
  obtain ⟨hm, rfl, rfl, hro⟩ := hp
  obtain ⟨kd, c, es, hkd, hk0, hcs, hes, hm⟩ := hm.get
  rw [hes, hcs]
  have hk1 : kd = .map := by rw [hk0] at hro; cases kd <;> first | rfl | (exfalso; revert hkd; decide) | (exfalso; revert hro; decide)
  subst hk1
  rw [show mapObK .map q' c es = mapOb q' c es from rfl] at hm
  subst hm
  intro Z pl a w r hbs
  have e2 := r.eval i
  rw [hi] at e2
  have e2 := inv_raw e2
  have e3 := r.eval v
  obtain ⟨b, as, e1, h2, hb0, hb, E⟩ := map_at (kd := .map) r rfl hx hob
  have hb0 := hb0 rfl
  have ht' := under_map (hL t _ ht) rfl
  have hk' := under_int (hL kt _ hkt) rfl
  cases hf : alook es k with
  | some d =>
    obtain ⟨j, e, g1, g2, g3, g4, g5, _⟩ := alook_some hf
    obtain ⟨a1, b1, b2, b3, b4, b5, b6⟩ := E.hit g1 g2 g4
    have hrun := update_hit_run (P := P) (w := w) (k := k) ht' hk' hb E.keys b1 b2 b6 (a.eval v)
    have hm : mset q' c es k (evalO s.fr v) = mapOb q' c (es.set j ⟨k, evalO s.fr v, e.b⟩) := by simp only [mset, hf]; rw [g5]
    rw [hm]
    obtain ⟨w', rfl, T, O, B⟩ := map_turn r hob h2 hb0 hb (c' := c) (es' := es.set j ⟨k, evalO s.fr v, e.b⟩) (as' := as.modify j fun e => { e with key := .int q' k, val := a.eval v }) (fun pl' w' T => by
      have E' := E.tr T
      have hget : ∀ (i' : Nat) (x : MapEntry), (as.modify j fun e => { e with key := .int q' k, val := a.eval v }).toList[i']? = some x → ∃ y, as.toList[i']? = some y ∧ x.born = y.born ∧ (i' ≠ j → x = y) ∧ (i' = j → x.key = .int q' k ∧ x.val = a.eval v) := fun i' x hx => by
        have hx : (as.modify j fun e => { e with key := .int q' k, val := a.eval v })[i']? = some x := by rw [← Array.getElem?_toList]; exact hx
        rw [Array.getElem?_modify] at hx
        split at hx
        · rename_i hij
          subst hij
          rw [b1] at hx
          simp at hx
          subst hx
          exact ⟨a1, by simpa using b1, rfl, fun h => absurd rfl h, fun _ => ⟨rfl, rfl⟩⟩
        · rename_i hij
          exact ⟨x, by simpa using hx, rfl, fun _ => rfl, fun h => absurd h.symm hij⟩
      refine ⟨by have := E.len; simp at this ⊢; exact this, fun i' e' a' he' ha' => ?_, fun i1 i2 x y h12 hx hy => ?_⟩
      · obtain ⟨y, y1, y2, y3, y4⟩ := hget i' a' ha'
        by_cases hij : i' = j
        · subst hij
          have hlt := (List.getElem?_eq_some_iff.1 g1).1
          rw [List.getElem?_set_self hlt] at he'
          cases he'
          obtain ⟨d1, d2⟩ := y4 rfl
          have : y = a1 := by have b1' : as.toList[i']? = some a1 := by simpa using b1
                              rw [y1] at b1'; simpa using b1'
          subst this
          exact ⟨d1, by rw [d2]; exact e3.tr T, by rw [y2, b4], by rw [y2]; exact b5⟩
        · rw [List.getElem?_set_ne (Ne.symm hij)] at he'
          rw [y3 hij]
          exact E'.at_ i' e' y he' y1
      · obtain ⟨x', hx', hb1, _⟩ := hget i1 x hx
        obtain ⟨y', hy', hb2, _⟩ := hget i2 y hy
        rw [hb1, hb2]; exact E.inc i1 i2 x' y' h12 hx' hy')
    exact ⟨Go.undef, _, pl, .inr ⟨by simp [execOp, ho, e1, e2, hrun], rfl⟩, T, O, .cl _ _ (.undef _), B, fun hc => by simp [calm, ho] at hc⟩
  | none =>
    obtain ⟨g1, _⟩ := alook_none hf
    have hrun := update_miss_run (P := P) (w := w) (k := k) ht' hk' hb E.keys (E.miss g1) (a.eval v)
    have hm : mset q' c es k (evalO s.fr v) = mapOb q' (c + 1) (es ++ [⟨k, evalO s.fr v, c⟩]) := by simp only [mset, hf]
    rw [hm]
    obtain ⟨w', rfl, T, O, B⟩ := map_turn r hob h2 hb0 hb (c' := c + 1) (es' := es ++ [⟨k, evalO s.fr v, c⟩]) (as' := as.push { key := .int q' k, val := a.eval v, born := c }) (fun pl' w' T => by
      have E' := E.tr T
      have hl : es.length = as.size := by have := E.len; simpa using this
      refine ⟨by simp [hl], fun i' e' a' he' ha' => ?_, fun i1 i2 x y h12 hx hy => ?_⟩
      · have ha' : (as.push { key := .int q' k, val := a.eval v, born := c })[i']? = some a' := by rw [← Array.getElem?_toList]; exact ha'
        rw [Array.getElem?_push] at ha'
        rcases append_inv he' with h1 | ⟨h1, h1'⟩
        · have := (List.getElem?_eq_some_iff.1 h1).1
          rw [if_neg (by omega)] at ha'
          obtain ⟨k1, k2, k3, k4⟩ := E'.at_ i' e' a' h1 (by simpa using ha')
          exact ⟨k1, k2, k3, by omega⟩
        · subst h1'
          rw [if_pos (by omega)] at ha'
          cases ha'
          exact ⟨rfl, e3.tr T, rfl, by simp⟩
      · have hx : (as.push { key := .int q' k, val := a.eval v, born := c })[i1]? = some x := by rw [← Array.getElem?_toList]; exact hx
        have hy : (as.push { key := .int q' k, val := a.eval v, born := c })[i2]? = some y := by rw [← Array.getElem?_toList]; exact hy
        rw [Array.getElem?_push] at hx hy
        have old : ∀ (i : Nat) (z : MapEntry), as[i]? = some z → z.born < c := fun i z hz => by
          have hlt := (Array.getElem?_eq_some_iff.1 hz).1
          exact (E.at_ i (es[i]'(by omega)) z (List.getElem?_eq_getElem (by omega)) (by simpa using hz)).2.2.2
        split at hx
        · split at hy
          · omega
          · have := (Array.getElem?_eq_some_iff.1 hy).1; omega
        · split at hy
          · cases hy; exact old i1 x hx
          · exact E.inc i1 i2 x y h12 (by simpa using hx) (by simpa using hy))
    exact ⟨Go.undef, _, pl, .inr ⟨by simp [execOp, ho, e1, e2, hrun], rfl⟩, T, O, .cl _ _ (.undef _), B, fun hc => by simp [calm, ho] at hc⟩
def pdel (L : Lay) (h : List Ob) (t : TypeId) (x i : D) : Option (Prop × List Ob) := match ty L t with
  | some ⟨.map kt _, _, _, _⟩ => match ty L kt with
    | some ⟨.int q, _, _, _⟩ => match i with
      | .raw (.int q' k) => match x with
        | .mref l g => match h[l]? with
          | some o => some (IsMap q o ∧ q' = q ∧ g = 0 ∧ o.kd.ro = false, h.set l (mapOb q (clockOf o) (adel (entsOf o) k)))
          | none => none
        | .raw (.map none) => some (q' = q, h)
        | _ => none
      | _ => none
    | _ => none
  | _ => none
theorem del_ok (hL : LayOk P L) {tk : TypeId} (ho : o.op = .call ⟨.builtin .delete, #[x, i], #[t, tk]⟩) {p : Prop} {h' : List Ob} (h : pdel L s.h t (evalO s.fr x) (evalO s.fr i) = some (p, h')) (hp : p) : EffOk P base nt o s h' (.tup []) := by
  unfold pdel at h
  split at h
  case h_2 => cases h
  split at h
  case h_2 => cases h
  rename_i kt et _ _ _ ht _ q _ _ _ hkt
  have ht' := under_map (hL t _ ht) rfl
  have hk' := under_int (hL kt _ hkt) rfl
  split at h
  case h_2 => cases h
  rename_i q' k hi
  split at h
  case h_3 => cases h
  case h_2 hx =>
    simp only [Option.some.injEq, Prod.mk.injEq] at h
    obtain ⟨rfl, rfl⟩ := h
    subst hp
    intro Z pl a w r hbs
    have e2 := r.eval i
    rw [hi] at e2
    have e2 := inv_raw e2
    have e1 := r.eval x
    rw [hx] at e1
    have e1 := inv_raw e1
    have h3 := checkKey_int (P := P) (w := w) (k := k) hk' true 9999
    refine ⟨.tuple #[], w, pl, .inl ?_, Tr.refl _ _ _, r.o, .tup [] [] rfl (fun i hi => absurd hi (Nat.not_lt_zero i)), Below.refl _ _, fun _ => Ext.refl w⟩
    rw [run_builtin ho]
    simp [e1, e2, builtin, Builtin.delete_, underlying, ht', h3]
  case h_1 l g hx =>
    split at h
    case h_2 => cases h
    rename_i ob hob
    simp only [Option.some.injEq, Prod.mk.injEq] at h
    obtain ⟨rfl, rfl⟩ := h
    obtain ⟨hm, rfl, rfl, hro⟩ := hp
    obtain ⟨kd, c, es, hkd, hk0, hcs, hes, hm⟩ := hm.get
    rw [hes, hcs]
    have hk1 : kd = .map := by rw [hk0] at hro; cases kd <;> first | rfl | (exfalso; revert hkd; decide) | (exfalso; revert hro; decide)
    subst hk1
    rw [show mapObK .map q' c es = mapOb q' c es from rfl] at hm
    subst hm
    intro Z pl a w r hbs
    have e2 := r.eval i
    rw [hi] at e2
    have e2 := inv_raw e2
    obtain ⟨b, as, e1, h2, hb0, hb, E⟩ := map_at (kd := .map) r rfl hx hob
    have hb0 := hb0 rfl
    cases hf : alook es k with
    | some d =>
      obtain ⟨j, e, g1, g2, g3, g4, g5, g6⟩ := alook_some hf
      obtain ⟨a1, b1, b2, b3, b4, b5, b6⟩ := E.hit g1 g2 g4
      have hrun := delete_hit_run (P := P) (w := w) (k := k) (ty := o.type) (kt2 := tk) ht' hk' hb E.keys b1 b2 b6
      rw [g6]
      have hjs : j < as.size := (Array.getElem?_eq_some_iff.1 b1).1
      obtain ⟨w', rfl, T, O, B⟩ := map_turn r hob h2 hb0 hb (c' := c) (es' := es.eraseIdx j) (as' := as.eraseIdxIfInBounds j) (fun pl' w' T => by
        have E' := E.tr T
        have hl : es.length = as.size := by have := E.len; simpa using this
        have hto : (as.eraseIdxIfInBounds j).toList = as.toList.eraseIdx j := by simp [Array.eraseIdxIfInBounds, hjs, Array.toList_eraseIdx]
        rw [hto]
        refine ⟨by simp [List.length_eraseIdx, hl], fun i' e' a' he' ha' => ?_, fun i1 i2 x y h12 hx hy => ?_⟩
        · rw [List.getElem?_eraseIdx] at he' ha'
          split at he'
          · rw [if_pos ‹_›] at ha'; exact E'.at_ _ _ _ he' ha'
          · rw [if_neg ‹_›] at ha'; exact E'.at_ _ _ _ he' ha'
        · rw [List.getElem?_eraseIdx] at hx hy
          split at hx <;> split at hy <;> exact E.inc _ _ x y (by omega) hx hy)
      refine ⟨.tuple #[], _, pl, .inl ?_, T, O, .tup [] [] rfl (fun i hi => absurd hi (Nat.not_lt_zero i)), B, fun hc => by simp [calm, ho] at hc⟩
      rw [run_builtin ho]
      simp [e1, e2, builtin, hrun]
    | none =>
      obtain ⟨g1, _, g6⟩ := alook_none hf
      have hrun := delete_miss_run (P := P) (w := w) (k := k) (ty := o.type) (kt2 := tk) ht' hk' hb E.keys (E.miss g1)
      rw [g6]
      obtain ⟨w', rfl, T, O, B⟩ := map_turn r hob h2 hb0 hb (c' := c) (es' := es) (as' := as) (fun pl' w' T => E.tr T)
      refine ⟨.tuple #[], _, pl, .inl ?_, T, O, .tup [] [] rfl (fun i hi => absurd hi (Nat.not_lt_zero i)), B, fun hc => by simp [calm, ho] at hc⟩
      rw [run_builtin ho]
      simp [e1, e2, builtin, hrun]
/-! Iterators. -/
def itrow (l c c' : Nat) (seen : List Nat) : Nat → List D
  | 0 => [.mref l 0]
  | 1 => [.raw (.int .i64 c)]
  | 2 => [.raw (.int .i64 c')]
  | r + 3 => match seen[r]? with
    | some b => [.raw (.int .i64 b)]
    | none => [.undef]
/-- An iterator over map l, begun at clock c, last step at c'; 'seen': the entries met. -/
def iterOb (l c c' : Nat) (seen : List Nat) : Ob := ⟨.iter, 0, 1, seen.length + 3, itrow l c c' seen⟩
def prange (L : Lay) (h : List Ob) (t : TypeId) (x : D) : Option (Prop × List Ob × D) := match ty L t with
  | some ⟨.map _ _, _, _, _⟩ => match x with
    | .mref l g => match h[l]? with
      | some o => some (IsMap .i64 o ∧ g = 0, h ++ [iterOb l (clockOf o) (clockOf o) []], .mref h.length 0)
      | none => none
    | _ => none
  | _ => none
theorem iterAt_of {Z : Nat → Prop} {h : List Ob} {pl : List Pl} {w : World} {l c c' : Nat} {seen : List Nat} {b m : Nat} {sn : Array Nat} (hb : w.heap[b]? = some (.mapIter (some m) c sn c')) (hs : sn.toList = seen) (hm : RelV Z h pl w (.mref l 0) (.map (some m))) : ObAt Z h pl w (iterOb l c c' seen) b 0 := by
  subst hs
  refine ObAt.ofIter rfl ⟨rfl, rfl, m, c, c', sn, hb, by simp [iterOb], fun i _ => ?_, hm, .cl _ _ (.raw _), .cl _ _ (.raw _), fun i s hs => ?_⟩
  · show (itrow l c c' sn.toList i).length = 1
    unfold itrow; split <;> (try split) <;> rfl
  · have hs : sn.toList[i]? = some s := by simpa using hs
    show RelV Z h pl w (nth (itrow l c c' sn.toList (i + 3)) 0) _
    have : itrow l c c' sn.toList (i + 3) = [.raw (.int .i64 s)] := by simp only [itrow, hs]
    rw [this]; exact .cl _ _ (.raw _)
theorem iterAt_to {Z : Nat → Prop} {h : List Ob} {pl : List Pl} {w : World} {l c c' : Nat} {seen : List Nat} {b p : Nat} (x : ObAt Z h pl w (iterOb l c c' seen) b p) : p = 0 ∧ ∃ (m : Nat) (sn : Array Nat), w.heap[b]? = some (.mapIter (some m) c sn c') ∧ sn.toList = seen ∧ RelV Z h pl w (.mref l 0) (.map (some m)) := by
  obtain ⟨h0, _, m, since, last, sn, h1, h2, _, h4, h5, h6, h7⟩ := x.iter rfl
  have e1 : since = c := by have := inv_raw h5; simp at this; omega
  have e2 : last = c' := by have := inv_raw h6; simp at this; omega
  subst e1; subst e2
  refine ⟨h0, m, sn, h1, ?_, h4⟩
  have hl : seen.length = sn.size := by simpa [iterOb] using h2
  apply List.ext_getElem?
  intro i
  by_cases hi : i < sn.size
  · have h8 := h7 i sn[i] (Array.getElem?_eq_getElem hi)
    have e3 : (iterOb l since last seen).row (i + 3) = [.raw (.int .i64 (seen[i]'(by omega)))] := by
      show itrow l since last seen (i + 3) = _
      simp only [itrow, List.getElem?_eq_getElem (show i < seen.length by omega)]
    rw [e3] at h8
    have := inv_raw h8
    simp at this
    rw [List.getElem?_eq_getElem (show i < sn.toList.length by simpa using hi), List.getElem?_eq_getElem (show i < seen.length by omega)]
    simp only [Array.getElem_toList, Option.some.injEq]; omega
  · rw [List.getElem?_eq_none (by simp; omega), List.getElem?_eq_none (by omega)]
theorem range_ok (hL : LayOk P L) (ho : o.op = .range t x) {p : Prop} {h' : List Ob} {d : D} (h : prange L s.h t (evalO s.fr x) = some (p, h', d)) (hp : p) : EffOk P base nt o s h' d := by
  unfold prange at h
  split at h
  case h_2 => cases h
  rename_i kt et _ _ _ ht
  split at h
  case h_2 => cases h
  rename_i l g hx
  split at h
  case h_2 => cases h
  rename_i ob hob
  simp only [Option.some.injEq, Prod.mk.injEq] at h
  obtain ⟨rfl, rfl, rfl⟩ := h
  obtain ⟨hm, rfl⟩ := hp
  obtain ⟨kd, c, es, hkd, _, hcs, _, hm⟩ := hm.get
  rw [hcs]
  subst hm
  intro Z pl a w r hbs
  obtain ⟨b, as, e1, h2, _, hb, E⟩ := map_at r hkd hx hob
  have hrun := range_run (P := P) (w := w) (under_map (hL t _ ht) rfl) hb
  have e : ∀ b', b' < w.heap.size → (w.alloc (.mapIter (some b) c #[] c)).heap[b']? = w.heap[b']? := fun b' hb => heap_push_old w _ b' hb
  have hnew : (w.alloc (.mapIter (some b) c #[] c)).heap[w.heap.size]? = some (.mapIter (some b) c #[] c) := heap_alloc_new w _
  have T : Tr s.h pl w (s.h ++ [iterOb l c c []]) (pl ++ [some (w.heap.size, 0)]) (w.alloc (.mapIter (some b) c #[] c)) := Tr.push r.o e _ _ (by intro b q h; simp at h; omega)
  have hpl : pl.length = s.h.length := r.o.len
  have hv := r.eval x
  rw [hx, e1] at hv
  refine ⟨.pointer (some ⟨w.heap.size, 0, none⟩), w.alloc (.mapIter (some b) c #[] c), pl ++ [some (w.heap.size, 0)], .inl ?_, T, ?_, ?_, below_alloc hbs _, fun _ => e⟩
  · simp [execOp, ho, e1, hrun]
  · exact RelO.push' r.o e _ (Nat.le_refl _) hbs (iterAt_of hnew rfl (hv.tr T))
  · exact .mref _ _ (iterOb l c c []) (some (w.heap.size, 0)) w.heap.size (by simp) (by rw [← hpl]; simp) ⟨by simp [iterOb, Kd.ty], rfl⟩ (Nat.le_refl _) (fun _ => rfl)
/-- A step of an iterator: all are met, or any one that is not. -/
theorem next_run (ho : o.op = .next x false) {Z : Nat → Prop} {pl : List Pl} {a : Act} {w : World} (r : Rel Z base nt s pl a w) (hbs : base ≤ w.heap.size) {li c : Nat} {es : List Ent} {seen : List Nat} (hx : evalO s.fr x = .mref li 0) (hit : s.h[li]? = some (iterOb l c c seen)) {kd : Kd} (hkd : kd.ty = 1) (hob : s.h[l]? = some (mapObK kd q c es)) :
    ((∀ e ∈ es, e.b ∈ seen) ∧ (execOp a.eval o).run P w = .ok (.value (.tuple #[.bool false])) w) ∨
    ∃ e ∈ es, e.b ∉ seen ∧ ∃ v w', (execOp a.eval o).run P w = .ok (.value v) w' ∧ Tr s.h pl w (s.h.set li (iterOb l c c (seen ++ [e.b]))) pl w' ∧ RelO Z base (s.h.set li (iterOb l c c (seen ++ [e.b]))) pl w' ∧
      RelV Z (s.h.set li (iterOb l c c (seen ++ [e.b]))) pl w' (.tup [.raw (.bool true), .raw (.int q e.k), e.v]) v ∧ Below base w w' := by
  have e1 := r.eval x
  rw [hx] at e1
  obtain ⟨o', p, b, h1, h2, h3, h4, h5⟩ := inv_mref e1
  rw [hit] at h1; cases h1
  have h5 := h5 rfl
  rw [h5] at h2
  obtain ⟨hb0, xat⟩ := r.o.at_ li _ b 0 hit h2
  obtain ⟨_, m, sn, hb, hsn, hmr⟩ := iterAt_to xat
  have hv : a.eval x = .pointer (some ⟨b, 0, none⟩) := h3.2
  obtain ⟨o2, p2, bm, k1, k2, k3, k4, k5⟩ := inv_mref hmr
  rw [hob] at k1; cases k1
  have k5 := k5 rfl
  rw [k5] at k2
  have k3 := k3.2
  rw [show (mapObK kd q c es).kd.ty = 1 from hkd] at k3
  have k3 : m = bm := by simpa [mval] using k3
  subst k3
  obtain ⟨hm0, mat⟩ := r.o.at_ l _ m 0 hob k2
  obtain ⟨_, as, hbm, E⟩ := mapAt_to hkd mat
  have hl : es.length = as.toList.length := E.len
  have hold : ∀ y ∈ as.toList, y.born < c := fun y hy => by
    obtain ⟨j, hj⟩ := List.getElem?_of_mem hy
    have hlt := (List.getElem?_eq_some_iff.1 hj).1
    exact (E.at_ j (es[j]'(by omega)) y (List.getElem?_eq_getElem (by omega)) hj).2.2.2
  rcases run_next_at (P := P) w o.type b m c c sn as c hb hbm hold (Nat.le_refl _) with ⟨g1, g2⟩ | ⟨y, g1, w1, g2, g3⟩
  · refine .inl ⟨fun e he => ?_, by simp [execOp, ho, hv, g2]⟩
    obtain ⟨j, hj⟩ := List.getElem?_of_mem he
    have hlt := (List.getElem?_eq_some_iff.1 hj).1
    obtain ⟨_, _, e3, _⟩ := E.at_ j e (as.toList[j]'(by omega)) hj (List.getElem?_eq_getElem (by omega))
    have hnone : ∀ z ∈ as.toList, sn.contains z.born = true := fun z hz => by
      have : leftOf as sn = #[] := Array.eq_empty_of_size_eq_zero g1
      unfold leftOf at this
      rw [Array.filter_eq_empty_iff] at this
      have := this z (by simpa using hz)
      simpa using this
    have := hnone _ (List.getElem_mem (show j < as.toList.length by omega))
    rw [e3] at this
    rw [← hsn]
    simpa using this
  · obtain ⟨j, hj⟩ := List.getElem?_of_mem (show y ∈ as.toList by unfold leftOf at g1; simp at g1; simpa using g1.1)
    have hlt := (List.getElem?_eq_some_iff.1 hj).1
    obtain ⟨d1, d2, d3, d4⟩ := E.at_ j (es[j]'(by omega)) y (List.getElem?_eq_getElem (by omega)) hj
    have hns : y.born ∉ sn.toList := by unfold leftOf at g1; simp at g1; simpa using g1.2
    refine .inr ⟨es[j]'(by omega), List.getElem_mem _, by rw [← d3, ← hsn]; exact hns, ?_⟩
    rw [← d3]
    have hh : w1.heap = w.heap := by rcases g2 with rfl | rfl <;> rfl
    generalize hw' : ChangeMaps.setBlock w1 b (.mapIter (some m) c (sn.push y.born) c) = w' at g3
    have hbl := lt_of_heap hb
    have hwh : w'.heap = w.heap.setIfInBounds b (.mapIter (some m) c (sn.push y.born) c) := by rw [← hw', ← hh]; rfl
    have e : ∀ k, k ≠ b → w'.heap[k]? = w.heap[k]? := fun k hk => by rw [hwh]; simp [Array.getElem?_setIfInBounds, Ne.symm hk]
    have hnew : w'.heap[b]? = some (.mapIter (some m) c (sn.push y.born) c) := by rw [hwh]; simp [Array.getElem?_setIfInBounds, hbl]
    have T := Tr.turn (w' := w') r.o hit h2 e (o' := iterOb l c c (seen ++ [y.born])) rfl rfl rfl (by rw [hb]; intro c el h; cases h)
    refine ⟨_, w', by simp only [execOp, ho, hv, Sem.run_bind, g3, Result.andThen_ok]; rfl, T, RelO.turn (hro := rfl) r.o hit h2 e T (iterAt_of hnew (by rw [Array.toList_push, hsn]) (hmr.tr T)), ?_, ?_⟩
    · rw [d1]
      exact .tup _ [.bool true, .int q (es[j]'(by omega)).k, y.val] rfl fun i hi => match i, hi with
        | 0, _ => .cl _ _ (.raw _)
        | 1, _ => .cl _ _ (.raw _)
        | 2, _ => d2.tr T
    · have B : Below base w w1 := by
        rcases g2 with rfl | rfl
        · exact .refl _ _
        · exact (Below.refl _ _).drew
      refine B.trans (below_of (hb0 rfl) (fun k hk => by rw [hh]; exact e k hk) (by rw [hwh, hh]; simp) (by rw [← hw']; rfl) (by rw [← hw']; rfl) (by rw [← hw']; rfl))
end
end Go.Fg
