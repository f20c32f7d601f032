/- From the readings of a row's arguments to abstract values. No conditions: laws. -/
import Derived.Test.YtkcpaffgpmjmfaaFgSimp
import Derived.Deep.Slices
import Derived.ChangeArms
import Derived.OpenShut
namespace Go.Fg

/-- What one cell of a flat type is. -/
inductive K where
  | int (k : IntKind)
  | bool
  | str
def K.ok : K → Value → Prop
  | .int k, v => ∃ n, v = .int k n ∧ (Lit.int k n).wf = true
  | .bool, v => ∃ b, v = .bool b
  | .str, v => ∃ s : ByteArray, v = .string s ∧ s.size ≤ maxLen
def okL : List K → List Value → Prop
  | [], [] => True
  | k :: ks, v :: vs => k.ok v ∧ okL ks vs
  | _, _ => False
def kindsF (P : Program) (g : TypeId → Option (List K)) : List Field → Nat → Option (List K)
  | [], _ => some []
  | f :: fs, off => match g f.type with
    | some ks => bif Nat.beq f.offset off && Nat.beq (P.cellsOf f.type) ks.length then (match kindsF P g fs (off + ks.length) with
      | some r => some (ks ++ r)
      | none => none) else none
    | none => none
def kinds (P : Program) : Nat → TypeId → Option (List K)
  | 0, _ => none
  | n + 1, t => match P.underlying t with
    | some .bool => some [.bool]
    | some (.int k) => some [.int k]
    | some .string => some [.str]
    | some (.struct fs) => match kindsF P (kinds P n) fs.toList 0 with
      | some ks => bif Nat.beq (P.cellsOf t) ks.length then some ks else none
      | none => none
    | some (.array m e) => match kinds P n e with
      | some ks => bif Nat.beq (P.cellsOf e) ks.length && Nat.beq (P.cellsOf t) (m * ks.length) then some (List.replicate m ks).flatten else none
      | none => none
    | _ => none

theorem okL_length : ∀ {ks : List K} {vs : List Value}, okL ks vs → vs.length = ks.length
  | [], [], _ => rfl
  | [], _ :: _, h => h.elim
  | _ :: _, [], h => h.elim
  | _ :: _, _ :: _, h => by simp [okL_length h.2]
theorem okL_append : ∀ {ks ks' : List K} {vs : List Value}, okL ks (vs.take ks.length) → okL ks' (vs.drop ks.length) → okL (ks ++ ks') vs
  | [], ks', vs, _, h => by simpa using h
  | k :: ks, ks', [], h, _ => h.elim
  | k :: ks, ks', v :: vs, h, h' => ⟨h.1, okL_append h.2 (by simpa using h')⟩

section
variable {H : Type} {enc : TypeId × Value → H} {P : Program} {w : World} {base : Nat} {spare : Nat → Bool} {held : Bool}
theorem kindsF_ok {g : TypeId → Option (List K)} {m : Nat} (ih : ∀ t ks cs x, g t = some ks → DataW.trod enc P w base spare held m t cs = some x → okL ks cs) (cs : List Value) : ∀ (fs : List Field) (off : Nat) (ks : List K),
    kindsF P g fs off = some ks → (∀ f ∈ fs, ∃ y, DataW.trod enc P w base spare held m f.type ((cs.drop f.offset).take (P.cellsOf f.type)) = some y) → off + ks.length = cs.length → okL ks (cs.drop off)
  | [], off, ks, h, _, hl => by
    simp [kindsF] at h; subst h
    have : cs.drop off = [] := List.drop_eq_nil_of_le (by simp at hl; omega)
    rw [this]; trivial
  | f :: fs, off, ks, h, hy, hl => by
    simp only [kindsF] at h
    split at h
    · rename_i k1 hk1
      obtain ⟨hb, h⟩ := cond_none h
      simp only [Bool.and_eq_true, Nat.beq_eq] at hb
      split at h
      · rename_i r hr
        simp only [Option.some.injEq] at h
        subst h
        obtain ⟨y, hy1⟩ := hy f (by simp)
        have h1 := ih _ _ _ _ hk1 hy1
        rw [hb.1, hb.2] at h1
        refine okL_append h1 ?_
        rw [List.drop_drop]
        exact kindsF_ok ih cs fs _ r hr (fun f' hf' => hy f' (by simp [hf'])) (by simp at hl; omega)
      · cases h
    · cases h
theorem kindsA_ok {ks : List K} {m n : Nat} {e : TypeId} {cs : List Value} (ih : ∀ cs x, DataW.trod enc P w base spare held m e cs = some x → okL ks cs) (hc : P.cellsOf e = ks.length) : ∀ (k i : Nat), i + k = n →
    (∀ j, j < n → ∃ y, DataW.trod enc P w base spare held m e ((cs.drop (j * P.cellsOf e)).take (P.cellsOf e)) = some y) → cs.length = n * ks.length → okL (List.replicate k ks).flatten (cs.drop (i * ks.length))
  | 0, i, hi, _, hl => by
    have hi : i = n := hi
    subst hi
    have : cs.drop (i * ks.length) = [] := List.drop_eq_nil_of_le (by omega)
    rw [this]; trivial
  | k + 1, i, hi, hy, hl => by
    rw [List.replicate_succ, List.flatten_cons]
    obtain ⟨y, hy1⟩ := hy i (by omega)
    have h1 := ih _ _ hy1
    rw [hc] at h1
    refine okL_append h1 ?_
    rw [List.drop_drop, ← Nat.succ_mul]
    exact kindsA_ok ih hc k (i + 1) (by omega) hy hl
theorem kinds_ok : ∀ (n : Nat) (m : Nat) (t : TypeId) (ks : List K) (cs : List Value) (x : DataW H × List MemPlace), kinds P n t = some ks → DataW.trod enc P w base spare held m t cs = some x → okL ks cs
  | 0, _, _, _, _, _, h, _ => by cases h
  | n + 1, m, t, ks, cs, x, h, hx => by
    simp only [kinds] at h
    split at h
    · rename_i ht
      obtain ⟨b, rfl, _⟩ := DataW.trod_bool ht hx
      cases h; exact ⟨⟨b, rfl⟩, trivial⟩
    · rename_i k ht
      obtain ⟨b, rfl, _, hw⟩ := DataW.trod_int ht hx
      cases h; exact ⟨⟨b, rfl, hw⟩, trivial⟩
    · rename_i ht
      obtain ⟨b, rfl, _, hw⟩ := DataW.trod_string ht hx
      cases h; exact ⟨⟨b, rfl, hw⟩, trivial⟩
    · rename_i fs ht
      split at h
      · rename_i k1 hk1
        obtain ⟨hb, h⟩ := cond_none h
        simp only [Nat.beq_eq] at hb
        cases h
        obtain ⟨xs, m', rfl, _, hl, hxl, hf⟩ := DataW.trod_struct ht hx
        have := kindsF_ok (enc := enc) (w := w) (base := base) (spare := spare) (held := held) (m := m') (fun t ks cs x h1 h2 => kinds_ok n m' t ks cs x h1 h2) cs fs.toList 0 ks hk1 (fun f hf' => by
          obtain ⟨i, hi⟩ := List.getElem?_of_mem hf'
          have hi' : fs[i]? = some f := by simpa using hi
          have hlt : i < xs.length := by rw [hxl]; exact (Array.getElem?_eq_some_iff.1 hi').1
          exact ⟨xs[i], by rw [hf i f hi']; exact List.getElem?_eq_getElem hlt⟩) (by omega)
        simpa using this
      · cases h
    · rename_i k e ht
      split at h
      · rename_i k1 hk1
        obtain ⟨hb, h⟩ := cond_none h
        simp only [Bool.and_eq_true, Nat.beq_eq] at hb
        cases h
        obtain ⟨xs, m', rfl, _, hl, hxl, hf⟩ := DataW.trod_array ht hx
        have := kindsA_ok (enc := enc) (w := w) (base := base) (spare := spare) (held := held) (m := m') (n := k) (fun cs x h2 => kinds_ok n m' e k1 cs x hk1 h2) hb.1 k 0 (by omega) (fun j hj => by
          have hlt : j < xs.length := by omega
          exact ⟨xs[j], by rw [hf j hj]; exact List.getElem?_eq_getElem hlt⟩) (by omega)
        simpa using this
      · cases h
    · cases h

/-- Raw cells. -/
theorem cl_raws {N : Nat → Prop} {w : World} (cs : List Value) (j : Nat) : j < (cs.map D.raw).length → Cl N w (nth (cs.map D.raw) j) (nthV cs j) := fun hj => by
  have hj : j < cs.length := by simpa using hj
  have e1 : nth (cs.map D.raw) j = .raw (nthV cs j) := by simp [nth, nthV, List.getD_eq_getElem?_getD, hj]
  rw [e1]; exact .raw _
/-- A slice that came in, of a flat type: its rows. -/
theorem slice_in {α : Type} [Inhabited α] {ok : α → Prop} {cells : α → List D} {t e : TypeId} {n : Nat} {ks : List K} (ht : P.underlying t = some (.slice e)) (hk : kinds P n e = some ks) (hsz : P.cellsOf e = ks.length) (hpos : 0 < ks.length)
    (hdec : ∀ cs, okL ks cs → ∃ a, ok a ∧ cells a = cs.map D.raw) {v : Value} {d : DataW H} {ps : List MemPlace} (h : DataW.Trod enc P w base (fun _ => true) held t v d ps) (hv : v.cells.toList = [v]) :
    ∃ l : List α, (∀ a ∈ l, ok a) ∧ l.length ≤ maxLen ∧ Cl (fun _ => True) w (.imm ks.length l.length fun i => cells (l.getD i default)) v := by
  obtain ⟨fuel, hf⟩ := h
  rw [hv] at hf
  rcases Deep.open_slice ht hf with ⟨h1, _⟩ | ⟨a, len, cap, m, n', D', Pl, h1, hb, hl, hm, hmm, _, hel⟩
  · have : v = .slice none 0 0 := by simpa using h1
    subst this
    exact ⟨[], by simp, by simp, .imm _ _ _ _ _ 0 0 (fun _ _ => Go.undef) (fun h => by simp at h) (by simp) (fun i hi => by simp at hi) (fun i j hi => by simp at hi) (fun i j hi => by simp at hi)⟩
  · have : v = .slice (some a) len cap := by simpa using h1
    subst this
    simp only [if_true] at hmm
    have key : ∀ i, ∃ ac : α × List Value, i < len → ok ac.1 ∧ cells ac.1 = ac.2.map D.raw ∧ ac.2.length = ks.length ∧ ∀ j, j < ks.length → w.cell? (a.add (i * ks.length + j)) = some (nthV ac.2 j) := fun i => by
      by_cases hi : i < len
      · obtain ⟨cs', h1, h2⟩ := hel i (by omega)
        have hok := kinds_ok n n' e ks cs' _ hk h2
        obtain ⟨x, hx, hxc⟩ := hdec cs' hok
        obtain ⟨_, hlen, hcell⟩ := World.cells?_some h1
        have hl2 := okL_length hok
        refine ⟨(x, cs'), fun _ => ⟨hx, hxc, hl2, fun j hj => ?_⟩⟩
        have := hcell j (by omega)
        rw [Deep.add_add, hsz] at this
        rw [this]
        simp [nthV, List.getD_eq_getElem?_getD, List.getElem?_eq_getElem (show j < cs'.length by omega)]
      · exact ⟨(default, []), fun h => absurd h hi⟩
    obtain ⟨f, hf⟩ := Classical.axiomOfChoice key
    have hlen : ((List.range len).map fun i => (f i).1).length = len := by simp
    have hget : ∀ i, i < len → ((List.range len).map fun i => (f i).1).getD i default = (f i).1 := fun i hi => by simp [List.getD_eq_getElem?_getD, hi]
    refine ⟨(List.range len).map fun i => (f i).1, fun x hx => ?_, by rw [hlen]; omega, ?_⟩
    · obtain ⟨i, hi, rfl⟩ := List.mem_map.1 hx
      exact (hf i (List.mem_range.1 hi)).1
    · rw [hlen]
      have hspot : 0 < len → a = ⟨a.block, a.off, none⟩ := fun h0 => by
        have h1 := (hf 0 h0).2.2.2 0 hpos
        have h2 := World.cell?_spot h1
        obtain ⟨b, o, sp⟩ := a
        simp [Addr.add] at h2
        subst h2; rfl
      refine .imm _ _ _ _ _ a.block a.off (fun i j => nthV (f i).2 j) (fun h0 => by rw [← hspot h0]) hl (fun i hi => ?_) (fun i j hi hj => ⟨trivial, ?_⟩) (fun i j hi hj => ?_)
      · rw [hget i hi, (hf i hi).2.1, List.length_map, (hf i hi).2.2.1]
      · have h1 := (hf i hi).2.2.2 j hj
        rw [hspot (by omega)] at h1
        rw [← h1]
        congr 1
        simp only [Addr.add]
        split <;> simp_all
      · rw [hget i hi, (hf i hi).2.1]
        exact cl_raws _ _ (by rw [List.length_map, (hf i hi).2.2.1]; exact hj)
end
end Go.Fg
