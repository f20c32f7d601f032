/- From the readings of a row's arguments to abstract values. No conditions: laws. -/
import Derived.Test.YtiiaocpkjmiacaaFgSel
import Derived.Deep.Slices
import Derived.ChangeArms
import Derived.OpenShut
import Derived.ProofKit
import Derived.ChangeOld
import Derived.Below
import Derived.WideShapes
namespace Go.Fg
set_option linter.unusedSimpArgs false
set_option linter.unusedVariables false
open Go.RowKit (Below)

/-- Whatever cells of type t are trodden, they read as enc a, for an a that may be. -/
def Rd (P : Program) (t : TypeId) {α : Type} (ok : α → Prop) (enc : α → List D) : Prop :=
  ∀ {H : Type} {en : TypeId × Value → H} {w : World} {base : Nat} {held : Bool} (m : Nat) (cs : List Value) (x : DataW H × List MemPlace), DataW.trod en P w base (fun _ => true) held m t cs = some x →
    ∃ a, ok a ∧ (enc a).length = cs.length ∧ ∀ j, j < cs.length → Cl (fun _ => True) w (nth (enc a) j) (nthV cs j)
theorem Rd.int {P : Program} {t : TypeId} (k : IntKind) (ht : P.underlying t = some (.int k)) : Rd P t (fun n : Int => (Lit.int k n).wf = true) (fun n => [.raw (.int k n)]) := by
  intro H en w base held m cs x h
  obtain ⟨n, rfl, _, hw⟩ := DataW.trod_int ht h
  refine ⟨n, hw, rfl, fun j hj => ?_⟩
  obtain rfl : j = 0 := by simpa using hj
  exact .raw _
theorem Rd.bool {P : Program} {t : TypeId} (ht : P.underlying t = some .bool) : Rd P t (fun _ : Bool => True) (fun n => [.raw (.bool n)]) := by
  intro H en w base held m cs x h
  obtain ⟨n, rfl, _⟩ := DataW.trod_bool ht h
  refine ⟨n, trivial, rfl, fun j hj => ?_⟩
  obtain rfl : j = 0 := by simpa using hj
  exact .raw _
theorem Rd.str {P : Program} {t : TypeId} (ht : P.underlying t = some .string) : Rd P t (fun s : ByteArray => s.size ≤ maxLen) (fun n => [.raw (.string n)]) := by
  intro H en w base held m cs x h
  obtain ⟨n, rfl, _, hw⟩ := DataW.trod_string ht h
  refine ⟨n, hw, rfl, fun j hj => ?_⟩
  obtain rfl : j = 0 := by simpa using hj
  exact .raw _
theorem Rd.map {P : Program} {t : TypeId} {α β : Type} {ok : α → Prop} {enc : α → List D} (r : Rd P t ok enc) (g : α → β) {ok' : β → Prop} {enc' : β → List D} (he : ∀ a, enc' (g a) = enc a) (ho : ∀ a, ok a → ok' (g a)) : Rd P t ok' enc' := by
  intro H en w base held m cs x h
  obtain ⟨a, h1, h2, h3⟩ := r m cs x h
  exact ⟨g a, ho a h1, by rw [he]; exact h2, by rw [he]; exact h3⟩
/-- The fields of a struct, from the cell 'off' on. -/
def RdF (P : Program) (fs : List Field) (off tot : Nat) {α : Type} (ok : α → Prop) (enc : α → List D) : Prop :=
  ∀ {H : Type} {en : TypeId × Value → H} {w : World} {base : Nat} {held : Bool} (m : Nat) (cs : List Value), cs.length = tot →
    (∀ f ∈ fs, ∃ x, DataW.trod en P w base (fun _ => true) held m f.type ((cs.drop f.offset).take (P.cellsOf f.type)) = some x) →
    ∃ a, ok a ∧ off + (enc a).length = tot ∧ ∀ j, off + j < tot → Cl (fun _ => True) w (nth (enc a) j) (nthV cs (off + j))
theorem RdF.nil {P : Program} {tot : Nat} : RdF P [] tot tot (fun _ : Unit => True) (fun _ => []) := by
  intro H en w base held m cs hl h
  exact ⟨(), trivial, rfl, fun j hj => by omega⟩
theorem RdF.cons {P : Program} {f : Field} {fs : List Field} {off off' tot : Nat} {α β : Type} {ok : α → Prop} {enc : α → List D} {ok' : β → Prop} {enc' : β → List D} (r : Rd P f.type ok enc) (rs : RdF P fs off' tot ok' enc')
    (ho : f.offset = off) (hc : off + P.cellsOf f.type = off') (ht : off' ≤ tot) : RdF P (f :: fs) off tot (fun ab : α × β => ok ab.1 ∧ ok' ab.2) (fun ab => enc ab.1 ++ enc' ab.2) := by
  intro H en w base held m cs hl h
  obtain ⟨x, hx⟩ := h f (by simp)
  obtain ⟨a, a1, a2, a3⟩ := r m _ x hx
  obtain ⟨b, b1, b2, b3⟩ := rs m cs hl fun g hg => h g (by simp [hg])
  have hlen : ((cs.drop f.offset).take (P.cellsOf f.type)).length = P.cellsOf f.type := by simp; omega
  rw [hlen] at a2 a3
  refine ⟨(a, b), ⟨a1, b1⟩, by simp; omega, fun j hj => ?_⟩
  by_cases h1 : j < P.cellsOf f.type
  · have := a3 j h1
    have e1 : nth (enc a ++ enc' b) j = nth (enc a) j := nth_append_lt (by omega)
    have e2 : nthV ((cs.drop f.offset).take (P.cellsOf f.type)) j = nthV cs (off + j) := by
      simp only [nthV, List.getD_eq_getElem?_getD, List.getElem?_take, if_pos h1, List.getElem?_drop, ho]
    show Cl _ w (nth (enc a ++ enc' b) j) _
    rw [e1, ← e2]; exact this
  · have e1 : nth (enc a ++ enc' b) j = nth (enc' b) (j - P.cellsOf f.type) := by rw [nth_append_ge (by omega), a2]
    have := b3 (j - P.cellsOf f.type) (by omega)
    show Cl _ w (nth (enc a ++ enc' b) j) _
    rw [e1, show off + j = off' + (j - P.cellsOf f.type) by omega]; exact this
theorem Rd.struct {P : Program} {t : TypeId} {fs : Array Field} {tot : Nat} {α : Type} {ok : α → Prop} {enc : α → List D} (ht : P.underlying t = some (.struct fs)) (hc : P.cellsOf t = tot) (r : RdF P fs.toList 0 tot ok enc) : Rd P t ok enc := by
  intro H en w base held m cs x h
  obtain ⟨xs, m', rfl, _, hl, hxl, hf⟩ := DataW.trod_struct ht h
  obtain ⟨a, a1, a2, a3⟩ := r m' cs (by omega) fun f hf' => by
    obtain ⟨i, hi⟩ := List.getElem?_of_mem hf'
    have hi' : fs[i]? = some f := by simpa using hi
    have hlt : i < xs.length := by rw [hxl]; exact (Array.getElem?_eq_some_iff.1 hi').1
    exact ⟨xs[i], by rw [hf i f hi']; exact List.getElem?_eq_getElem hlt⟩
  exact ⟨a, a1, by omega, fun j hj => by have := a3 j (by omega); rwa [Nat.zero_add] at this⟩
/-- The elements of an array, from the i-th on. -/
def RdA (P : Program) (e : TypeId) (i n : Nat) {α : Type} (ok : α → Prop) (enc : α → List D) : Prop :=
  ∀ {H : Type} {en : TypeId × Value → H} {w : World} {base : Nat} {held : Bool} (m : Nat) (cs : List Value), cs.length = n * P.cellsOf e →
    (∀ k, k < n → ∃ x, DataW.trod en P w base (fun _ => true) held m e ((cs.drop (k * P.cellsOf e)).take (P.cellsOf e)) = some x) →
    ∃ a, ok a ∧ i * P.cellsOf e + (enc a).length = n * P.cellsOf e ∧ ∀ j, i * P.cellsOf e + j < n * P.cellsOf e → Cl (fun _ => True) w (nth (enc a) j) (nthV cs (i * P.cellsOf e + j))
theorem RdA.nil {P : Program} {e : TypeId} {n : Nat} : RdA P e n n (fun _ : Unit => True) (fun _ => []) := by
  intro H en w base held m cs hl h
  exact ⟨(), trivial, rfl, fun j hj => by omega⟩
theorem RdA.cons {P : Program} {e : TypeId} {i n : Nat} {α β : Type} {ok : α → Prop} {enc : α → List D} {ok' : β → Prop} {enc' : β → List D} (hi : i < n) (r : Rd P e ok enc) (rs : RdA P e (i + 1) n ok' enc') :
    RdA P e i n (fun ab : α × β => ok ab.1 ∧ ok' ab.2) (fun ab => enc ab.1 ++ enc' ab.2) := by
  intro H en w base held m cs hl h
  obtain ⟨x, hx⟩ := h i hi
  obtain ⟨a, a1, a2, a3⟩ := r m _ x hx
  obtain ⟨b, b1, b2, b3⟩ := rs m cs hl h
  have hm := Nat.mul_le_mul_right (P.cellsOf e) (show i + 1 ≤ n from hi)
  rw [Nat.add_mul, Nat.one_mul] at hm
  rw [Nat.add_mul, Nat.one_mul] at b2 b3
  have hlen : ((cs.drop (i * P.cellsOf e)).take (P.cellsOf e)).length = P.cellsOf e := by simp; omega
  rw [hlen] at a2 a3
  refine ⟨(a, b), ⟨a1, b1⟩, by simp; omega, fun j hj => ?_⟩
  by_cases h1 : j < P.cellsOf e
  · have := a3 j h1
    have e1 : nth (enc a ++ enc' b) j = nth (enc a) j := nth_append_lt (by omega)
    have e2 : nthV ((cs.drop (i * P.cellsOf e)).take (P.cellsOf e)) j = nthV cs (i * P.cellsOf e + j) := by
      simp only [nthV, List.getD_eq_getElem?_getD, List.getElem?_take, if_pos h1, List.getElem?_drop]
    show Cl _ w (nth (enc a ++ enc' b) j) _
    rw [e1, ← e2]; exact this
  · have e1 : nth (enc a ++ enc' b) j = nth (enc' b) (j - P.cellsOf e) := by rw [nth_append_ge (by omega), a2]
    have := b3 (j - P.cellsOf e) (by omega)
    show Cl _ w (nth (enc a ++ enc' b) j) _
    rw [e1, show i * P.cellsOf e + j = i * P.cellsOf e + P.cellsOf e + (j - P.cellsOf e) by omega]; exact this
theorem Rd.array {P : Program} {t e : TypeId} {n : Nat} {α : Type} {ok : α → Prop} {enc : α → List D} (ht : P.underlying t = some (.array n e)) (hc : P.cellsOf t = n * P.cellsOf e) (r : RdA P e 0 n ok enc) : Rd P t ok enc := by
  intro H en w base held m cs x h
  obtain ⟨xs, m', rfl, _, hl, hxl, hf⟩ := DataW.trod_array ht h
  obtain ⟨a, a1, a2, a3⟩ := r m' cs (by omega) fun k hk => by
    have hlt : k < xs.length := by omega
    exact ⟨xs[k], by rw [hf k hk]; exact List.getElem?_eq_getElem hlt⟩
  simp only [Nat.zero_mul, Nat.zero_add] at a2 a3
  exact ⟨a, a1, by omega, fun j hj => a3 j (by omega)⟩
theorem Rd.slice {P : Program} {t e : TypeId} {α : Type} [Inhabited α] {ok : α → Prop} {enc : α → List D} (sz : Nat) (ht : P.underlying t = some (.slice e)) (hc : P.cellsOf e = sz) (hpos : 0 < sz) (r : Rd P e ok enc) :
    Rd P t (fun l : List α => l.length ≤ maxLen ∧ ∀ a ∈ l, ok a) (fun l => [.imm sz l.length fun i => enc (l.getD i default)]) := by
  intro H en w base held m cs x h
  rcases Deep.open_slice ht h with ⟨rfl, _⟩ | ⟨a, len, cap, m, n', D', Pl, rfl, hb, hl, hm, hmm, _, hel⟩
  · refine ⟨[], ⟨by simp, by simp⟩, rfl, fun j hj => ?_⟩
    obtain rfl : j = 0 := by simpa using hj
    exact .imm _ _ _ _ _ 0 0 (fun _ _ => Go.undef) (fun h => by simp at h) (by simp) (fun i hi => by simp at hi) (fun i j hi => by simp at hi) (fun i j hi => by simp at hi)
  · simp only [if_true] at hmm
    have key : ∀ i, ∃ ac : α × List Value, i < len → ok ac.1 ∧ (enc ac.1).length = sz ∧ ac.2.length = sz ∧ (∀ j, j < sz → w.cell? (a.add (i * sz + j)) = some (nthV ac.2 j)) ∧ ∀ j, j < sz → Cl (fun _ => True) w (nth (enc ac.1) j) (nthV ac.2 j) := fun i => by
      by_cases hi : i < len
      · obtain ⟨cs', h1, h2⟩ := hel i (by omega)
        obtain ⟨x, hx, hxl, hxc⟩ := r n' cs' _ h2
        obtain ⟨_, hlen, hcell⟩ := World.cells?_some h1
        have hl2 : cs'.length = sz := by omega
        refine ⟨(x, cs'), fun _ => ⟨hx, (by show (enc x).length = sz; omega), hl2, fun j hj => ?_, fun j hj => hxc j (by omega)⟩⟩
        have := hcell j (by omega)
        rw [Deep.add_add, hc] at this
        rw [this]
        simp [nthV, List.getD_eq_getElem?_getD, List.getElem?_eq_getElem (show j < cs'.length by omega)]
      · exact ⟨(default, []), fun h => absurd h hi⟩
    obtain ⟨f, hf⟩ := Classical.axiomOfChoice key
    have hlen : ((List.range len).map fun i => (f i).1).length = len := by simp
    have hget : ∀ i, i < len → ((List.range len).map fun i => (f i).1).getD i default = (f i).1 := fun i hi => by simp [List.getD_eq_getElem?_getD, hi]
    refine ⟨(List.range len).map fun i => (f i).1, ⟨by rw [hlen]; omega, fun x hx => ?_⟩, rfl, fun j hj => ?_⟩
    · obtain ⟨i, hi, rfl⟩ := List.mem_map.1 hx
      exact (hf i (List.mem_range.1 hi)).1
    · obtain rfl : j = 0 := by simpa using hj
      show Cl _ w (.imm sz ((List.range len).map fun i => (f i).1).length fun i => enc (((List.range len).map fun i => (f i).1).getD i default)) (.slice (some a) len cap)
      rw [hlen]
      have hspot : 0 < len → a = ⟨a.block, a.off, none⟩ := fun h0 => by
        have h1 := (hf 0 h0).2.2.2.1 0 hpos
        have h2 := World.cell?_spot h1
        obtain ⟨b, o, sp⟩ := a
        simp [Addr.add] at h2
        subst h2; rfl
      refine .imm _ _ _ _ _ a.block a.off (fun i j => nthV (f i).2 j) (fun h0 => by rw [← hspot h0]) hl (fun i hi => ?_) (fun i j hi hj => ⟨trivial, ?_⟩) (fun i j hi hj => ?_)
      · rw [hget i hi]; exact (hf i hi).2.1
      · have h1 := (hf i hi).2.2.2.1 j hj
        rw [hspot (by omega)] at h1
        rw [← h1]
        congr 1
        simp only [Addr.add]
        split <;> simp_all
      · rw [hget i hi]; exact (hf i hi).2.2.2.2 j hj
/-- A parameter of one cell. -/
theorem Rd.one {P : Program} {t : TypeId} {α : Type} {ok : α → Prop} {enc : α → D} (r : Rd P t ok fun a => [enc a]) {H : Type} {en : TypeId × Value → H} {w : World} {base : Nat} {held : Bool} {v : Value} {d : DataW H} {ps : List MemPlace}
    (h : DataW.Trod en P w base (fun _ => true) held t v d ps) (hv : v.cells.toList = [v]) : ∃ a, ok a ∧ Cl (fun _ => True) w (enc a) v := by
  obtain ⟨m, hm⟩ := h
  rw [hv] at hm
  obtain ⟨a, h1, h2, h3⟩ := r m _ _ hm
  exact ⟨a, h1, h3 0 (by simp)⟩
/-- A parameter of several. -/
theorem Rd.many {P : Program} {t : TypeId} {α : Type} {ok : α → Prop} {enc : α → List D} (r : Rd P t ok enc) {H : Type} {en : TypeId × Value → H} {w : World} {base : Nat} {held : Bool} {cs : Array Value} {d : DataW H} {ps : List MemPlace}
    (h : DataW.Trod en P w base (fun _ => true) held t (.agg cs) d ps) : ∃ a, ok a ∧ Cl (fun _ => True) w (.agg (enc a)) (.agg cs) := by
  obtain ⟨m, hm⟩ := h
  have e : (Value.agg cs).cells.toList = cs.toList := rfl
  rw [e] at hm
  obtain ⟨a, h1, h2, h3⟩ := r m _ _ hm
  have := Cl.agg (N := fun _ => True) (w := w) (enc a) cs.toList h2.symm (fun i hi => h3 i (by omega))
  exact ⟨a, h1, by simpa using this⟩
theorem one_cell_slice (a : Option Addr) (l c : Nat) : (Value.slice a l c).cells.toList = [Value.slice a l c] := by simp [Value.cells]
theorem one_cell_int (k : IntKind) (n : Int) : (Value.int k n).cells.toList = [Value.int k n] := by simp [Value.cells]
theorem one_cell_bool (b : Bool) : (Value.bool b).cells.toList = [Value.bool b] := by simp [Value.cells]
theorem one_cell_string (s : ByteArray) : (Value.string s).cells.toList = [Value.string s] := by simp [Value.cells]
/-- A contract, as a call's law: the result is a bool, nothing changes. -/
theorem call_true {P : Program} {f : FuncId} {ds : List D} (h : AFn P f ds fun d h => d = .raw (.bool true) ∧ h = []) (W : World) (vs : List Value) (hl : vs.length = ds.length) (hc : ∀ i, i < ds.length → Cl (fun _ => True) W (nth ds i) (nthV vs i)) :
    Calls P f vs.toArray W fun e W' => e = .returned (.bool true) ∧ Below W.heap.size W W' := by
  refine (h (fun _ => True) W.heap.size W [] vs (Nat.le_refl _) (fun _ _ => trivial) ⟨rfl, fun l l' b q q' e => by simp at e, fun l o e => by simp at e, fun l o b q e => by simp at e⟩ hl (fun i hi => .cl _ _ ((hc i hi).mono fun b _ _ => ⟨⟨trivial, fun l q e => by simp at e⟩, rfl⟩))).mono fun e W' he => ?_
  obtain ⟨v, d, h', pl', rfl, ⟨rfl, rfl⟩, _, hv, _, hb⟩ := he
  rw [inv_raw hv]; exact ⟨rfl, hb⟩
end Go.Fg
