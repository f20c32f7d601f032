/- Walks of the functions that the statement reaches. No conditions: contracts and laws. -/
import Derived.Test.YtiiaocpkjmiacaaFgTell
import Derived.Deep.Slices
import Derived.ChangeArms
import Derived.OpenShut
import Derived.ProofKit
import Derived.ChangeOld
import Derived.Below
import Derived.WideShapes
import Derived.Test.YtiiaocpkjmiacaaXLay
import Derived.Shelf.Sort.Plain
import Derived.Shelf.Slices.In.SortNone
import Derived.Lib.SortBridge
namespace Go.Fg
set_option linter.unusedSimpArgs false
set_option linter.unusedVariables false
open Go.RowKit (Below)

/-- Whatever cells of type t are trodden, they read ens enc a, for an a that may be. -/
def Rd (P : Program) (t : TypeId) {α : Type} (ok : α → Prop) (enc : α → List D) : Prop :=
  ∀ {H : Type} {en : TypeId × Value → H} {w : World} {base : Nat} {held : Bool} (m : Nat) (cs : List Value) (x : DataW H × List MemPlace), DataW.trod en P w base (fun _ => true) held m t cs = some x →
    ∃ a, ok a ∧ (enc a).length = cs.length ∧ ∀ j, j < cs.length → Cl (fun _ => True) w (nth (enc a) j) (nthV cs j)
theorem Rd.int {P : Program} {t : TypeId} (k : IntKind) (ht : P.underlying t = some (.int k)) : Rd P t (fun n : Int => (Lit.int k n).wf = true) (fun n => [.raw (.int k n)]) := by
  intro H en w base held m cs x h
  obtain ⟨n, rfl, _, hw⟩ := DataW.trod_int ht h
  refine ⟨n, hw, rfl, fun j hj => ?_⟩
  obtain rfl : j = 0 := by simpa using hj
  exact .raw _
theorem Rd.bool {P : Program} {t : TypeId} (ht : P.underlying t = some .bool) : Rd P t (fun _ : Bool => True) (fun n => [.raw (.bool n)]) := by
  intro H en w base held m cs x h
  obtain ⟨n, rfl, _⟩ := DataW.trod_bool ht h
  refine ⟨n, trivial, rfl, fun j hj => ?_⟩
  obtain rfl : j = 0 := by simpa using hj
  exact .raw _
theorem Rd.str {P : Program} {t : TypeId} (ht : P.underlying t = some .string) : Rd P t (fun s : ByteArray => s.size ≤ maxLen) (fun n => [.raw (.string n)]) := by
  intro H en w base held m cs x h
  obtain ⟨n, rfl, _, hw⟩ := DataW.trod_string ht h
  refine ⟨n, hw, rfl, fun j hj => ?_⟩
  obtain rfl : j = 0 := by simpa using hj
  exact .raw _
theorem Rd.map {P : Program} {t : TypeId} {α β : Type} {ok : α → Prop} {enc : α → List D} (r : Rd P t ok enc) (g : α → β) {ok' : β → Prop} {enc' : β → List D} (he : ∀ a, enc' (g a) = enc a) (ho : ∀ a, ok a → ok' (g a)) : Rd P t ok' enc' := by
  intro H en w base held m cs x h
  obtain ⟨a, h1, h2, h3⟩ := r m cs x h
  exact ⟨g a, ho a h1, by rw [he]; exact h2, by rw [he]; exact h3⟩
/-- The fields of a struct, from the cell 'off' on. -/
def RdF (P : Program) (fs : List Field) (off tot : Nat) {α : Type} (ok : α → Prop) (enc : α → List D) : Prop :=
  ∀ {H : Type} {en : TypeId × Value → H} {w : World} {base : Nat} {held : Bool} (m : Nat) (cs : List Value), cs.length = tot →
    (∀ f ∈ fs, ∃ x, DataW.trod en P w base (fun _ => true) held m f.type ((cs.drop f.offset).take (P.cellsOf f.type)) = some x) →
    ∃ a, ok a ∧ off + (enc a).length = tot ∧ ∀ j, off + j < tot → Cl (fun _ => True) w (nth (enc a) j) (nthV cs (off + j))
theorem RdF.nil {P : Program} {tot : Nat} : RdF P [] tot tot (fun _ : Unit => True) (fun _ => []) := by
  intro H en w base held m cs hl h
  exact ⟨(), trivial, rfl, fun j hj => by omega⟩
theorem RdF.cons {P : Program} {f : Field} {fs : List Field} {off off' tot : Nat} {α β : Type} {ok : α → Prop} {enc : α → List D} {ok' : β → Prop} {enc' : β → List D} (r : Rd P f.type ok enc) (rs : RdF P fs off' tot ok' enc')
    (ho : f.offset = off) (hc : off + P.cellsOf f.type = off') (ht : off' ≤ tot) : RdF P (f :: fs) off tot (fun ab : α × β => ok ab.1 ∧ ok' ab.2) (fun ab => enc ab.1 ++ enc' ab.2) := by
  intro H en w base held m cs hl h
  obtain ⟨x, hx⟩ := h f (by simp)
  obtain ⟨a, a1, a2, a3⟩ := r m _ x hx
  obtain ⟨b, b1, b2, b3⟩ := rs m cs hl fun g hg => h g (by simp [hg])
  have hlen : ((cs.drop f.offset).take (P.cellsOf f.type)).length = P.cellsOf f.type := by simp; omega
  rw [hlen] at a2 a3
  refine ⟨(a, b), ⟨a1, b1⟩, by simp; omega, fun j hj => ?_⟩
  by_cases h1 : j < P.cellsOf f.type
  · have := a3 j h1
    have e1 : nth (enc a ++ enc' b) j = nth (enc a) j := nth_append_lt (by omega)
    have e2 : nthV ((cs.drop f.offset).take (P.cellsOf f.type)) j = nthV cs (off + j) := by
      simp only [nthV, List.getD_eq_getElem?_getD, List.getElem?_take, if_pos h1, List.getElem?_drop, ho]
    show Cl _ w (nth (enc a ++ enc' b) j) _
    rw [e1, ← e2]; exact this
  · have e1 : nth (enc a ++ enc' b) j = nth (enc' b) (j - P.cellsOf f.type) := by rw [nth_append_ge (by omega), a2]
    have := b3 (j - P.cellsOf f.type) (by omega)
    show Cl _ w (nth (enc a ++ enc' b) j) _
    rw [e1, show off + j = off' + (j - P.cellsOf f.type) by omega]; exact this
theorem Rd.struct {P : Program} {t : TypeId} {fs : Array Field} {tot : Nat} {α : Type} {ok : α → Prop} {enc : α → List D} (ht : P.underlying t = some (.struct fs)) (hc : P.cellsOf t = tot) (r : RdF P fs.toList 0 tot ok enc) : Rd P t ok enc := by
  intro H en w base held m cs x h
  obtain ⟨xs, m', rfl, _, hl, hxl, hf⟩ := DataW.trod_struct ht h
  obtain ⟨a, a1, a2, a3⟩ := r m' cs (by omega) fun f hf' => by
    obtain ⟨i, hi⟩ := List.getElem?_of_mem hf'
    have hi' : fs[i]? = some f := by simpa using hi
    have hlt : i < xs.length := by rw [hxl]; exact (Array.getElem?_eq_some_iff.1 hi').1
    exact ⟨xs[i], by rw [hf i f hi']; exact List.getElem?_eq_getElem hlt⟩
  exact ⟨a, a1, by omega, fun j hj => by have := a3 j (by omega); rwa [Nat.zero_add] at this⟩
/-- The elements of an array, from the i-th on. -/
def RdA (P : Program) (e : TypeId) (i n : Nat) {α : Type} (ok : α → Prop) (enc : α → List D) : Prop :=
  ∀ {H : Type} {en : TypeId × Value → H} {w : World} {base : Nat} {held : Bool} (m : Nat) (cs : List Value), cs.length = n * P.cellsOf e →
    (∀ k, k < n → ∃ x, DataW.trod en P w base (fun _ => true) held m e ((cs.drop (k * P.cellsOf e)).take (P.cellsOf e)) = some x) →
    ∃ a, ok a ∧ i * P.cellsOf e + (enc a).length = n * P.cellsOf e ∧ ∀ j, i * P.cellsOf e + j < n * P.cellsOf e → Cl (fun _ => True) w (nth (enc a) j) (nthV cs (i * P.cellsOf e + j))
theorem RdA.nil {P : Program} {e : TypeId} {n : Nat} : RdA P e n n (fun _ : Unit => True) (fun _ => []) := by
  intro H en w base held m cs hl h
  exact ⟨(), trivial, rfl, fun j hj => by omega⟩
theorem RdA.cons {P : Program} {e : TypeId} {i n : Nat} {α β : Type} {ok : α → Prop} {enc : α → List D} {ok' : β → Prop} {enc' : β → List D} (hi : i < n) (r : Rd P e ok enc) (rs : RdA P e (i + 1) n ok' enc') :
    RdA P e i n (fun ab : α × β => ok ab.1 ∧ ok' ab.2) (fun ab => enc ab.1 ++ enc' ab.2) := by
  intro H en w base held m cs hl h
  obtain ⟨x, hx⟩ := h i hi
  obtain ⟨a, a1, a2, a3⟩ := r m _ x hx
  obtain ⟨b, b1, b2, b3⟩ := rs m cs hl h
  have hm := Nat.mul_le_mul_right (P.cellsOf e) (show i + 1 ≤ n from hi)
  rw [Nat.add_mul, Nat.one_mul] at hm
  rw [Nat.add_mul, Nat.one_mul] at b2 b3
  have hlen : ((cs.drop (i * P.cellsOf e)).take (P.cellsOf e)).length = P.cellsOf e := by simp; omega
  rw [hlen] at a2 a3
  refine ⟨(a, b), ⟨a1, b1⟩, by simp; omega, fun j hj => ?_⟩
  by_cases h1 : j < P.cellsOf e
  · have := a3 j h1
    have e1 : nth (enc a ++ enc' b) j = nth (enc a) j := nth_append_lt (by omega)
    have e2 : nthV ((cs.drop (i * P.cellsOf e)).take (P.cellsOf e)) j = nthV cs (i * P.cellsOf e + j) := by
      simp only [nthV, List.getD_eq_getElem?_getD, List.getElem?_take, if_pos h1, List.getElem?_drop]
    show Cl _ w (nth (enc a ++ enc' b) j) _
    rw [e1, ← e2]; exact this
  · have e1 : nth (enc a ++ enc' b) j = nth (enc' b) (j - P.cellsOf e) := by rw [nth_append_ge (by omega), a2]
    have := b3 (j - P.cellsOf e) (by omega)
    show Cl _ w (nth (enc a ++ enc' b) j) _
    rw [e1, show i * P.cellsOf e + j = i * P.cellsOf e + P.cellsOf e + (j - P.cellsOf e) by omega]; exact this
theorem Rd.array {P : Program} {t e : TypeId} {n : Nat} {α : Type} {ok : α → Prop} {enc : α → List D} (ht : P.underlying t = some (.array n e)) (hc : P.cellsOf t = n * P.cellsOf e) (r : RdA P e 0 n ok enc) : Rd P t ok enc := by
  intro H en w base held m cs x h
  obtain ⟨xs, m', rfl, _, hl, hxl, hf⟩ := DataW.trod_array ht h
  obtain ⟨a, a1, a2, a3⟩ := r m' cs (by omega) fun k hk => by
    have hlt : k < xs.length := by omega
    exact ⟨xs[k], by rw [hf k hk]; exact List.getElem?_eq_getElem hlt⟩
  simp only [Nat.zero_mul, Nat.zero_add] at a2 a3
  exact ⟨a, a1, by omega, fun j hj => a3 j (by omega)⟩
theorem Rd.slice {P : Program} {t e : TypeId} {α : Type} [Inhabited α] {ok : α → Prop} {enc : α → List D} (sz : Nat) (ht : P.underlying t = some (.slice e)) (hc : P.cellsOf e = sz) (hpos : 0 < sz) (r : Rd P e ok enc) :
    Rd P t (fun l : List α => l.length ≤ maxLen ∧ ∀ a ∈ l, ok a) (fun l => [.imm sz l.length fun i => enc (l.getD i default)]) := by
  intro H en w base held m cs x h
  rcases Deep.open_slice ht h with ⟨rfl, _⟩ | ⟨a, len, cap, m, n', D', Pl, rfl, hb, hl, hm, hmm, _, hel⟩
  · refine ⟨[], ⟨by simp, by simp⟩, rfl, fun j hj => ?_⟩
    obtain rfl : j = 0 := by simpa using hj
    exact .imm _ _ _ _ _ 0 0 (fun _ _ => Go.undef) (fun h => by simp at h) (by simp) (fun i hi => by simp at hi) (fun i j hi => by simp at hi) (fun i j hi => by simp at hi)
  · simp only [if_true] at hmm
    have key : ∀ i, ∃ ac : α × List Value, i < len → ok ac.1 ∧ (enc ac.1).length = sz ∧ ac.2.length = sz ∧ (∀ j, j < sz → w.cell? (a.add (i * sz + j)) = some (nthV ac.2 j)) ∧ ∀ j, j < sz → Cl (fun _ => True) w (nth (enc ac.1) j) (nthV ac.2 j) := fun i => by
      by_cases hi : i < len
      · obtain ⟨cs', h1, h2⟩ := hel i (by omega)
        obtain ⟨x, hx, hxl, hxc⟩ := r n' cs' _ h2
        obtain ⟨_, hlen, hcell⟩ := World.cells?_some h1
        have hl2 : cs'.length = sz := by omega
        refine ⟨(x, cs'), fun _ => ⟨hx, (by show (enc x).length = sz; omega), hl2, fun j hj => ?_, fun j hj => hxc j (by omega)⟩⟩
        have := hcell j (by omega)
        rw [Deep.add_add, hc] at this
        rw [this]
        simp [nthV, List.getD_eq_getElem?_getD, List.getElem?_eq_getElem (show j < cs'.length by omega)]
      · exact ⟨(default, []), fun h => absurd h hi⟩
    obtain ⟨f, hf⟩ := Classical.axiomOfChoice key
    have hlen : ((List.range len).map fun i => (f i).1).length = len := by simp
    have hget : ∀ i, i < len → ((List.range len).map fun i => (f i).1).getD i default = (f i).1 := fun i hi => by simp [List.getD_eq_getElem?_getD, hi]
    refine ⟨(List.range len).map fun i => (f i).1, ⟨by rw [hlen]; omega, fun x hx => ?_⟩, rfl, fun j hj => ?_⟩
    · obtain ⟨i, hi, rfl⟩ := List.mem_map.1 hx
      exact (hf i (List.mem_range.1 hi)).1
    · obtain rfl : j = 0 := by simpa using hj
      show Cl _ w (.imm sz ((List.range len).map fun i => (f i).1).length fun i => enc (((List.range len).map fun i => (f i).1).getD i default)) (.slice (some a) len cap)
      rw [hlen]
      have hspot : 0 < len → a = ⟨a.block, a.off, none⟩ := fun h0 => by
        have h1 := (hf 0 h0).2.2.2.1 0 hpos
        have h2 := World.cell?_spot h1
        obtain ⟨b, o, sp⟩ := a
        simp [Addr.add] at h2
        subst h2; rfl
      refine .imm _ _ _ _ _ a.block a.off (fun i j => nthV (f i).2 j) (fun h0 => by rw [← hspot h0]) hl (fun i hi => ?_) (fun i j hi hj => ⟨trivial, ?_⟩) (fun i j hi hj => ?_)
      · rw [hget i hi]; exact (hf i hi).2.1
      · have h1 := (hf i hi).2.2.2.1 j hj
        rw [hspot (by omega)] at h1
        rw [← h1]
        congr 1
        simp only [Addr.add]
        split <;> simp_all
      · rw [hget i hi]; exact (hf i hi).2.2.2.2 j hj
/-- A parameter of one cell. -/
theorem Rd.one {P : Program} {t : TypeId} {α : Type} {ok : α → Prop} {enc : α → D} (r : Rd P t ok fun a => [enc a]) {H : Type} {en : TypeId × Value → H} {w : World} {base : Nat} {held : Bool} {v : Value} {d : DataW H} {ps : List MemPlace}
    (h : DataW.Trod en P w base (fun _ => true) held t v d ps) (hv : v.cells.toList = [v]) : ∃ a, ok a ∧ Cl (fun _ => True) w (enc a) v := by
  obtain ⟨m, hm⟩ := h
  rw [hv] at hm
  obtain ⟨a, h1, h2, h3⟩ := r m _ _ hm
  exact ⟨a, h1, h3 0 (by simp)⟩
/-- A parameter of several. -/
theorem Rd.many {P : Program} {t : TypeId} {α : Type} {ok : α → Prop} {enc : α → List D} (r : Rd P t ok enc) {H : Type} {en : TypeId × Value → H} {w : World} {base : Nat} {held : Bool} {cs : Array Value} {d : DataW H} {ps : List MemPlace}
    (h : DataW.Trod en P w base (fun _ => true) held t (.agg cs) d ps) : ∃ a, ok a ∧ Cl (fun _ => True) w (.agg (enc a)) (.agg cs) := by
  obtain ⟨m, hm⟩ := h
  have e : (Value.agg cs).cells.toList = cs.toList := rfl
  rw [e] at hm
  obtain ⟨a, h1, h2, h3⟩ := r m _ _ hm
  have := Cl.agg (N := fun _ => True) (w := w) (enc a) cs.toList h2.symm (fun i hi => h3 i (by omega))
  exact ⟨a, h1, by simpa using this⟩
theorem one_cell_slice (a : Option Addr) (l c : Nat) : (Value.slice a l c).cells.toList = [Value.slice a l c] := by simp [Value.cells]
theorem one_cell_int (k : IntKind) (n : Int) : (Value.int k n).cells.toList = [Value.int k n] := by simp [Value.cells]
theorem one_cell_bool (b : Bool) : (Value.bool b).cells.toList = [Value.bool b] := by simp [Value.cells]
theorem one_cell_string (s : ByteArray) : (Value.string s).cells.toList = [Value.string s] := by simp [Value.cells]
/-- A contract, ens a call's law: the result is a bool, nothing changes. -/
theorem call_true {P : Program} {f : FuncId} {ds : List D} (h : AFn P f ds fun d h => d = .raw (.bool true) ∧ h = []) (W : World) (vs : List Value) (hl : vs.length = ds.length) (hc : ∀ i, i < ds.length → Cl (fun _ => True) W (nth ds i) (nthV vs i)) :
    Calls P f vs.toArray W fun e W' => e = .returned (.bool true) ∧ Below W.heap.size W W' := by
  refine (h (fun _ => True) W.heap.size W [] vs (Nat.le_refl _) (fun _ _ => trivial) ⟨rfl, fun l l' b q q' e => by simp at e, fun l o e => by simp at e, fun l o b q e => by simp at e⟩ hl (fun i hi => .cl _ _ ((hc i hi).mono fun b _ _ => ⟨⟨trivial, fun l q e => by simp at e⟩, rfl⟩))).mono fun e W' he => ?_
  obtain ⟨v, d, h', pl', rfl, ⟨rfl, rfl⟩, _, hv, _, hb⟩ := he
  rw [inv_raw hv]; exact ⟨rfl, hb⟩
end Go.Fg
namespace Go.Fg.X
set_option linter.unusedSimpArgs false
set_option linter.unusedVariables false
open Go.Proofs Go.Fg
set_option maxRecDepth 100000
def rowsI (k : IntKind) (l : List Int) : Nat → List D := fun i => [.raw (.int k (l.getD i 0))]
@[go_sem] theorem rowsI_at (k : IntKind) (l : List Int) (i : Nat) : rowsI k l i = [.raw (.int k (l.getD i 0))] := rfl

structure Cf where
  t : Int
  lmax : Int
instance : Inhabited Cf := ⟨⟨0, 0⟩⟩
@[go_sem] def Cf.cells (x : Cf) : List D := [.raw (.int .i64 x.t), .raw (.int .i64 x.lmax)]
def Cf.rows (l : List Cf) : Nat → List D := fun i => (l.getD i default).cells
@[go_sem] theorem Cf.rows_at (l : List Cf) (i : Nat) : Cf.rows l i = (l.getD i default).cells := rfl
def Cf.Ok (x : Cf) : Prop := (Lit.int .i64 x.t).wf = true ∧ (Lit.int .i64 x.lmax).wf = true ∧ True
theorem rdCf : Rd Try.prog 23 Cf.Ok Cf.cells :=
  Rd.map (Rd.struct (tot := 2) Try.underlying23 (by kernel_rfl) (RdF.cons (Rd.int .i64 Try.underlying3) (RdF.cons (Rd.int .i64 Try.underlying3) RdF.nil rfl (by kernel_rfl) (by decide)) rfl (by kernel_rfl) (by decide))) (fun p => ⟨p.1, p.2.1⟩) (fun _ => rfl) (fun _ h => ⟨h.1, h.2.1, trivial⟩)
structure Cv where
  m1 : Int
  d : Int
  m2 : Int
instance : Inhabited Cv := ⟨⟨0, 0, 0⟩⟩
@[go_sem] def Cv.cells (x : Cv) : List D := [.raw (.int .u64 x.m1), .raw (.int .u64 x.d), .raw (.int .u64 x.m2)]
def Cv.rows (l : List Cv) : Nat → List D := fun i => (l.getD i default).cells
@[go_sem] theorem Cv.rows_at (l : List Cv) (i : Nat) : Cv.rows l i = (l.getD i default).cells := rfl
def Cv.Ok (x : Cv) : Prop := (Lit.int .u64 x.m1).wf = true ∧ (Lit.int .u64 x.d).wf = true ∧ (Lit.int .u64 x.m2).wf = true ∧ True
theorem rdCv : Rd Try.prog 75 Cv.Ok Cv.cells :=
  Rd.map (Rd.struct (tot := 3) Try.underlying75 (by kernel_rfl) (RdF.cons (Rd.int .u64 Try.underlying38) (RdF.cons (Rd.int .u64 Try.underlying38) (RdF.cons (Rd.int .u64 Try.underlying38) RdF.nil rfl (by kernel_rfl) (by decide)) rfl (by kernel_rfl) (by decide)) rfl (by kernel_rfl) (by decide))) (fun p => ⟨p.1, p.2.1, p.2.2.1⟩) (fun _ => rfl) (fun _ h => ⟨h.1, h.2.1, h.2.2.1, trivial⟩)
structure Pk where
  iD : Int
  len : Int
  head0 : Int
  head1 : Int
  head2 : Int
  head3 : Int
instance : Inhabited Pk := ⟨⟨0, 0, 0, 0, 0, 0⟩⟩
@[go_sem] def Pk.cells (x : Pk) : List D := [.raw (.int .u64 x.iD), .raw (.int .i64 x.len), .raw (.int .u16 x.head0), .raw (.int .u16 x.head1), .raw (.int .u16 x.head2), .raw (.int .u16 x.head3)]
def Pk.rows (l : List Pk) : Nat → List D := fun i => (l.getD i default).cells
@[go_sem] theorem Pk.rows_at (l : List Pk) (i : Nat) : Pk.rows l i = (l.getD i default).cells := rfl
def Pk.Ok (x : Pk) : Prop := (Lit.int .u64 x.iD).wf = true ∧ (Lit.int .i64 x.len).wf = true ∧ (Lit.int .u16 x.head0).wf = true ∧ (Lit.int .u16 x.head1).wf = true ∧ (Lit.int .u16 x.head2).wf = true ∧ (Lit.int .u16 x.head3).wf = true ∧ True
theorem rdPk : Rd Try.prog 43 Pk.Ok Pk.cells :=
  Rd.map (Rd.struct (tot := 6) Try.underlying43 (by kernel_rfl) (RdF.cons (Rd.int .u64 Try.underlying38) (RdF.cons (Rd.int .i64 Try.underlying3) (RdF.cons (Rd.array Try.underlying41 (by kernel_rfl) (RdA.cons (by decide) (Rd.int .u16 Try.underlying39) (RdA.cons (by decide) (Rd.int .u16 Try.underlying39) (RdA.cons (by decide) (Rd.int .u16 Try.underlying39) (RdA.cons (by decide) (Rd.int .u16 Try.underlying39) RdA.nil))))) RdF.nil rfl (by kernel_rfl) (by decide)) rfl (by kernel_rfl) (by decide)) rfl (by kernel_rfl) (by decide))) (fun p => ⟨p.1, p.2.1, p.2.2.1.1, p.2.2.1.2.1, p.2.2.1.2.2.1, p.2.2.1.2.2.2.1⟩) (fun _ => rfl) (fun _ h => ⟨h.1, h.2.1, h.2.2.1.1, h.2.2.1.2.1, h.2.2.1.2.2.1, h.2.2.1.2.2.2.1, trivial⟩)
structure Kls where
  iD : Int
  parent : Int
  leaf : Bool
  rt : Cv
  ls : Cv
  ul : Cv
  pkts : Int
  bytes : Int
instance : Inhabited Kls := ⟨⟨0, 0, false, default, default, default, 0, 0⟩⟩
@[go_sem] def Kls.cells (x : Kls) : List D := [.raw (.int .i64 x.iD), .raw (.int .i64 x.parent), .raw (.bool x.leaf), .raw (.int .u64 x.rt.m1), .raw (.int .u64 x.rt.d), .raw (.int .u64 x.rt.m2), .raw (.int .u64 x.ls.m1), .raw (.int .u64 x.ls.d), .raw (.int .u64 x.ls.m2), .raw (.int .u64 x.ul.m1), .raw (.int .u64 x.ul.d), .raw (.int .u64 x.ul.m2), .raw (.int .i64 x.pkts), .raw (.int .i64 x.bytes)]
def Kls.rows (l : List Kls) : Nat → List D := fun i => (l.getD i default).cells
@[go_sem] theorem Kls.rows_at (l : List Kls) (i : Nat) : Kls.rows l i = (l.getD i default).cells := rfl
def Kls.Ok (x : Kls) : Prop := (Lit.int .i64 x.iD).wf = true ∧ (Lit.int .i64 x.parent).wf = true ∧ True ∧ Cv.Ok x.rt ∧ Cv.Ok x.ls ∧ Cv.Ok x.ul ∧ (Lit.int .i64 x.pkts).wf = true ∧ (Lit.int .i64 x.bytes).wf = true ∧ True
theorem rdKls : Rd Try.prog 77 Kls.Ok Kls.cells :=
  Rd.map (Rd.struct (tot := 14) Try.underlying77 (by kernel_rfl) (RdF.cons (Rd.int .i64 Try.underlying3) (RdF.cons (Rd.int .i64 Try.underlying3) (RdF.cons (Rd.bool Try.underlying4) (RdF.cons rdCv (RdF.cons rdCv (RdF.cons rdCv (RdF.cons (Rd.int .i64 Try.underlying3) (RdF.cons (Rd.int .i64 Try.underlying3) RdF.nil rfl (by kernel_rfl) (by decide)) rfl (by kernel_rfl) (by decide)) rfl (by kernel_rfl) (by decide)) rfl (by kernel_rfl) (by decide)) rfl (by kernel_rfl) (by decide)) rfl (by kernel_rfl) (by decide)) rfl (by kernel_rfl) (by decide)) rfl (by kernel_rfl) (by decide))) (fun p => ⟨p.1, p.2.1, p.2.2.1, p.2.2.2.1, p.2.2.2.2.1, p.2.2.2.2.2.1, p.2.2.2.2.2.2.1, p.2.2.2.2.2.2.2.1⟩) (fun _ => rfl) (fun _ h => ⟨h.1, h.2.1, h.2.2.1, h.2.2.2.1, h.2.2.2.2.1, h.2.2.2.2.2.1, h.2.2.2.2.2.2.1, h.2.2.2.2.2.2.2.1, trivial⟩)
structure Chg where
  kind : Int
  cls : Kls
instance : Inhabited Chg := ⟨⟨0, default⟩⟩
@[go_sem] def Chg.cells (x : Chg) : List D := [.raw (.int .i64 x.kind), .raw (.int .i64 x.cls.iD), .raw (.int .i64 x.cls.parent), .raw (.bool x.cls.leaf), .raw (.int .u64 x.cls.rt.m1), .raw (.int .u64 x.cls.rt.d), .raw (.int .u64 x.cls.rt.m2), .raw (.int .u64 x.cls.ls.m1), .raw (.int .u64 x.cls.ls.d), .raw (.int .u64 x.cls.ls.m2), .raw (.int .u64 x.cls.ul.m1), .raw (.int .u64 x.cls.ul.d), .raw (.int .u64 x.cls.ul.m2), .raw (.int .i64 x.cls.pkts), .raw (.int .i64 x.cls.bytes)]
def Chg.rows (l : List Chg) : Nat → List D := fun i => (l.getD i default).cells
@[go_sem] theorem Chg.rows_at (l : List Chg) (i : Nat) : Chg.rows l i = (l.getD i default).cells := rfl
def Chg.Ok (x : Chg) : Prop := (Lit.int .i64 x.kind).wf = true ∧ Kls.Ok x.cls ∧ True
theorem rdChg : Rd Try.prog 79 Chg.Ok Chg.cells :=
  Rd.map (Rd.struct (tot := 15) Try.underlying79 (by kernel_rfl) (RdF.cons (Rd.int .i64 Try.underlying3) (RdF.cons rdKls RdF.nil rfl (by kernel_rfl) (by decide)) rfl (by kernel_rfl) (by decide))) (fun p => ⟨p.1, p.2.1⟩) (fun _ => rfl) (fun _ h => ⟨h.1, h.2.1, trivial⟩)
structure Rul where
  mask0 : Int
  mask1 : Int
  mask2 : Int
  mask3 : Int
  want0 : Int
  want1 : Int
  want2 : Int
  want3 : Int
  cls : Int
instance : Inhabited Rul := ⟨⟨0, 0, 0, 0, 0, 0, 0, 0, 0⟩⟩
@[go_sem] def Rul.cells (x : Rul) : List D := [.raw (.int .u16 x.mask0), .raw (.int .u16 x.mask1), .raw (.int .u16 x.mask2), .raw (.int .u16 x.mask3), .raw (.int .u16 x.want0), .raw (.int .u16 x.want1), .raw (.int .u16 x.want2), .raw (.int .u16 x.want3), .raw (.int .i64 x.cls)]
def Rul.rows (l : List Rul) : Nat → List D := fun i => (l.getD i default).cells
@[go_sem] theorem Rul.rows_at (l : List Rul) (i : Nat) : Rul.rows l i = (l.getD i default).cells := rfl
def Rul.Ok (x : Rul) : Prop := (Lit.int .u16 x.mask0).wf = true ∧ (Lit.int .u16 x.mask1).wf = true ∧ (Lit.int .u16 x.mask2).wf = true ∧ (Lit.int .u16 x.mask3).wf = true ∧ (Lit.int .u16 x.want0).wf = true ∧ (Lit.int .u16 x.want1).wf = true ∧ (Lit.int .u16 x.want2).wf = true ∧ (Lit.int .u16 x.want3).wf = true ∧ (Lit.int .i64 x.cls).wf = true ∧ True
theorem rdRul : Rd Try.prog 119 Rul.Ok Rul.cells :=
  Rd.map (Rd.struct (tot := 9) Try.underlying119 (by kernel_rfl) (RdF.cons (Rd.array Try.underlying41 (by kernel_rfl) (RdA.cons (by decide) (Rd.int .u16 Try.underlying39) (RdA.cons (by decide) (Rd.int .u16 Try.underlying39) (RdA.cons (by decide) (Rd.int .u16 Try.underlying39) (RdA.cons (by decide) (Rd.int .u16 Try.underlying39) RdA.nil))))) (RdF.cons (Rd.array Try.underlying41 (by kernel_rfl) (RdA.cons (by decide) (Rd.int .u16 Try.underlying39) (RdA.cons (by decide) (Rd.int .u16 Try.underlying39) (RdA.cons (by decide) (Rd.int .u16 Try.underlying39) (RdA.cons (by decide) (Rd.int .u16 Try.underlying39) RdA.nil))))) (RdF.cons (Rd.int .i64 Try.underlying3) RdF.nil rfl (by kernel_rfl) (by decide)) rfl (by kernel_rfl) (by decide)) rfl (by kernel_rfl) (by decide))) (fun p => ⟨p.1.1, p.1.2.1, p.1.2.2.1, p.1.2.2.2.1, p.2.1.1, p.2.1.2.1, p.2.1.2.2.1, p.2.1.2.2.2.1, p.2.2.1⟩) (fun _ => rfl) (fun _ h => ⟨h.1.1, h.1.2.1, h.1.2.2.1, h.1.2.2.2.1, h.2.1.1, h.2.1.2.1, h.2.1.2.2.1, h.2.1.2.2.2.1, h.2.2.1, trivial⟩)
structure Opn where
  kind : Int
  changes : (List Chg)
  rules : (List Rul)
  packet : Pk
  ticks : Int
instance : Inhabited Opn := ⟨⟨0, [], [], default, 0⟩⟩
@[go_sem] def Opn.cells (x : Opn) : List D := [.raw (.int .i64 x.kind), .imm 15 x.changes.length (Chg.rows x.changes), .imm 9 x.rules.length (Rul.rows x.rules), .raw (.int .u64 x.packet.iD), .raw (.int .i64 x.packet.len), .raw (.int .u16 x.packet.head0), .raw (.int .u16 x.packet.head1), .raw (.int .u16 x.packet.head2), .raw (.int .u16 x.packet.head3), .raw (.int .u64 x.ticks)]
def Opn.rows (l : List Opn) : Nat → List D := fun i => (l.getD i default).cells
@[go_sem] theorem Opn.rows_at (l : List Opn) (i : Nat) : Opn.rows l i = (l.getD i default).cells := rfl
def Opn.Ok (x : Opn) : Prop := (Lit.int .i64 x.kind).wf = true ∧ (x.changes.length ≤ maxLen ∧ ∀ a ∈ x.changes, Chg.Ok a) ∧ (x.rules.length ≤ maxLen ∧ ∀ a ∈ x.rules, Rul.Ok a) ∧ Pk.Ok x.packet ∧ (Lit.int .u64 x.ticks).wf = true ∧ True
theorem rdOpn : Rd Try.prog 67 Opn.Ok Opn.cells :=
  Rd.map (Rd.struct (tot := 10) Try.underlying67 (by kernel_rfl) (RdF.cons (Rd.int .i64 Try.underlying3) (RdF.cons (Rd.slice 15 Try.underlying64 (by kernel_rfl) (by decide) rdChg) (RdF.cons (Rd.slice 9 Try.underlying65 (by kernel_rfl) (by decide) rdRul) (RdF.cons rdPk (RdF.cons (Rd.int .u64 Try.underlying38) RdF.nil rfl (by kernel_rfl) (by decide)) rfl (by kernel_rfl) (by decide)) rfl (by kernel_rfl) (by decide)) rfl (by kernel_rfl) (by decide)) rfl (by kernel_rfl) (by decide))) (fun p => ⟨p.1, p.2.1, p.2.2.1, p.2.2.2.1, p.2.2.2.2.1⟩) (fun _ => rfl) (fun _ h => ⟨h.1, h.2.1, h.2.2.1, h.2.2.2.1, h.2.2.2.2.1, trivial⟩)
structure Scr where
  config : Cf
  ops : (List Opn)
instance : Inhabited Scr := ⟨⟨default, []⟩⟩
@[go_sem] def Scr.cells (x : Scr) : List D := [.raw (.int .i64 x.config.t), .raw (.int .i64 x.config.lmax), .imm 10 x.ops.length (Opn.rows x.ops)]
def Scr.rows (l : List Scr) : Nat → List D := fun i => (l.getD i default).cells
@[go_sem] theorem Scr.rows_at (l : List Scr) (i : Nat) : Scr.rows l i = (l.getD i default).cells := rfl
def Scr.Ok (x : Scr) : Prop := Cf.Ok x.config ∧ (x.ops.length ≤ maxLen ∧ ∀ a ∈ x.ops, Opn.Ok a) ∧ True
theorem rdScr : Rd Try.prog 49 Scr.Ok Scr.cells :=
  Rd.map (Rd.struct (tot := 3) Try.underlying49 (by kernel_rfl) (RdF.cons rdCf (RdF.cons (Rd.slice 10 Try.underlying47 (by kernel_rfl) (by decide) rdOpn) RdF.nil rfl (by kernel_rfl) (by decide)) rfl (by kernel_rfl) (by decide))) (fun p => ⟨p.1, p.2.1⟩) (fun _ => rfl) (fun _ h => ⟨h.1, h.2.1, trivial⟩)
end Go.Fg.X
namespace Go.Fg.X
open Go.Proofs Go.Fg
set_option maxRecDepth 100000
@[go_sem] def dint (n : Int) : D := .raw (.int .i64 n)
@[go_sem] def dbool (b : Bool) : D := .raw (.bool b)
@[go_sem] def ints (l : List Int) : D := .imm 1 l.length (rowsI .i64 l)
structure Ev where
  op : Int
  inn : Bool
  real : Bool
  at_ : Int
  done : Int
  cls : Int
  id : Int
  len : Int
  h0 : Int
  h1 : Int
  h2 : Int
  h3 : Int
instance : Inhabited Ev := ⟨⟨0, false, false, 0, 0, 0, 0, 0, 0, 0, 0, 0⟩⟩
@[go_sem] def Ev.cells (e : Ev) : List D := [.raw (.int .i64 e.op), .raw (.bool e.inn), .raw (.bool e.real), .raw (.int .u64 e.at_), .raw (.int .u64 e.done), .raw (.int .i64 e.cls), .raw (.int .u64 e.id), .raw (.int .i64 e.len), .raw (.int .u16 e.h0), .raw (.int .u16 e.h1), .raw (.int .u16 e.h2), .raw (.int .u16 e.h3)]
def Ev.Ok (x : Ev) : Prop := (Lit.int .i64 x.op).wf = true ∧ (Lit.int .u64 x.at_).wf = true ∧ (Lit.int .u64 x.done).wf = true ∧ (Lit.int .i64 x.cls).wf = true ∧ (Lit.int .u64 x.id).wf = true ∧ (Lit.int .i64 x.len).wf = true ∧ (Lit.int .u16 x.h0).wf = true ∧ (Lit.int .u16 x.h1).wf = true ∧ (Lit.int .u16 x.h2).wf = true ∧ (Lit.int .u16 x.h3).wf = true
theorem rdEv : Rd Try.prog 45 Ev.Ok Ev.cells :=
  Rd.map (Rd.struct (tot := 12) Try.underlying45 (by kernel_rfl) (RdF.cons (Rd.int .i64 Try.underlying3) (RdF.cons (Rd.bool Try.underlying4) (RdF.cons (Rd.bool Try.underlying4) (RdF.cons (Rd.int .u64 Try.underlying38) (RdF.cons (Rd.int .u64 Try.underlying38) (RdF.cons (Rd.int .i64 Try.underlying3) (RdF.cons rdPk RdF.nil rfl (by kernel_rfl) (by decide)) rfl (by kernel_rfl) (by decide)) rfl (by kernel_rfl) (by decide)) rfl (by kernel_rfl) (by decide)) rfl (by kernel_rfl) (by decide)) rfl (by kernel_rfl) (by decide)) rfl (by kernel_rfl) (by decide)))
    (fun p => ⟨p.1, p.2.1, p.2.2.1, p.2.2.2.1, p.2.2.2.2.1, p.2.2.2.2.2.1, p.2.2.2.2.2.2.1.iD, p.2.2.2.2.2.2.1.len, p.2.2.2.2.2.2.1.head0, p.2.2.2.2.2.2.1.head1, p.2.2.2.2.2.2.1.head2, p.2.2.2.2.2.2.1.head3⟩) (fun _ => rfl) (fun _ h => ⟨h.1, h.2.2.2.1, h.2.2.2.2.1, h.2.2.2.2.2.1, h.2.2.2.2.2.2.1.1, h.2.2.2.2.2.2.1.2.1, h.2.2.2.2.2.2.1.2.2.1, h.2.2.2.2.2.2.1.2.2.2.1, h.2.2.2.2.2.2.1.2.2.2.2.1, h.2.2.2.2.2.2.1.2.2.2.2.2.1⟩)
def Ev.rows (l : List Ev) : Nat → List D := fun i => (l.getD i default).cells
@[go_sem] theorem Ev.rows_at (l : List Ev) (i : Nat) : Ev.rows l i = (l.getD i default).cells := rfl
@[go_sem] def evs (l : List Ev) : D := .imm 12 l.length (Ev.rows l)
theorem wrap64 {n : Int} (h1 : -9223372036854775808 ≤ n) (h2 : n ≤ 9223372036854775807) : IntKind.i64.wrap n = n := by
  rw [IntKind.wrap_i64]; omega
theorem wrap_succ {k : Nat} (h : k < 4611686018427387904) : IntKind.i64.wrap ((k : Int) + 1) = ((k + 1 : Nat) : Int) := by
  rw [wrap64 (by omega) (by omega)]; rfl
theorem bz {n : Nat} (h : n = 0) : ((n : Int) == 0) = true := by simp [h]
theorem bnz {n : Nat} (h : n ≠ 0) : ((n : Int) == 0) = false := by simp [h]
theorem dp {n : Nat} (h : n ≠ 0) : decide ((0 : Int) < n) = true := by simp; omega
theorem dnp {n : Nat} (h : n = 0) : decide ((0 : Int) < n) = false := by simp [h]
theorem getD_app {α : Type} (l : List α) (x d : α) (i : Nat) (hi : i < l.length + 1) : (l ++ [x]).getD i d = bif decide (i < l.length) then l.getD i d else x := by
  by_cases h : i < l.length
  · simp [h, List.getElem?_append_left h]
  · have : i = l.length := by omega
    subst this
    simp
set_option linter.unusedSimpArgs false
set_option linter.unusedVariables false
def Ret (d : D) : D → List Ob → Prop := fun d' h => d' = d ∧ h = []
attribute [go_sem] Ret
theorem Ret.flat {d : D} (hd : d.flat = true) : ∀ d' h, Ret d d' h → d'.flat = true ∧ ∀ o ∈ h, o.flat := by
  rintro d' h ⟨rfl, rfl⟩; exact ⟨hd, by simp⟩

theorem getD_take {α : Type} (l : List α) (d : α) (k : Nat) (h : k < l.length) : l.take (k + 1) = l.take k ++ [l.getD k d] := by
  rw [List.take_add_one, List.getElem?_eq_getElem h]; simp [List.getD_eq_getElem?_getD, List.getElem?_eq_getElem h]

theorem mixed : Try.prog.follows .mixedOrders = true := by kernel_rfl
theorem getD_lt {α : Type} (l : List α) (x d : α) (i : Nat) (h : i < l.length) : (l ++ [x]).getD i d = l.getD i d := by simp [List.getElem?_append_left h]
theorem getD_end {α : Type} (l : List α) (x d : α) : (l ++ [x]).getD l.length d = x := by simp
theorem getD_set_eq {α : Type} (l : List α) (x d : α) (i : Nat) (h : i < l.length) : (l.set i x).getD i d = x := by simp [h]
theorem getD_set_ne' {α : Type} (l : List α) (x d : α) (i j : Nat) (h : j ≠ i) : (l.set j x).getD i d = l.getD i d := by simp [List.getElem?_set_ne h]
theorem getD_map {α β : Type} (f : α → β) (l : List α) (d : α) (e : β) (i : Nat) (h : i < l.length) : (l.map f).getD i e = f (l.getD i d) := by simp [List.getD_eq_getElem?_getD, h]
theorem getD_mem {α : Type} (l : List α) (d : α) (i : Nat) (h : i < l.length) : l.getD i d ∈ l := by simp [List.getD_eq_getElem?_getD, h]
/-- Rows of which one more is as it should be. -/
theorem wf_i64 {n : Int} (h : (Lit.int .i64 n).wf = true) : -9223372036854775808 ≤ n ∧ n ≤ 9223372036854775807 := by
  simp only [Lit.wf, Bool.and_eq_true, decide_eq_true_eq] at h
  exact h
theorem wf_u64 {n : Int} (h : (Lit.int .u64 n).wf = true) : 0 ≤ n ∧ n ≤ 18446744073709551615 := by
  simp only [Lit.wf, Bool.and_eq_true, decide_eq_true_eq] at h
  exact h
theorem wf_u16 {n : Int} (h : (Lit.int .u16 n).wf = true) : 0 ≤ n ∧ n ≤ 65535 := by
  simp only [Lit.wf, Bool.and_eq_true, decide_eq_true_eq] at h
  exact h
theorem wrapu {n : Int} (h1 : 0 ≤ n) (h2 : n ≤ 18446744073709551615) : IntKind.u64.wrap n = n := by rw [IntKind.wrap_u64]; omega
@[go_sem] theorem cast0 : ((0 : Nat) : Int) = 0 := rfl
@[go_sem] theorem cast1 : ((1 : Nat) : Int) = 1 := rfl
@[go_sem] theorem cast2 : ((2 : Nat) : Int) = 2 := rfl
@[go_sem] theorem cast3 : ((3 : Nat) : Int) = 3 := rfl
@[go_sem] theorem cast4 : ((4 : Nat) : Int) = 4 := rfl
@[go_sem] theorem cast5 : ((5 : Nat) : Int) = 5 := rfl
@[go_sem] theorem cast6 : ((6 : Nat) : Int) = 6 := rfl
@[go_sem] theorem cast7 : ((7 : Nat) : Int) = 7 := rfl
@[go_sem] theorem cast8 : ((8 : Nat) : Int) = 8 := rfl
@[go_sem] theorem cast9 : ((9 : Nat) : Int) = 9 := rfl
@[go_sem] theorem cast10 : ((10 : Nat) : Int) = 10 := rfl
theorem beqT {a b : Int} (h : a = b) : (a == b) = true := by simp [h]
theorem beqF {a b : Int} (h : a ≠ b) : (a == b) = false := by simp [h]
theorem bneF {a b : Int} (h : a = b) : (a != b) = false := by simp [h]
theorem bneT {a b : Int} (h : a ≠ b) : (a != b) = true := by simp [h]
end Go.Fg.X
namespace Go.Fg
set_option linter.unusedSimpArgs false
set_option linter.unusedVariables false
theorem oper_mono {P : Program} {o : Oper} {a : Act} {w : World} {K K' : Act → World → Prop} {Q Q' : Exit → Act → World → Prop} (hk : ∀ a w, K a w → K' a w) (hq : ∀ e a w, Q e a w → Q' e a w) (h : o.wp P a w K Q) : o.wp P a w K' Q' := by
  unfold Oper.wp at *
  generalize (execOp a.eval o).run P w = r at *
  cases r with
  | ok x w' =>
    cases x <;> simp only [Oper.upon] at h ⊢ <;> first | exact hk _ _ h | exact h | skip
    · exact h.mono fun e w'' he => by
        cases e with
        | returned v => exact hk _ _ he
        | panicked c => exact hq _ _ _ he
        | outgrown => obtain ⟨a, w, h⟩ := he; exact ⟨a, w, hq _ _ _ h⟩
    · exact h.mono fun v w'' he => hk _ _ he
  | halt x w' => cases x <;> first | exact h | exact hq _ _ _ h
theorem wpG_mono {P : Program} {Q Q' : Exit → Act → World → Prop} (hq : ∀ e a w, Q e a w → Q' e a w) : ∀ (l : List (Oper × G)) (a : Act) (w : World), wpG P Q l a w → wpG P Q' l a w
  | [], a, w, h => hq _ _ _ h
  | (o, g) :: r, a, w, h => by
    simp only [wpG] at h ⊢
    split at h
    · rename_i hw
      rw [if_pos hw]
      exact oper_mono (fun a w => wpG_mono hq r a w) hq h
    · rename_i hw
      rw [if_neg hw]
      exact wpG_mono hq r _ _ h
section
variable {P : Program} {base nt : Nat} {w0 : Start} {Q : Exit → St → Prop} {k : List Item} {s s1 : St}
def JoinQ (P : Program) (base nt : Nat) (w0 : Start) (Q : Exit → St → Prop) (k : List Item) (s1 : St) : Exit → St → Prop
  | .normal, s => Weak w0 s s1
  | e, s => kont P base nt w0 Q k e s
@[go_sem] theorem JoinQ_normal : JoinQ P base nt w0 Q k s1 .normal s = Weak w0 s s1 := eqOf rfl
@[go_sem] theorem JoinQ_exit {j : Nat} : JoinQ P base nt w0 Q k s1 (.exit j) s = kont P base nt w0 Q k (.exit j) s := eqOf rfl
@[go_sem] theorem JoinQ_ret : JoinQ P base nt w0 Q k s1 .ret s = kont P base nt w0 Q k .ret s := eqOf rfl
/-- Behind the first piece all ways stand alike. -/
theorem kont_join {x : Item} {c : Code} (s1 : St) (h1 : kont P base nt w0 (JoinQ P base nt w0 Q (.code c :: k) s1) [x] .normal s) (h2 : kont P base nt w0 Q (.code c :: k) .normal s1) : kont P base nt w0 Q (x :: .code c :: k) .normal s := by
  cases x with
  | code x =>
    simp only [kont] at h1
    show A P base nt w0 x _ s
    refine h1.mono fun e s' he => ?_
    cases e with
    | normal => exact kont_weak_code he h2
    | _ => exact he
  | ops l =>
    simp only [kont] at h1
    show AG P base nt w0 l _ s
    intro Z z pl a w r b
    refine wpG_mono (fun e a' w' ⟨s', pl', hs, r', b'⟩ => ⟨s', pl', ?_, r', b'⟩) _ _ _ (h1 Z z pl a w r b)
    cases e with
    | normal => exact kont_weak_code hs h2
    | _ => exact hs
  | inBlock id => simp only [kont] at h1 ⊢; exact kont_weak_code h1 h2
  | inScope => simp only [kont] at h1 ⊢; exact kont_weak_code h1 h2
/-- The same: the slots V are told anew, those of 'keep' stay, the others are forgotten. -/
theorem kont_joinF {x : Item} {c : Code} (keep : List Nat) (V : List (Nat × D)) {fr : List (Nat × D)} {h : List Ob} {rest : List (Nat × D)} (hr : pickFr fr keep = rest)
    (h1 : kont P base nt w0 (JoinQ P base nt w0 Q (.code c :: k) ⟨V ++ rest, h⟩) [x] .normal ⟨fr, h⟩) (h2 : kont P base nt w0 Q (.code c :: k) .normal ⟨V ++ rest, h⟩) : kont P base nt w0 Q (x :: .code c :: k) .normal ⟨fr, h⟩ := kont_join _ h1 h2
@[go_sem] theorem hx_zero {X : Cx} : hx P base w0 Q X nt 0 k s = kont P base nt w0 Q k .normal s := by cases k <;> exact eqOf rfl
end
end Go.Fg
namespace Go.Fg.X
open Go.Proofs Go.Fg
set_option maxRecDepth 100000
set_option maxHeartbeats 4000000
set_option linter.unusedSimpArgs false
set_option linter.unusedVariables false
@[go_sem] def dcv (c : Cv) : D := .agg c.cells
@[go_sem] def dkl (c : Kls) : D := .agg c.cells
/-- What a curve is: 0 bad, 1 none, 2 linear, 3 concave, 4 convex. -/
def ofI (c : Cv) : Int := if c.m1 = 0 ∧ c.d = 0 ∧ c.m2 = 0 then 1 else if 4294967295 < c.m1 ∨ 4294967295 < c.m2 ∨ 1048576 < c.d then 0 else if c.d = 0 ∧ c.m1 = c.m2 then 2 else if 0 < c.d ∧ c.m2 < c.m1 then 3 else if 0 < c.d ∧ c.m1 = 0 ∧ 0 < c.m2 then 4 else 0
theorem ofcI_ok (c : Cv) : AFn Try.prog 92 [dcv c] (Ret (dint (ofI c))) := by
  refine AFn_hxk 0 cx_ok 200 Try.func92 rfl Try.ntmps92 Try.results92 rfl fun base w hb => ?_
  simp only [go_sem, Nat.reduceAdd, Nat.reduceSub, Nat.reduceMul, Nat.reduceBEq, Nat.reduceLT, Nat.reduceLeDiff, Nat.reduceEqDiff, Int.reduceToNat, Int.reduceLE, Int.reduceLT, Int.reduceAdd, Int.reduceSub, Int.reduceNeg, Int.reduceBEq, Int.reduceBNe, Nat.reduceBNe, Nat.reduceDiv, Nat.reduceMod]
  repeat' (first | ((first | refine hite_dec (fun h => ?_) (fun h => ?_) | refine hite_beq (fun h => ?_) (fun h => ?_) | refine hite_bne (fun h => ?_) (fun h => ?_) | refine hite_intro (fun h => ?_) (fun h => ?_) | refine hite_decA (fun h => ?_) (fun h => ?_) | refine hite_beqA (fun h => ?_) (fun h => ?_) | refine hite_bneA (fun h => ?_) (fun h => ?_) | refine hite_intro' (fun h => ?_) (fun h => ?_)) <;> (try simp only [go_sem, Nat.reduceAdd, Nat.reduceSub, Nat.reduceMul, Nat.reduceBEq, Nat.reduceLT, Nat.reduceLeDiff, Nat.reduceEqDiff, Int.reduceToNat, Int.reduceLE, Int.reduceLT, Int.reduceAdd, Int.reduceSub, Int.reduceNeg, Int.reduceBEq, Int.reduceBNe, Nat.reduceBNe, Nat.reduceDiv, Nat.reduceMod])) | (refine And.intro (by omega) ?_; try simp only [go_sem, Nat.reduceAdd, Nat.reduceSub, Nat.reduceMul, Nat.reduceBEq, Nat.reduceLT, Nat.reduceLeDiff, Nat.reduceEqDiff, Int.reduceToNat, Int.reduceLE, Int.reduceLT, Int.reduceAdd, Int.reduceSub, Int.reduceNeg, Int.reduceBEq, Int.reduceBNe, Nat.reduceBNe, Nat.reduceDiv, Nat.reduceMod]))
  all_goals (congr 2; (try simp only [Bool.and_eq_false_iff, beq_eq_false_iff_ne, Bool.and_eq_true, beq_iff_eq, ne_eq] at *); unfold ofI; (repeat' split) <;> omega)
theorem rofcI_ok (c : Cv) (h1 : 0 ≤ c.m1) (h2 : 0 ≤ c.d) (h3 : 0 ≤ c.m2) : AFn Try.prog 101 [dcv c] (Ret (dint (ofI c))) := by
  refine AFn_hxk 0 cx_ok 200 Try.func101 rfl Try.ntmps101 Try.results101 rfl fun base w hb => ?_
  simp only [go_sem, Nat.reduceAdd, Nat.reduceSub, Nat.reduceMul, Nat.reduceBEq, Nat.reduceLT, Nat.reduceLeDiff, Nat.reduceEqDiff, Int.reduceToNat, Int.reduceLE, Int.reduceLT, Int.reduceAdd, Int.reduceSub, Int.reduceNeg, Int.reduceBEq, Int.reduceBNe, Nat.reduceBNe, Nat.reduceDiv, Nat.reduceMod]
  repeat' (first | ((first | refine hite_dec (fun h => ?_) (fun h => ?_) | refine hite_beq (fun h => ?_) (fun h => ?_) | refine hite_bne (fun h => ?_) (fun h => ?_) | refine hite_intro (fun h => ?_) (fun h => ?_) | refine hite_decA (fun h => ?_) (fun h => ?_) | refine hite_beqA (fun h => ?_) (fun h => ?_) | refine hite_bneA (fun h => ?_) (fun h => ?_) | refine hite_intro' (fun h => ?_) (fun h => ?_)) <;> (try simp only [go_sem, Nat.reduceAdd, Nat.reduceSub, Nat.reduceMul, Nat.reduceBEq, Nat.reduceLT, Nat.reduceLeDiff, Nat.reduceEqDiff, Int.reduceToNat, Int.reduceLE, Int.reduceLT, Int.reduceAdd, Int.reduceSub, Int.reduceNeg, Int.reduceBEq, Int.reduceBNe, Nat.reduceBNe, Nat.reduceDiv, Nat.reduceMod])) | (refine And.intro (by omega) ?_; try simp only [go_sem, Nat.reduceAdd, Nat.reduceSub, Nat.reduceMul, Nat.reduceBEq, Nat.reduceLT, Nat.reduceLeDiff, Nat.reduceEqDiff, Int.reduceToNat, Int.reduceLE, Int.reduceLT, Int.reduceAdd, Int.reduceSub, Int.reduceNeg, Int.reduceBEq, Int.reduceBNe, Nat.reduceBNe, Nat.reduceDiv, Nat.reduceMod]))
  all_goals (congr 2; unfold ofI; (repeat' split) <;> omega)
theorem crightI_ok (c : Cv) : AFn Try.prog 91 [dcv c] (Ret (dbool (ofI c != 0))) := by
  refine AFn_hxk 0 cx_ok 200 Try.func91 rfl Try.ntmps91 Try.results91 rfl fun base w hb => ?_
  simp only [go_sem, Nat.reduceAdd, Nat.reduceSub, Nat.reduceMul, Nat.reduceBEq, Nat.reduceLT, Nat.reduceLeDiff, Nat.reduceEqDiff, Int.reduceToNat, Int.reduceLE, Int.reduceLT, Int.reduceAdd, Int.reduceSub, Int.reduceNeg, Int.reduceBEq, Int.reduceBNe, Nat.reduceBNe, Nat.reduceDiv, Nat.reduceMod]
  refine kont_call hb fn92 rfl ?_ (ofcI_ok c) (Ret.flat rfl) rfl fun d h hR => ?_
  · simp only [go_sem, Nat.reduceAdd, Nat.reduceSub, Nat.reduceMul, Nat.reduceBEq, Nat.reduceLT, Nat.reduceLeDiff, Nat.reduceEqDiff, Int.reduceToNat, Int.reduceLE, Int.reduceLT, Int.reduceAdd, Int.reduceSub, Int.reduceNeg, Int.reduceBEq, Int.reduceBNe, Nat.reduceBNe, Nat.reduceDiv, Nat.reduceMod]
  obtain ⟨rfl, rfl⟩ := hR
  refine kont_of_hx cx_ok hb 200 ?_
  simp only [go_sem, Nat.reduceAdd, Nat.reduceSub, Nat.reduceMul, Nat.reduceBEq, Nat.reduceLT, Nat.reduceLeDiff, Nat.reduceEqDiff, Int.reduceToNat, Int.reduceLE, Int.reduceLT, Int.reduceAdd, Int.reduceSub, Int.reduceNeg, Int.reduceBEq, Int.reduceBNe, Nat.reduceBNe, Nat.reduceDiv, Nat.reduceMod]
theorem shas_ok (c : Cv) : AFn Try.prog 95 [dcv c] (Ret (dbool (decide (1 < ofI c)))) := by
  refine AFn_hxk 0 cx_ok 200 Try.func95 rfl Try.ntmps95 Try.results95 rfl fun base w hb => ?_
  simp only [go_sem, Nat.reduceAdd, Nat.reduceSub, Nat.reduceMul, Nat.reduceBEq, Nat.reduceLT, Nat.reduceLeDiff, Nat.reduceEqDiff, Int.reduceToNat, Int.reduceLE, Int.reduceLT, Int.reduceAdd, Int.reduceSub, Int.reduceNeg, Int.reduceBEq, Int.reduceBNe, Nat.reduceBNe, Nat.reduceDiv, Nat.reduceMod]
  refine kont_call hb fn92 rfl ?_ (ofcI_ok c) (Ret.flat rfl) rfl fun d h hR => ?_
  · simp only [go_sem, Nat.reduceAdd, Nat.reduceSub, Nat.reduceMul, Nat.reduceBEq, Nat.reduceLT, Nat.reduceLeDiff, Nat.reduceEqDiff, Int.reduceToNat, Int.reduceLE, Int.reduceLT, Int.reduceAdd, Int.reduceSub, Int.reduceNeg, Int.reduceBEq, Int.reduceBNe, Nat.reduceBNe, Nat.reduceDiv, Nat.reduceMod]
  obtain ⟨rfl, rfl⟩ := hR
  refine kont_of_hx cx_ok hb 200 ?_
  simp only [go_sem, Nat.reduceAdd, Nat.reduceSub, Nat.reduceMul, Nat.reduceBEq, Nat.reduceLT, Nat.reduceLeDiff, Nat.reduceEqDiff, Int.reduceToNat, Int.reduceLE, Int.reduceLT, Int.reduceAdd, Int.reduceSub, Int.reduceNeg, Int.reduceBEq, Int.reduceBNe, Nat.reduceBNe, Nat.reduceDiv, Nat.reduceMod]
theorem sreal_ok (c : Kls) : AFn Try.prog 93 [dkl c] (Ret (dbool (decide (1 < ofI c.rt)))) := by
  refine AFn_hxk 0 cx_ok 200 Try.func93 rfl Try.ntmps93 Try.results93 rfl fun base w hb => ?_
  simp only [go_sem, Nat.reduceAdd, Nat.reduceSub, Nat.reduceMul, Nat.reduceBEq, Nat.reduceLT, Nat.reduceLeDiff, Nat.reduceEqDiff, Int.reduceToNat, Int.reduceLE, Int.reduceLT, Int.reduceAdd, Int.reduceSub, Int.reduceNeg, Int.reduceBEq, Int.reduceBNe, Nat.reduceBNe, Nat.reduceDiv, Nat.reduceMod]
  refine kont_call hb fn95 rfl ?_ (shas_ok c.rt) (Ret.flat rfl) rfl fun d h hR => ?_
  · simp only [go_sem, Nat.reduceAdd, Nat.reduceSub, Nat.reduceMul, Nat.reduceBEq, Nat.reduceLT, Nat.reduceLeDiff, Nat.reduceEqDiff, Int.reduceToNat, Int.reduceLE, Int.reduceLT, Int.reduceAdd, Int.reduceSub, Int.reduceNeg, Int.reduceBEq, Int.reduceBNe, Nat.reduceBNe, Nat.reduceDiv, Nat.reduceMod]
  obtain ⟨rfl, rfl⟩ := hR
  refine kont_of_hx cx_ok hb 200 ?_
  simp only [go_sem, Nat.reduceAdd, Nat.reduceSub, Nat.reduceMul, Nat.reduceBEq, Nat.reduceLT, Nat.reduceLeDiff, Nat.reduceEqDiff, Int.reduceToNat, Int.reduceLE, Int.reduceLT, Int.reduceAdd, Int.reduceSub, Int.reduceNeg, Int.reduceBEq, Int.reduceBNe, Nat.reduceBNe, Nat.reduceDiv, Nat.reduceMod]
theorem sshares_ok (c : Kls) : AFn Try.prog 55 [dkl c] (Ret (dbool (decide (1 < ofI c.ls)))) := by
  refine AFn_hxk 0 cx_ok 200 Try.func55 rfl Try.ntmps55 Try.results55 rfl fun base w hb => ?_
  simp only [go_sem, Nat.reduceAdd, Nat.reduceSub, Nat.reduceMul, Nat.reduceBEq, Nat.reduceLT, Nat.reduceLeDiff, Nat.reduceEqDiff, Int.reduceToNat, Int.reduceLE, Int.reduceLT, Int.reduceAdd, Int.reduceSub, Int.reduceNeg, Int.reduceBEq, Int.reduceBNe, Nat.reduceBNe, Nat.reduceDiv, Nat.reduceMod]
  refine kont_call hb fn95 rfl ?_ (shas_ok c.ls) (Ret.flat rfl) rfl fun d h hR => ?_
  · simp only [go_sem, Nat.reduceAdd, Nat.reduceSub, Nat.reduceMul, Nat.reduceBEq, Nat.reduceLT, Nat.reduceLeDiff, Nat.reduceEqDiff, Int.reduceToNat, Int.reduceLE, Int.reduceLT, Int.reduceAdd, Int.reduceSub, Int.reduceNeg, Int.reduceBEq, Int.reduceBNe, Nat.reduceBNe, Nat.reduceDiv, Nat.reduceMod]
  obtain ⟨rfl, rfl⟩ := hR
  refine kont_of_hx cx_ok hb 200 ?_
  simp only [go_sem, Nat.reduceAdd, Nat.reduceSub, Nat.reduceMul, Nat.reduceBEq, Nat.reduceLT, Nat.reduceLeDiff, Nat.reduceEqDiff, Int.reduceToNat, Int.reduceLE, Int.reduceLT, Int.reduceAdd, Int.reduceSub, Int.reduceNeg, Int.reduceBEq, Int.reduceBNe, Nat.reduceBNe, Nat.reduceDiv, Nat.reduceMod]
theorem scapped_ok (c : Kls) : AFn Try.prog 94 [dkl c] (Ret (dbool (decide (1 < ofI c.ul)))) := by
  refine AFn_hxk 0 cx_ok 200 Try.func94 rfl Try.ntmps94 Try.results94 rfl fun base w hb => ?_
  simp only [go_sem, Nat.reduceAdd, Nat.reduceSub, Nat.reduceMul, Nat.reduceBEq, Nat.reduceLT, Nat.reduceLeDiff, Nat.reduceEqDiff, Int.reduceToNat, Int.reduceLE, Int.reduceLT, Int.reduceAdd, Int.reduceSub, Int.reduceNeg, Int.reduceBEq, Int.reduceBNe, Nat.reduceBNe, Nat.reduceDiv, Nat.reduceMod]
  refine kont_call hb fn95 rfl ?_ (shas_ok c.ul) (Ret.flat rfl) rfl fun d h hR => ?_
  · simp only [go_sem, Nat.reduceAdd, Nat.reduceSub, Nat.reduceMul, Nat.reduceBEq, Nat.reduceLT, Nat.reduceLeDiff, Nat.reduceEqDiff, Int.reduceToNat, Int.reduceLE, Int.reduceLT, Int.reduceAdd, Int.reduceSub, Int.reduceNeg, Int.reduceBEq, Int.reduceBNe, Nat.reduceBNe, Nat.reduceDiv, Nat.reduceMod]
  obtain ⟨rfl, rfl⟩ := hR
  refine kont_of_hx cx_ok hb 200 ?_
  simp only [go_sem, Nat.reduceAdd, Nat.reduceSub, Nat.reduceMul, Nat.reduceBEq, Nat.reduceLT, Nat.reduceLeDiff, Nat.reduceEqDiff, Int.reduceToNat, Int.reduceLE, Int.reduceLT, Int.reduceAdd, Int.reduceSub, Int.reduceNeg, Int.reduceBEq, Int.reduceBNe, Nat.reduceBNe, Nat.reduceDiv, Nat.reduceMod]
def frI (n a b : Int) : Bool := decide (a ≤ n) && decide (n ≤ b)
theorem sfrom_ok (n a b : Int) : AFn Try.prog 90 [dint n, dint a, dint b] (Ret (dbool (frI n a b))) := by
  refine AFn_hxk 0 cx_ok 200 Try.func90 rfl Try.ntmps90 Try.results90 rfl fun base w hb => ?_
  simp only [go_sem, Nat.reduceAdd, Nat.reduceSub, Nat.reduceMul, Nat.reduceBEq, Nat.reduceLT, Nat.reduceLeDiff, Nat.reduceEqDiff, Int.reduceToNat, Int.reduceLE, Int.reduceLT, Int.reduceAdd, Int.reduceSub, Int.reduceNeg, Int.reduceBEq, Int.reduceBNe, Nat.reduceBNe, Nat.reduceDiv, Nat.reduceMod]
  unfold frI
  by_cases h : a ≤ n
  · simp only [go_sem, Nat.reduceAdd, Nat.reduceSub, Nat.reduceMul, Nat.reduceBEq, Nat.reduceLT, Nat.reduceLeDiff, Nat.reduceEqDiff, Int.reduceToNat, Int.reduceLE, Int.reduceLT, Int.reduceAdd, Int.reduceSub, Int.reduceNeg, Int.reduceBEq, Int.reduceBNe, Nat.reduceBNe, Nat.reduceDiv, Nat.reduceMod, h]
  · simp only [go_sem, Nat.reduceAdd, Nat.reduceSub, Nat.reduceMul, Nat.reduceBEq, Nat.reduceLT, Nat.reduceLeDiff, Nat.reduceEqDiff, Int.reduceToNat, Int.reduceLE, Int.reduceLT, Int.reduceAdd, Int.reduceSub, Int.reduceNeg, Int.reduceBEq, Int.reduceBNe, Nat.reduceBNe, Nat.reduceDiv, Nat.reduceMod, h]
end Go.Fg.X
namespace Go.Fg.X
open Go.Proofs Go.Fg
set_option maxRecDepth 100000
set_option maxHeartbeats 4000000
set_option linter.unusedSimpArgs false
set_option linter.unusedVariables false
def idOk (c : Kls) : Bool := frI c.iD 1 65536 && frI c.parent 0 65536 && !(c.parent == c.iD)
def cvOk (c : Kls) : Bool := (ofI c.rt != 0) && ((ofI c.ls != 0) && !(ofI c.ls == 4)) && ((ofI c.ul != 0) && !(ofI c.ul == 4))
def leafOk (c : Kls) : Bool := frI c.pkts 1 64 && frI c.bytes 1 1048576 && (decide (1 < ofI c.rt) || decide (1 < ofI c.ls))
def innerOk (c : Kls) : Bool := c.pkts == 0 && c.bytes == 0 && !decide (1 < ofI c.rt)
/-- What is wrong with a class: an error's number. -/
def rightV (c : Kls) : Int := if !idOk c then 1 else if !cvOk c then 21 else if (c.leaf && !leafOk c) || (!c.leaf && !innerOk c) || (decide (1 < ofI c.ul) && !decide (1 < ofI c.ls)) then 29 else 0
structure RInv (c : Kls) (k : Nat) (s : St) : Prop where
  h0 : 0 < k → ofI c.rt ≠ 0
  h1 : 1 < k → ofI c.ls ≠ 0 ∧ ofI c.ls ≠ 4
  h2 : 2 < k → ofI c.ul ≠ 0 ∧ ofI c.ul ≠ 4
  eq : s = ⟨[(1, .ptr 0 0 0 0), (2, dint 0), (30, .agg (c.rt.cells ++ (c.ls.cells ++ c.ul.cells))), (31, dint k)], [⟨.one, 0, 14, 1, fun _ => c.cells⟩]⟩
theorem sright_ok (c : Kls) : AFn Try.prog 54 [dkl c] (Ret (dint (rightV c))) := by
  refine AFn_hxk 0 cx_ok 200 Try.func54 rfl Try.ntmps54 Try.results54 rfl fun base w hb => ?_
  simp only [go_sem, Nat.reduceAdd, Nat.reduceSub, Nat.reduceMul, Nat.reduceBEq, Nat.reduceLT, Nat.reduceLeDiff, Nat.reduceEqDiff, Int.reduceToNat, Int.reduceLE, Int.reduceLT, Int.reduceAdd, Int.reduceSub, Int.reduceNeg, Int.reduceBEq, Int.reduceBNe, Nat.reduceBNe, Nat.reduceDiv, Nat.reduceMod]
  refine kont_call hb fn90 rfl ?_ (sfrom_ok c.iD 1 65536) (Ret.flat rfl) rfl fun d h hR => ?_
  · simp only [go_sem, Nat.reduceAdd, Nat.reduceSub, Nat.reduceMul, Nat.reduceBEq, Nat.reduceLT, Nat.reduceLeDiff, Nat.reduceEqDiff, Int.reduceToNat, Int.reduceLE, Int.reduceLT, Int.reduceAdd, Int.reduceSub, Int.reduceNeg, Int.reduceBEq, Int.reduceBNe, Nat.reduceBNe, Nat.reduceDiv, Nat.reduceMod]
  obtain ⟨rfl, rfl⟩ := hR
  refine kont_of_hx cx_ok hb 200 ?_
  simp only [go_sem, Nat.reduceAdd, Nat.reduceSub, Nat.reduceMul, Nat.reduceBEq, Nat.reduceLT, Nat.reduceLeDiff, Nat.reduceEqDiff, Int.reduceToNat, Int.reduceLE, Int.reduceLT, Int.reduceAdd, Int.reduceSub, Int.reduceNeg, Int.reduceBEq, Int.reduceBNe, Nat.reduceBNe, Nat.reduceDiv, Nat.reduceMod]
  cases hb1 : frI c.iD 1 65536
  · have : rightV c = 1 := by simp [rightV, idOk, hb1]
    simp only [go_sem, Nat.reduceAdd, Nat.reduceSub, Nat.reduceMul, Nat.reduceBEq, Nat.reduceLT, Nat.reduceLeDiff, Nat.reduceEqDiff, Int.reduceToNat, Int.reduceLE, Int.reduceLT, Int.reduceAdd, Int.reduceSub, Int.reduceNeg, Int.reduceBEq, Int.reduceBNe, Nat.reduceBNe, Nat.reduceDiv, Nat.reduceMod, this]
  · simp only [go_sem, Nat.reduceAdd, Nat.reduceSub, Nat.reduceMul, Nat.reduceBEq, Nat.reduceLT, Nat.reduceLeDiff, Nat.reduceEqDiff, Int.reduceToNat, Int.reduceLE, Int.reduceLT, Int.reduceAdd, Int.reduceSub, Int.reduceNeg, Int.reduceBEq, Int.reduceBNe, Nat.reduceBNe, Nat.reduceDiv, Nat.reduceMod]
    refine kont_call hb fn90 rfl ?_ (sfrom_ok c.parent 0 65536) (Ret.flat rfl) rfl fun d h hR => ?_
    · simp only [go_sem, Nat.reduceAdd, Nat.reduceSub, Nat.reduceMul, Nat.reduceBEq, Nat.reduceLT, Nat.reduceLeDiff, Nat.reduceEqDiff, Int.reduceToNat, Int.reduceLE, Int.reduceLT, Int.reduceAdd, Int.reduceSub, Int.reduceNeg, Int.reduceBEq, Int.reduceBNe, Nat.reduceBNe, Nat.reduceDiv, Nat.reduceMod]
    obtain ⟨rfl, rfl⟩ := hR
    refine kont_of_hx cx_ok hb 200 ?_
    simp only [go_sem, Nat.reduceAdd, Nat.reduceSub, Nat.reduceMul, Nat.reduceBEq, Nat.reduceLT, Nat.reduceLeDiff, Nat.reduceEqDiff, Int.reduceToNat, Int.reduceLE, Int.reduceLT, Int.reduceAdd, Int.reduceSub, Int.reduceNeg, Int.reduceBEq, Int.reduceBNe, Nat.reduceBNe, Nat.reduceDiv, Nat.reduceMod]
    cases hb2 : frI c.parent 0 65536
    · have : rightV c = 1 := by simp [rightV, idOk, hb1, hb2]
      simp only [go_sem, Nat.reduceAdd, Nat.reduceSub, Nat.reduceMul, Nat.reduceBEq, Nat.reduceLT, Nat.reduceLeDiff, Nat.reduceEqDiff, Int.reduceToNat, Int.reduceLE, Int.reduceLT, Int.reduceAdd, Int.reduceSub, Int.reduceNeg, Int.reduceBEq, Int.reduceBNe, Nat.reduceBNe, Nat.reduceDiv, Nat.reduceMod, this]
    · simp only [go_sem, Nat.reduceAdd, Nat.reduceSub, Nat.reduceMul, Nat.reduceBEq, Nat.reduceLT, Nat.reduceLeDiff, Nat.reduceEqDiff, Int.reduceToNat, Int.reduceLE, Int.reduceLT, Int.reduceAdd, Int.reduceSub, Int.reduceNeg, Int.reduceBEq, Int.reduceBNe, Nat.reduceBNe, Nat.reduceDiv, Nat.reduceMod]
      by_cases h3 : c.parent = c.iD
      · have : rightV c = 1 := by simp [rightV, idOk, hb1, hb2, h3]
        simp only [go_sem, Nat.reduceAdd, Nat.reduceSub, Nat.reduceMul, Nat.reduceBEq, Nat.reduceLT, Nat.reduceLeDiff, Nat.reduceEqDiff, Int.reduceToNat, Int.reduceLE, Int.reduceLT, Int.reduceAdd, Int.reduceSub, Int.reduceNeg, Int.reduceBEq, Int.reduceBNe, Nat.reduceBNe, Nat.reduceDiv, Nat.reduceMod, beqT h3, this]
      · simp only [go_sem, Nat.reduceAdd, Nat.reduceSub, Nat.reduceMul, Nat.reduceBEq, Nat.reduceLT, Nat.reduceLeDiff, Nat.reduceEqDiff, Int.reduceToNat, Int.reduceLE, Int.reduceLT, Int.reduceAdd, Int.reduceSub, Int.reduceNeg, Int.reduceBEq, Int.reduceBNe, Nat.reduceBNe, Nat.reduceDiv, Nat.reduceMod, beqF h3]
        have hid : idOk c = true := by simp [idOk, hb1, hb2, h3]
        have w1 : IntKind.i64.wrap 1 = 1 := by decide
        have w2 : IntKind.i64.wrap 2 = 2 := by decide
        have w3 : IntKind.i64.wrap 3 = 3 := by decide
        refine kont_for (RInv c) 3
          (s0 := ⟨[(1, .ptr 0 0 0 0), (2, dint 0), (30, .agg (c.rt.cells ++ (c.ls.cells ++ c.ul.cells))), (31, dint 0)], [⟨.one, 0, 14, 1, fun _ => c.cells⟩]⟩) (Weak.frame (by simp only [go_sem, Nat.reduceAdd, Nat.reduceSub, Nat.reduceMul, Nat.reduceBEq, Nat.reduceLT, Nat.reduceLeDiff, Nat.reduceEqDiff, Int.reduceToNat, Int.reduceLE, Int.reduceLT, Int.reduceAdd, Int.reduceSub, Int.reduceNeg, Int.reduceBEq, Int.reduceBNe, Nat.reduceBNe, Nat.reduceDiv, Nat.reduceMod])) ⟨by omega, by omega, by omega, rfl⟩ ?_
        rintro k s hk ⟨g0, g1, g2, rfl⟩
        obtain rfl | rfl | rfl | rfl : k = 0 ∨ k = 1 ∨ k = 2 ∨ k = 3 := by omega
        · refine kont_of_hx cx_ok hb 200 ?_
          simp only [go_sem, Nat.reduceAdd, Nat.reduceSub, Nat.reduceMul, Nat.reduceBEq, Nat.reduceLT, Nat.reduceLeDiff, Nat.reduceEqDiff, Int.reduceToNat, Int.reduceLE, Int.reduceLT, Int.reduceAdd, Int.reduceSub, Int.reduceNeg, Int.reduceBEq, Int.reduceBNe, Nat.reduceBNe, Nat.reduceDiv, Nat.reduceMod]
          refine kont_call hb fn91 rfl ?_ (crightI_ok c.rt) (Ret.flat rfl) rfl fun d h hR => ?_
          · simp only [go_sem, Nat.reduceAdd, Nat.reduceSub, Nat.reduceMul, Nat.reduceBEq, Nat.reduceLT, Nat.reduceLeDiff, Nat.reduceEqDiff, Int.reduceToNat, Int.reduceLE, Int.reduceLT, Int.reduceAdd, Int.reduceSub, Int.reduceNeg, Int.reduceBEq, Int.reduceBNe, Nat.reduceBNe, Nat.reduceDiv, Nat.reduceMod]
          obtain ⟨rfl, rfl⟩ := hR
          refine kont_of_hx cx_ok hb 200 ?_
          simp only [go_sem, Nat.reduceAdd, Nat.reduceSub, Nat.reduceMul, Nat.reduceBEq, Nat.reduceLT, Nat.reduceLeDiff, Nat.reduceEqDiff, Int.reduceToNat, Int.reduceLE, Int.reduceLT, Int.reduceAdd, Int.reduceSub, Int.reduceNeg, Int.reduceBEq, Int.reduceBNe, Nat.reduceBNe, Nat.reduceDiv, Nat.reduceMod]
          by_cases r0 : ofI c.rt = 0
          · have : rightV c = 21 := by simp [rightV, hid, cvOk, r0]
            simp only [go_sem, Nat.reduceAdd, Nat.reduceSub, Nat.reduceMul, Nat.reduceBEq, Nat.reduceLT, Nat.reduceLeDiff, Nat.reduceEqDiff, Int.reduceToNat, Int.reduceLE, Int.reduceLT, Int.reduceAdd, Int.reduceSub, Int.reduceNeg, Int.reduceBEq, Int.reduceBNe, Nat.reduceBNe, Nat.reduceDiv, Nat.reduceMod, beqT r0, bne, this, Go.undef]
          · simp only [go_sem, Nat.reduceAdd, Nat.reduceSub, Nat.reduceMul, Nat.reduceBEq, Nat.reduceLT, Nat.reduceLeDiff, Nat.reduceEqDiff, Int.reduceToNat, Int.reduceLE, Int.reduceLT, Int.reduceAdd, Int.reduceSub, Int.reduceNeg, Int.reduceBEq, Int.reduceBNe, Nat.reduceBNe, Nat.reduceDiv, Nat.reduceMod, beqF r0, bne, Go.undef]
            refine ⟨_, Weak.to 1 ⟨?_, by simp only [go_sem, Nat.reduceAdd, Nat.reduceSub, Nat.reduceMul, Nat.reduceBEq, Nat.reduceLT, Nat.reduceLeDiff, Nat.reduceEqDiff, Int.reduceToNat, Int.reduceLE, Int.reduceLT, Int.reduceAdd, Int.reduceSub, Int.reduceNeg, Int.reduceBEq, Int.reduceBNe, Nat.reduceBNe, Nat.reduceDiv, Nat.reduceMod], ?_, ?_⟩, ⟨fun _ => r0, by omega, by omega, rfl⟩⟩ <;> simp only [go_sem, Nat.reduceAdd, Nat.reduceSub, Nat.reduceMul, Nat.reduceBEq, Nat.reduceLT, Nat.reduceLeDiff, Nat.reduceEqDiff, Int.reduceToNat, Int.reduceLE, Int.reduceLT, Int.reduceAdd, Int.reduceSub, Int.reduceNeg, Int.reduceBEq, Int.reduceBNe, Nat.reduceBNe, Nat.reduceDiv, Nat.reduceMod, w1, w2, w3]
        · refine kont_of_hx cx_ok hb 200 ?_
          simp only [go_sem, Nat.reduceAdd, Nat.reduceSub, Nat.reduceMul, Nat.reduceBEq, Nat.reduceLT, Nat.reduceLeDiff, Nat.reduceEqDiff, Int.reduceToNat, Int.reduceLE, Int.reduceLT, Int.reduceAdd, Int.reduceSub, Int.reduceNeg, Int.reduceBEq, Int.reduceBNe, Nat.reduceBNe, Nat.reduceDiv, Nat.reduceMod]
          refine kont_call hb fn91 rfl ?_ (crightI_ok c.ls) (Ret.flat rfl) rfl fun d h hR => ?_
          · simp only [go_sem, Nat.reduceAdd, Nat.reduceSub, Nat.reduceMul, Nat.reduceBEq, Nat.reduceLT, Nat.reduceLeDiff, Nat.reduceEqDiff, Int.reduceToNat, Int.reduceLE, Int.reduceLT, Int.reduceAdd, Int.reduceSub, Int.reduceNeg, Int.reduceBEq, Int.reduceBNe, Nat.reduceBNe, Nat.reduceDiv, Nat.reduceMod]
          obtain ⟨rfl, rfl⟩ := hR
          refine kont_of_hx cx_ok hb 200 ?_
          simp only [go_sem, Nat.reduceAdd, Nat.reduceSub, Nat.reduceMul, Nat.reduceBEq, Nat.reduceLT, Nat.reduceLeDiff, Nat.reduceEqDiff, Int.reduceToNat, Int.reduceLE, Int.reduceLT, Int.reduceAdd, Int.reduceSub, Int.reduceNeg, Int.reduceBEq, Int.reduceBNe, Nat.reduceBNe, Nat.reduceDiv, Nat.reduceMod]
          by_cases r0 : ofI c.ls = 0
          · have : rightV c = 21 := by simp [rightV, hid, cvOk, r0]
            simp only [go_sem, Nat.reduceAdd, Nat.reduceSub, Nat.reduceMul, Nat.reduceBEq, Nat.reduceLT, Nat.reduceLeDiff, Nat.reduceEqDiff, Int.reduceToNat, Int.reduceLE, Int.reduceLT, Int.reduceAdd, Int.reduceSub, Int.reduceNeg, Int.reduceBEq, Int.reduceBNe, Nat.reduceBNe, Nat.reduceDiv, Nat.reduceMod, beqT r0, bne, this, Go.undef]
          · simp only [go_sem, Nat.reduceAdd, Nat.reduceSub, Nat.reduceMul, Nat.reduceBEq, Nat.reduceLT, Nat.reduceLeDiff, Nat.reduceEqDiff, Int.reduceToNat, Int.reduceLE, Int.reduceLT, Int.reduceAdd, Int.reduceSub, Int.reduceNeg, Int.reduceBEq, Int.reduceBNe, Nat.reduceBNe, Nat.reduceDiv, Nat.reduceMod, beqF r0, bne, Go.undef]
            refine kont_call hb fn92 rfl ?_ (ofcI_ok c.ls) (Ret.flat rfl) rfl fun d h hR => ?_
            · simp only [go_sem, Nat.reduceAdd, Nat.reduceSub, Nat.reduceMul, Nat.reduceBEq, Nat.reduceLT, Nat.reduceLeDiff, Nat.reduceEqDiff, Int.reduceToNat, Int.reduceLE, Int.reduceLT, Int.reduceAdd, Int.reduceSub, Int.reduceNeg, Int.reduceBEq, Int.reduceBNe, Nat.reduceBNe, Nat.reduceDiv, Nat.reduceMod]
            obtain ⟨rfl, rfl⟩ := hR
            refine kont_of_hx cx_ok hb 200 ?_
            simp only [go_sem, Nat.reduceAdd, Nat.reduceSub, Nat.reduceMul, Nat.reduceBEq, Nat.reduceLT, Nat.reduceLeDiff, Nat.reduceEqDiff, Int.reduceToNat, Int.reduceLE, Int.reduceLT, Int.reduceAdd, Int.reduceSub, Int.reduceNeg, Int.reduceBEq, Int.reduceBNe, Nat.reduceBNe, Nat.reduceDiv, Nat.reduceMod]
            by_cases r4 : ofI c.ls = 4
            · have : rightV c = 21 := by simp [rightV, hid, cvOk, r4]
              simp only [go_sem, Nat.reduceAdd, Nat.reduceSub, Nat.reduceMul, Nat.reduceBEq, Nat.reduceLT, Nat.reduceLeDiff, Nat.reduceEqDiff, Int.reduceToNat, Int.reduceLE, Int.reduceLT, Int.reduceAdd, Int.reduceSub, Int.reduceNeg, Int.reduceBEq, Int.reduceBNe, Nat.reduceBNe, Nat.reduceDiv, Nat.reduceMod, beqT r4, this, Go.undef]
            · simp only [go_sem, Nat.reduceAdd, Nat.reduceSub, Nat.reduceMul, Nat.reduceBEq, Nat.reduceLT, Nat.reduceLeDiff, Nat.reduceEqDiff, Int.reduceToNat, Int.reduceLE, Int.reduceLT, Int.reduceAdd, Int.reduceSub, Int.reduceNeg, Int.reduceBEq, Int.reduceBNe, Nat.reduceBNe, Nat.reduceDiv, Nat.reduceMod, beqF r4, Go.undef]
              refine ⟨_, Weak.to 1 ⟨?_, by simp only [go_sem, Nat.reduceAdd, Nat.reduceSub, Nat.reduceMul, Nat.reduceBEq, Nat.reduceLT, Nat.reduceLeDiff, Nat.reduceEqDiff, Int.reduceToNat, Int.reduceLE, Int.reduceLT, Int.reduceAdd, Int.reduceSub, Int.reduceNeg, Int.reduceBEq, Int.reduceBNe, Nat.reduceBNe, Nat.reduceDiv, Nat.reduceMod], ?_, ?_⟩, ⟨fun _ => g0 (by omega), fun _ => ⟨r0, r4⟩, by omega, rfl⟩⟩ <;> simp only [go_sem, Nat.reduceAdd, Nat.reduceSub, Nat.reduceMul, Nat.reduceBEq, Nat.reduceLT, Nat.reduceLeDiff, Nat.reduceEqDiff, Int.reduceToNat, Int.reduceLE, Int.reduceLT, Int.reduceAdd, Int.reduceSub, Int.reduceNeg, Int.reduceBEq, Int.reduceBNe, Nat.reduceBNe, Nat.reduceDiv, Nat.reduceMod, w1, w2, w3]
        · refine kont_of_hx cx_ok hb 200 ?_
          simp only [go_sem, Nat.reduceAdd, Nat.reduceSub, Nat.reduceMul, Nat.reduceBEq, Nat.reduceLT, Nat.reduceLeDiff, Nat.reduceEqDiff, Int.reduceToNat, Int.reduceLE, Int.reduceLT, Int.reduceAdd, Int.reduceSub, Int.reduceNeg, Int.reduceBEq, Int.reduceBNe, Nat.reduceBNe, Nat.reduceDiv, Nat.reduceMod]
          refine kont_call hb fn91 rfl ?_ (crightI_ok c.ul) (Ret.flat rfl) rfl fun d h hR => ?_
          · simp only [go_sem, Nat.reduceAdd, Nat.reduceSub, Nat.reduceMul, Nat.reduceBEq, Nat.reduceLT, Nat.reduceLeDiff, Nat.reduceEqDiff, Int.reduceToNat, Int.reduceLE, Int.reduceLT, Int.reduceAdd, Int.reduceSub, Int.reduceNeg, Int.reduceBEq, Int.reduceBNe, Nat.reduceBNe, Nat.reduceDiv, Nat.reduceMod]
          obtain ⟨rfl, rfl⟩ := hR
          refine kont_of_hx cx_ok hb 200 ?_
          simp only [go_sem, Nat.reduceAdd, Nat.reduceSub, Nat.reduceMul, Nat.reduceBEq, Nat.reduceLT, Nat.reduceLeDiff, Nat.reduceEqDiff, Int.reduceToNat, Int.reduceLE, Int.reduceLT, Int.reduceAdd, Int.reduceSub, Int.reduceNeg, Int.reduceBEq, Int.reduceBNe, Nat.reduceBNe, Nat.reduceDiv, Nat.reduceMod]
          by_cases r0 : ofI c.ul = 0
          · have : rightV c = 21 := by simp [rightV, hid, cvOk, r0]
            simp only [go_sem, Nat.reduceAdd, Nat.reduceSub, Nat.reduceMul, Nat.reduceBEq, Nat.reduceLT, Nat.reduceLeDiff, Nat.reduceEqDiff, Int.reduceToNat, Int.reduceLE, Int.reduceLT, Int.reduceAdd, Int.reduceSub, Int.reduceNeg, Int.reduceBEq, Int.reduceBNe, Nat.reduceBNe, Nat.reduceDiv, Nat.reduceMod, beqT r0, bne, this, Go.undef]
          · simp only [go_sem, Nat.reduceAdd, Nat.reduceSub, Nat.reduceMul, Nat.reduceBEq, Nat.reduceLT, Nat.reduceLeDiff, Nat.reduceEqDiff, Int.reduceToNat, Int.reduceLE, Int.reduceLT, Int.reduceAdd, Int.reduceSub, Int.reduceNeg, Int.reduceBEq, Int.reduceBNe, Nat.reduceBNe, Nat.reduceDiv, Nat.reduceMod, beqF r0, bne, Go.undef]
            refine kont_call hb fn92 rfl ?_ (ofcI_ok c.ul) (Ret.flat rfl) rfl fun d h hR => ?_
            · simp only [go_sem, Nat.reduceAdd, Nat.reduceSub, Nat.reduceMul, Nat.reduceBEq, Nat.reduceLT, Nat.reduceLeDiff, Nat.reduceEqDiff, Int.reduceToNat, Int.reduceLE, Int.reduceLT, Int.reduceAdd, Int.reduceSub, Int.reduceNeg, Int.reduceBEq, Int.reduceBNe, Nat.reduceBNe, Nat.reduceDiv, Nat.reduceMod]
            obtain ⟨rfl, rfl⟩ := hR
            refine kont_of_hx cx_ok hb 200 ?_
            simp only [go_sem, Nat.reduceAdd, Nat.reduceSub, Nat.reduceMul, Nat.reduceBEq, Nat.reduceLT, Nat.reduceLeDiff, Nat.reduceEqDiff, Int.reduceToNat, Int.reduceLE, Int.reduceLT, Int.reduceAdd, Int.reduceSub, Int.reduceNeg, Int.reduceBEq, Int.reduceBNe, Nat.reduceBNe, Nat.reduceDiv, Nat.reduceMod]
            by_cases r4 : ofI c.ul = 4
            · have : rightV c = 21 := by simp [rightV, hid, cvOk, r4]
              simp only [go_sem, Nat.reduceAdd, Nat.reduceSub, Nat.reduceMul, Nat.reduceBEq, Nat.reduceLT, Nat.reduceLeDiff, Nat.reduceEqDiff, Int.reduceToNat, Int.reduceLE, Int.reduceLT, Int.reduceAdd, Int.reduceSub, Int.reduceNeg, Int.reduceBEq, Int.reduceBNe, Nat.reduceBNe, Nat.reduceDiv, Nat.reduceMod, beqT r4, this, Go.undef]
            · simp only [go_sem, Nat.reduceAdd, Nat.reduceSub, Nat.reduceMul, Nat.reduceBEq, Nat.reduceLT, Nat.reduceLeDiff, Nat.reduceEqDiff, Int.reduceToNat, Int.reduceLE, Int.reduceLT, Int.reduceAdd, Int.reduceSub, Int.reduceNeg, Int.reduceBEq, Int.reduceBNe, Nat.reduceBNe, Nat.reduceDiv, Nat.reduceMod, beqF r4, Go.undef]
              refine ⟨_, Weak.to 1 ⟨?_, by simp only [go_sem, Nat.reduceAdd, Nat.reduceSub, Nat.reduceMul, Nat.reduceBEq, Nat.reduceLT, Nat.reduceLeDiff, Nat.reduceEqDiff, Int.reduceToNat, Int.reduceLE, Int.reduceLT, Int.reduceAdd, Int.reduceSub, Int.reduceNeg, Int.reduceBEq, Int.reduceBNe, Nat.reduceBNe, Nat.reduceDiv, Nat.reduceMod], ?_, ?_⟩, ⟨fun _ => g0 (by omega), fun _ => g1 (by omega), fun _ => ⟨r0, r4⟩, rfl⟩⟩ <;> simp only [go_sem, Nat.reduceAdd, Nat.reduceSub, Nat.reduceMul, Nat.reduceBEq, Nat.reduceLT, Nat.reduceLeDiff, Nat.reduceEqDiff, Int.reduceToNat, Int.reduceLE, Int.reduceLT, Int.reduceAdd, Int.reduceSub, Int.reduceNeg, Int.reduceBEq, Int.reduceBNe, Nat.reduceBNe, Nat.reduceDiv, Nat.reduceMod, w1, w2, w3]
        · have hcv : cvOk c = true := by
            have a := g0 (by omega); have b := g1 (by omega); have d := g2 (by omega)
            simp [cvOk, a, b, d]
          clear g0 g1 g2
          refine kont_of_hx cx_ok hb 200 ?_
          simp only [go_sem, Nat.reduceAdd, Nat.reduceSub, Nat.reduceMul, Nat.reduceBEq, Nat.reduceLT, Nat.reduceLeDiff, Nat.reduceEqDiff, Int.reduceToNat, Int.reduceLE, Int.reduceLT, Int.reduceAdd, Int.reduceSub, Int.reduceNeg, Int.reduceBEq, Int.reduceBNe, Nat.reduceBNe, Nat.reduceDiv, Nat.reduceMod]
          first | refine kont_seq ?_ | skip
          refine kont_joinF [1, 2] [(5, dbool (leafOk c))] rfl ?_ ?_
          · refine kont_of_hx cx_ok hb 200 ?_
            simp only [go_sem, Nat.reduceAdd, Nat.reduceSub, Nat.reduceMul, Nat.reduceBEq, Nat.reduceLT, Nat.reduceLeDiff, Nat.reduceEqDiff, Int.reduceToNat, Int.reduceLE, Int.reduceLT, Int.reduceAdd, Int.reduceSub, Int.reduceNeg, Int.reduceBEq, Int.reduceBNe, Nat.reduceBNe, Nat.reduceDiv, Nat.reduceMod]
            refine kont_call hb fn90 rfl ?_ (sfrom_ok c.pkts 1 64) (Ret.flat rfl) rfl fun d h hR => ?_
            · simp only [go_sem, Nat.reduceAdd, Nat.reduceSub, Nat.reduceMul, Nat.reduceBEq, Nat.reduceLT, Nat.reduceLeDiff, Nat.reduceEqDiff, Int.reduceToNat, Int.reduceLE, Int.reduceLT, Int.reduceAdd, Int.reduceSub, Int.reduceNeg, Int.reduceBEq, Int.reduceBNe, Nat.reduceBNe, Nat.reduceDiv, Nat.reduceMod]
            obtain ⟨rfl, rfl⟩ := hR
            refine kont_of_hx cx_ok hb 200 ?_
            simp only [go_sem, Nat.reduceAdd, Nat.reduceSub, Nat.reduceMul, Nat.reduceBEq, Nat.reduceLT, Nat.reduceLeDiff, Nat.reduceEqDiff, Int.reduceToNat, Int.reduceLE, Int.reduceLT, Int.reduceAdd, Int.reduceSub, Int.reduceNeg, Int.reduceBEq, Int.reduceBNe, Nat.reduceBNe, Nat.reduceDiv, Nat.reduceMod]
            cases hp : frI c.pkts 1 64
            · have e : leafOk c = false := by simp [leafOk, hp]
              simp only [go_sem, Nat.reduceAdd, Nat.reduceSub, Nat.reduceMul, Nat.reduceBEq, Nat.reduceLT, Nat.reduceLeDiff, Nat.reduceEqDiff, Int.reduceToNat, Int.reduceLE, Int.reduceLT, Int.reduceAdd, Int.reduceSub, Int.reduceNeg, Int.reduceBEq, Int.reduceBNe, Nat.reduceBNe, Nat.reduceDiv, Nat.reduceMod, Go.undef]
              exact Weak.to 1 (by (simp only [go_sem, Nat.reduceAdd, Nat.reduceSub, Nat.reduceMul, Nat.reduceBEq, Nat.reduceLT, Nat.reduceLeDiff, Nat.reduceEqDiff, Int.reduceToNat, Int.reduceLE, Int.reduceLT, Int.reduceAdd, Int.reduceSub, Int.reduceNeg, Int.reduceBEq, Int.reduceBNe, Nat.reduceBNe, Nat.reduceDiv, Nat.reduceMod, e]) <;> simp)
            · simp only [go_sem, Nat.reduceAdd, Nat.reduceSub, Nat.reduceMul, Nat.reduceBEq, Nat.reduceLT, Nat.reduceLeDiff, Nat.reduceEqDiff, Int.reduceToNat, Int.reduceLE, Int.reduceLT, Int.reduceAdd, Int.reduceSub, Int.reduceNeg, Int.reduceBEq, Int.reduceBNe, Nat.reduceBNe, Nat.reduceDiv, Nat.reduceMod, Go.undef]
              refine kont_call hb fn90 rfl ?_ (sfrom_ok c.bytes 1 1048576) (Ret.flat rfl) rfl fun d h hR => ?_
              · simp only [go_sem, Nat.reduceAdd, Nat.reduceSub, Nat.reduceMul, Nat.reduceBEq, Nat.reduceLT, Nat.reduceLeDiff, Nat.reduceEqDiff, Int.reduceToNat, Int.reduceLE, Int.reduceLT, Int.reduceAdd, Int.reduceSub, Int.reduceNeg, Int.reduceBEq, Int.reduceBNe, Nat.reduceBNe, Nat.reduceDiv, Nat.reduceMod]
              obtain ⟨rfl, rfl⟩ := hR
              refine kont_of_hx cx_ok hb 200 ?_
              simp only [go_sem, Nat.reduceAdd, Nat.reduceSub, Nat.reduceMul, Nat.reduceBEq, Nat.reduceLT, Nat.reduceLeDiff, Nat.reduceEqDiff, Int.reduceToNat, Int.reduceLE, Int.reduceLT, Int.reduceAdd, Int.reduceSub, Int.reduceNeg, Int.reduceBEq, Int.reduceBNe, Nat.reduceBNe, Nat.reduceDiv, Nat.reduceMod]
              cases hq : frI c.bytes 1 1048576
              · have e : leafOk c = false := by simp [leafOk, hp, hq]
                simp only [go_sem, Nat.reduceAdd, Nat.reduceSub, Nat.reduceMul, Nat.reduceBEq, Nat.reduceLT, Nat.reduceLeDiff, Nat.reduceEqDiff, Int.reduceToNat, Int.reduceLE, Int.reduceLT, Int.reduceAdd, Int.reduceSub, Int.reduceNeg, Int.reduceBEq, Int.reduceBNe, Nat.reduceBNe, Nat.reduceDiv, Nat.reduceMod, Go.undef]
                exact Weak.to 1 (by (simp only [go_sem, Nat.reduceAdd, Nat.reduceSub, Nat.reduceMul, Nat.reduceBEq, Nat.reduceLT, Nat.reduceLeDiff, Nat.reduceEqDiff, Int.reduceToNat, Int.reduceLE, Int.reduceLT, Int.reduceAdd, Int.reduceSub, Int.reduceNeg, Int.reduceBEq, Int.reduceBNe, Nat.reduceBNe, Nat.reduceDiv, Nat.reduceMod, e]) <;> simp)
              · simp only [go_sem, Nat.reduceAdd, Nat.reduceSub, Nat.reduceMul, Nat.reduceBEq, Nat.reduceLT, Nat.reduceLeDiff, Nat.reduceEqDiff, Int.reduceToNat, Int.reduceLE, Int.reduceLT, Int.reduceAdd, Int.reduceSub, Int.reduceNeg, Int.reduceBEq, Int.reduceBNe, Nat.reduceBNe, Nat.reduceDiv, Nat.reduceMod, Go.undef]
                refine kont_call hb fn93 rfl ?_ (sreal_ok c) (Ret.flat rfl) rfl fun d h hR => ?_
                · simp only [go_sem, Nat.reduceAdd, Nat.reduceSub, Nat.reduceMul, Nat.reduceBEq, Nat.reduceLT, Nat.reduceLeDiff, Nat.reduceEqDiff, Int.reduceToNat, Int.reduceLE, Int.reduceLT, Int.reduceAdd, Int.reduceSub, Int.reduceNeg, Int.reduceBEq, Int.reduceBNe, Nat.reduceBNe, Nat.reduceDiv, Nat.reduceMod]
                obtain ⟨rfl, rfl⟩ := hR
                refine kont_of_hx cx_ok hb 200 ?_
                simp only [go_sem, Nat.reduceAdd, Nat.reduceSub, Nat.reduceMul, Nat.reduceBEq, Nat.reduceLT, Nat.reduceLeDiff, Nat.reduceEqDiff, Int.reduceToNat, Int.reduceLE, Int.reduceLT, Int.reduceAdd, Int.reduceSub, Int.reduceNeg, Int.reduceBEq, Int.reduceBNe, Nat.reduceBNe, Nat.reduceDiv, Nat.reduceMod]
                cases hr : decide (1 < ofI c.rt)
                · simp only [go_sem, Nat.reduceAdd, Nat.reduceSub, Nat.reduceMul, Nat.reduceBEq, Nat.reduceLT, Nat.reduceLeDiff, Nat.reduceEqDiff, Int.reduceToNat, Int.reduceLE, Int.reduceLT, Int.reduceAdd, Int.reduceSub, Int.reduceNeg, Int.reduceBEq, Int.reduceBNe, Nat.reduceBNe, Nat.reduceDiv, Nat.reduceMod, Go.undef]
                  refine kont_call hb fn55 rfl ?_ (sshares_ok c) (Ret.flat rfl) rfl fun d h hR => ?_
                  · simp only [go_sem, Nat.reduceAdd, Nat.reduceSub, Nat.reduceMul, Nat.reduceBEq, Nat.reduceLT, Nat.reduceLeDiff, Nat.reduceEqDiff, Int.reduceToNat, Int.reduceLE, Int.reduceLT, Int.reduceAdd, Int.reduceSub, Int.reduceNeg, Int.reduceBEq, Int.reduceBNe, Nat.reduceBNe, Nat.reduceDiv, Nat.reduceMod]
                  obtain ⟨rfl, rfl⟩ := hR
                  refine kont_of_hx cx_ok hb 200 ?_
                  simp only [go_sem, Nat.reduceAdd, Nat.reduceSub, Nat.reduceMul, Nat.reduceBEq, Nat.reduceLT, Nat.reduceLeDiff, Nat.reduceEqDiff, Int.reduceToNat, Int.reduceLE, Int.reduceLT, Int.reduceAdd, Int.reduceSub, Int.reduceNeg, Int.reduceBEq, Int.reduceBNe, Nat.reduceBNe, Nat.reduceDiv, Nat.reduceMod]
                  have e : leafOk c = decide (1 < ofI c.ls) := by simp [leafOk, hp, hq, hr]
                  exact Weak.to 1 (by (simp only [go_sem, Nat.reduceAdd, Nat.reduceSub, Nat.reduceMul, Nat.reduceBEq, Nat.reduceLT, Nat.reduceLeDiff, Nat.reduceEqDiff, Int.reduceToNat, Int.reduceLE, Int.reduceLT, Int.reduceAdd, Int.reduceSub, Int.reduceNeg, Int.reduceBEq, Int.reduceBNe, Nat.reduceBNe, Nat.reduceDiv, Nat.reduceMod, e]) <;> simp)
                · have e : leafOk c = true := by simp [leafOk, hp, hq, hr]
                  simp only [go_sem, Nat.reduceAdd, Nat.reduceSub, Nat.reduceMul, Nat.reduceBEq, Nat.reduceLT, Nat.reduceLeDiff, Nat.reduceEqDiff, Int.reduceToNat, Int.reduceLE, Int.reduceLT, Int.reduceAdd, Int.reduceSub, Int.reduceNeg, Int.reduceBEq, Int.reduceBNe, Nat.reduceBNe, Nat.reduceDiv, Nat.reduceMod, Go.undef]
                  exact Weak.to 1 (by (simp only [go_sem, Nat.reduceAdd, Nat.reduceSub, Nat.reduceMul, Nat.reduceBEq, Nat.reduceLT, Nat.reduceLeDiff, Nat.reduceEqDiff, Int.reduceToNat, Int.reduceLE, Int.reduceLT, Int.reduceAdd, Int.reduceSub, Int.reduceNeg, Int.reduceBEq, Int.reduceBNe, Nat.reduceBNe, Nat.reduceDiv, Nat.reduceMod, e]) <;> simp)
          first | refine kont_seq ?_ | skip
          refine kont_joinF [1, 2, 5] [(6, dbool (innerOk c))] rfl ?_ ?_
          · refine kont_of_hx cx_ok hb 200 ?_
            simp only [go_sem, Nat.reduceAdd, Nat.reduceSub, Nat.reduceMul, Nat.reduceBEq, Nat.reduceLT, Nat.reduceLeDiff, Nat.reduceEqDiff, Int.reduceToNat, Int.reduceLE, Int.reduceLT, Int.reduceAdd, Int.reduceSub, Int.reduceNeg, Int.reduceBEq, Int.reduceBNe, Nat.reduceBNe, Nat.reduceDiv, Nat.reduceMod]
            by_cases hp : c.pkts = 0
            · simp only [go_sem, Nat.reduceAdd, Nat.reduceSub, Nat.reduceMul, Nat.reduceBEq, Nat.reduceLT, Nat.reduceLeDiff, Nat.reduceEqDiff, Int.reduceToNat, Int.reduceLE, Int.reduceLT, Int.reduceAdd, Int.reduceSub, Int.reduceNeg, Int.reduceBEq, Int.reduceBNe, Nat.reduceBNe, Nat.reduceDiv, Nat.reduceMod, beqT hp, Go.undef]
              by_cases hq : c.bytes = 0
              · simp only [go_sem, Nat.reduceAdd, Nat.reduceSub, Nat.reduceMul, Nat.reduceBEq, Nat.reduceLT, Nat.reduceLeDiff, Nat.reduceEqDiff, Int.reduceToNat, Int.reduceLE, Int.reduceLT, Int.reduceAdd, Int.reduceSub, Int.reduceNeg, Int.reduceBEq, Int.reduceBNe, Nat.reduceBNe, Nat.reduceDiv, Nat.reduceMod, beqT hq, Go.undef]
                refine kont_call hb fn93 rfl ?_ (sreal_ok c) (Ret.flat rfl) rfl fun d h hR => ?_
                · simp only [go_sem, Nat.reduceAdd, Nat.reduceSub, Nat.reduceMul, Nat.reduceBEq, Nat.reduceLT, Nat.reduceLeDiff, Nat.reduceEqDiff, Int.reduceToNat, Int.reduceLE, Int.reduceLT, Int.reduceAdd, Int.reduceSub, Int.reduceNeg, Int.reduceBEq, Int.reduceBNe, Nat.reduceBNe, Nat.reduceDiv, Nat.reduceMod]
                obtain ⟨rfl, rfl⟩ := hR
                refine kont_of_hx cx_ok hb 200 ?_
                simp only [go_sem, Nat.reduceAdd, Nat.reduceSub, Nat.reduceMul, Nat.reduceBEq, Nat.reduceLT, Nat.reduceLeDiff, Nat.reduceEqDiff, Int.reduceToNat, Int.reduceLE, Int.reduceLT, Int.reduceAdd, Int.reduceSub, Int.reduceNeg, Int.reduceBEq, Int.reduceBNe, Nat.reduceBNe, Nat.reduceDiv, Nat.reduceMod]
                have e : innerOk c = !decide (1 < ofI c.rt) := by simp [innerOk, hp, hq]
                exact Weak.to 1 (by (simp only [go_sem, Nat.reduceAdd, Nat.reduceSub, Nat.reduceMul, Nat.reduceBEq, Nat.reduceLT, Nat.reduceLeDiff, Nat.reduceEqDiff, Int.reduceToNat, Int.reduceLE, Int.reduceLT, Int.reduceAdd, Int.reduceSub, Int.reduceNeg, Int.reduceBEq, Int.reduceBNe, Nat.reduceBNe, Nat.reduceDiv, Nat.reduceMod, e]) <;> simp)
              · have e : innerOk c = false := by simp [innerOk, hp, hq]
                simp only [go_sem, Nat.reduceAdd, Nat.reduceSub, Nat.reduceMul, Nat.reduceBEq, Nat.reduceLT, Nat.reduceLeDiff, Nat.reduceEqDiff, Int.reduceToNat, Int.reduceLE, Int.reduceLT, Int.reduceAdd, Int.reduceSub, Int.reduceNeg, Int.reduceBEq, Int.reduceBNe, Nat.reduceBNe, Nat.reduceDiv, Nat.reduceMod, beqF hq, Go.undef]
                exact Weak.to 1 (by (simp only [go_sem, Nat.reduceAdd, Nat.reduceSub, Nat.reduceMul, Nat.reduceBEq, Nat.reduceLT, Nat.reduceLeDiff, Nat.reduceEqDiff, Int.reduceToNat, Int.reduceLE, Int.reduceLT, Int.reduceAdd, Int.reduceSub, Int.reduceNeg, Int.reduceBEq, Int.reduceBNe, Nat.reduceBNe, Nat.reduceDiv, Nat.reduceMod, e]) <;> simp)
            · have e : innerOk c = false := by simp [innerOk, hp]
              simp only [go_sem, Nat.reduceAdd, Nat.reduceSub, Nat.reduceMul, Nat.reduceBEq, Nat.reduceLT, Nat.reduceLeDiff, Nat.reduceEqDiff, Int.reduceToNat, Int.reduceLE, Int.reduceLT, Int.reduceAdd, Int.reduceSub, Int.reduceNeg, Int.reduceBEq, Int.reduceBNe, Nat.reduceBNe, Nat.reduceDiv, Nat.reduceMod, beqF hp, Go.undef]
              exact Weak.to 1 (by (simp only [go_sem, Nat.reduceAdd, Nat.reduceSub, Nat.reduceMul, Nat.reduceBEq, Nat.reduceLT, Nat.reduceLeDiff, Nat.reduceEqDiff, Int.reduceToNat, Int.reduceLE, Int.reduceLT, Int.reduceAdd, Int.reduceSub, Int.reduceNeg, Int.reduceBEq, Int.reduceBNe, Nat.reduceBNe, Nat.reduceDiv, Nat.reduceMod, e]) <;> simp)
          refine kont_of_hx cx_ok hb 200 ?_
          simp only [go_sem, Nat.reduceAdd, Nat.reduceSub, Nat.reduceMul, Nat.reduceBEq, Nat.reduceLT, Nat.reduceLeDiff, Nat.reduceEqDiff, Int.reduceToNat, Int.reduceLE, Int.reduceLT, Int.reduceAdd, Int.reduceSub, Int.reduceNeg, Int.reduceBEq, Int.reduceBNe, Nat.reduceBNe, Nat.reduceDiv, Nat.reduceMod]
          have hv : rightV c = if (c.leaf && !leafOk c) || (!c.leaf && !innerOk c) || (decide (1 < ofI c.ul) && !decide (1 < ofI c.ls)) then 29 else 0 := by simp [rightV, hid, hcv]
          generalize leafOk c = lo at hv ⊢
          generalize innerOk c = io at hv ⊢
          cases hl : c.leaf <;> rw [hl] at hv
          · cases io
            · simp at hv
              simp only [go_sem, Nat.reduceAdd, Nat.reduceSub, Nat.reduceMul, Nat.reduceBEq, Nat.reduceLT, Nat.reduceLeDiff, Nat.reduceEqDiff, Int.reduceToNat, Int.reduceLE, Int.reduceLT, Int.reduceAdd, Int.reduceSub, Int.reduceNeg, Int.reduceBEq, Int.reduceBNe, Nat.reduceBNe, Nat.reduceDiv, Nat.reduceMod, Go.undef, hv]
            · simp only [go_sem, Nat.reduceAdd, Nat.reduceSub, Nat.reduceMul, Nat.reduceBEq, Nat.reduceLT, Nat.reduceLeDiff, Nat.reduceEqDiff, Int.reduceToNat, Int.reduceLE, Int.reduceLT, Int.reduceAdd, Int.reduceSub, Int.reduceNeg, Int.reduceBEq, Int.reduceBNe, Nat.reduceBNe, Nat.reduceDiv, Nat.reduceMod, Go.undef]
              refine kont_call hb fn94 rfl ?_ (scapped_ok c) (Ret.flat rfl) rfl fun d h hR => ?_
              · simp only [go_sem, Nat.reduceAdd, Nat.reduceSub, Nat.reduceMul, Nat.reduceBEq, Nat.reduceLT, Nat.reduceLeDiff, Nat.reduceEqDiff, Int.reduceToNat, Int.reduceLE, Int.reduceLT, Int.reduceAdd, Int.reduceSub, Int.reduceNeg, Int.reduceBEq, Int.reduceBNe, Nat.reduceBNe, Nat.reduceDiv, Nat.reduceMod, hl]
              obtain ⟨rfl, rfl⟩ := hR
              refine kont_of_hx cx_ok hb 200 ?_
              simp only [go_sem, Nat.reduceAdd, Nat.reduceSub, Nat.reduceMul, Nat.reduceBEq, Nat.reduceLT, Nat.reduceLeDiff, Nat.reduceEqDiff, Int.reduceToNat, Int.reduceLE, Int.reduceLT, Int.reduceAdd, Int.reduceSub, Int.reduceNeg, Int.reduceBEq, Int.reduceBNe, Nat.reduceBNe, Nat.reduceDiv, Nat.reduceMod, hl]
              cases hu : decide (1 < ofI c.ul) <;> rw [hu] at hv
              · simp at hv
                simp only [go_sem, Nat.reduceAdd, Nat.reduceSub, Nat.reduceMul, Nat.reduceBEq, Nat.reduceLT, Nat.reduceLeDiff, Nat.reduceEqDiff, Int.reduceToNat, Int.reduceLE, Int.reduceLT, Int.reduceAdd, Int.reduceSub, Int.reduceNeg, Int.reduceBEq, Int.reduceBNe, Nat.reduceBNe, Nat.reduceDiv, Nat.reduceMod, Go.undef, hv]
              · simp only [go_sem, Nat.reduceAdd, Nat.reduceSub, Nat.reduceMul, Nat.reduceBEq, Nat.reduceLT, Nat.reduceLeDiff, Nat.reduceEqDiff, Int.reduceToNat, Int.reduceLE, Int.reduceLT, Int.reduceAdd, Int.reduceSub, Int.reduceNeg, Int.reduceBEq, Int.reduceBNe, Nat.reduceBNe, Nat.reduceDiv, Nat.reduceMod, Go.undef]
                refine kont_call hb fn55 rfl ?_ (sshares_ok c) (Ret.flat rfl) rfl fun d h hR => ?_
                · simp only [go_sem, Nat.reduceAdd, Nat.reduceSub, Nat.reduceMul, Nat.reduceBEq, Nat.reduceLT, Nat.reduceLeDiff, Nat.reduceEqDiff, Int.reduceToNat, Int.reduceLE, Int.reduceLT, Int.reduceAdd, Int.reduceSub, Int.reduceNeg, Int.reduceBEq, Int.reduceBNe, Nat.reduceBNe, Nat.reduceDiv, Nat.reduceMod, hl]
                obtain ⟨rfl, rfl⟩ := hR
                refine kont_of_hx cx_ok hb 200 ?_
                simp only [go_sem, Nat.reduceAdd, Nat.reduceSub, Nat.reduceMul, Nat.reduceBEq, Nat.reduceLT, Nat.reduceLeDiff, Nat.reduceEqDiff, Int.reduceToNat, Int.reduceLE, Int.reduceLT, Int.reduceAdd, Int.reduceSub, Int.reduceNeg, Int.reduceBEq, Int.reduceBNe, Nat.reduceBNe, Nat.reduceDiv, Nat.reduceMod, hl]
                cases hs : decide (1 < ofI c.ls) <;> rw [hs] at hv <;> simp at hv <;> simp only [go_sem, Nat.reduceAdd, Nat.reduceSub, Nat.reduceMul, Nat.reduceBEq, Nat.reduceLT, Nat.reduceLeDiff, Nat.reduceEqDiff, Int.reduceToNat, Int.reduceLE, Int.reduceLT, Int.reduceAdd, Int.reduceSub, Int.reduceNeg, Int.reduceBEq, Int.reduceBNe, Nat.reduceBNe, Nat.reduceDiv, Nat.reduceMod, Go.undef, hv]
          · cases lo
            · simp at hv
              simp only [go_sem, Nat.reduceAdd, Nat.reduceSub, Nat.reduceMul, Nat.reduceBEq, Nat.reduceLT, Nat.reduceLeDiff, Nat.reduceEqDiff, Int.reduceToNat, Int.reduceLE, Int.reduceLT, Int.reduceAdd, Int.reduceSub, Int.reduceNeg, Int.reduceBEq, Int.reduceBNe, Nat.reduceBNe, Nat.reduceDiv, Nat.reduceMod, Go.undef, hv]
            · simp only [go_sem, Nat.reduceAdd, Nat.reduceSub, Nat.reduceMul, Nat.reduceBEq, Nat.reduceLT, Nat.reduceLeDiff, Nat.reduceEqDiff, Int.reduceToNat, Int.reduceLE, Int.reduceLT, Int.reduceAdd, Int.reduceSub, Int.reduceNeg, Int.reduceBEq, Int.reduceBNe, Nat.reduceBNe, Nat.reduceDiv, Nat.reduceMod, Go.undef]
              refine kont_call hb fn94 rfl ?_ (scapped_ok c) (Ret.flat rfl) rfl fun d h hR => ?_
              · simp only [go_sem, Nat.reduceAdd, Nat.reduceSub, Nat.reduceMul, Nat.reduceBEq, Nat.reduceLT, Nat.reduceLeDiff, Nat.reduceEqDiff, Int.reduceToNat, Int.reduceLE, Int.reduceLT, Int.reduceAdd, Int.reduceSub, Int.reduceNeg, Int.reduceBEq, Int.reduceBNe, Nat.reduceBNe, Nat.reduceDiv, Nat.reduceMod, hl]
              obtain ⟨rfl, rfl⟩ := hR
              refine kont_of_hx cx_ok hb 200 ?_
              simp only [go_sem, Nat.reduceAdd, Nat.reduceSub, Nat.reduceMul, Nat.reduceBEq, Nat.reduceLT, Nat.reduceLeDiff, Nat.reduceEqDiff, Int.reduceToNat, Int.reduceLE, Int.reduceLT, Int.reduceAdd, Int.reduceSub, Int.reduceNeg, Int.reduceBEq, Int.reduceBNe, Nat.reduceBNe, Nat.reduceDiv, Nat.reduceMod, hl]
              cases hu : decide (1 < ofI c.ul) <;> rw [hu] at hv
              · simp at hv
                simp only [go_sem, Nat.reduceAdd, Nat.reduceSub, Nat.reduceMul, Nat.reduceBEq, Nat.reduceLT, Nat.reduceLeDiff, Nat.reduceEqDiff, Int.reduceToNat, Int.reduceLE, Int.reduceLT, Int.reduceAdd, Int.reduceSub, Int.reduceNeg, Int.reduceBEq, Int.reduceBNe, Nat.reduceBNe, Nat.reduceDiv, Nat.reduceMod, Go.undef, hv]
              · simp only [go_sem, Nat.reduceAdd, Nat.reduceSub, Nat.reduceMul, Nat.reduceBEq, Nat.reduceLT, Nat.reduceLeDiff, Nat.reduceEqDiff, Int.reduceToNat, Int.reduceLE, Int.reduceLT, Int.reduceAdd, Int.reduceSub, Int.reduceNeg, Int.reduceBEq, Int.reduceBNe, Nat.reduceBNe, Nat.reduceDiv, Nat.reduceMod, Go.undef]
                refine kont_call hb fn55 rfl ?_ (sshares_ok c) (Ret.flat rfl) rfl fun d h hR => ?_
                · simp only [go_sem, Nat.reduceAdd, Nat.reduceSub, Nat.reduceMul, Nat.reduceBEq, Nat.reduceLT, Nat.reduceLeDiff, Nat.reduceEqDiff, Int.reduceToNat, Int.reduceLE, Int.reduceLT, Int.reduceAdd, Int.reduceSub, Int.reduceNeg, Int.reduceBEq, Int.reduceBNe, Nat.reduceBNe, Nat.reduceDiv, Nat.reduceMod, hl]
                obtain ⟨rfl, rfl⟩ := hR
                refine kont_of_hx cx_ok hb 200 ?_
                simp only [go_sem, Nat.reduceAdd, Nat.reduceSub, Nat.reduceMul, Nat.reduceBEq, Nat.reduceLT, Nat.reduceLeDiff, Nat.reduceEqDiff, Int.reduceToNat, Int.reduceLE, Int.reduceLT, Int.reduceAdd, Int.reduceSub, Int.reduceNeg, Int.reduceBEq, Int.reduceBNe, Nat.reduceBNe, Nat.reduceDiv, Nat.reduceMod, hl]
                cases hs : decide (1 < ofI c.ls) <;> rw [hs] at hv <;> simp at hv <;> simp only [go_sem, Nat.reduceAdd, Nat.reduceSub, Nat.reduceMul, Nat.reduceBEq, Nat.reduceLT, Nat.reduceLeDiff, Nat.reduceEqDiff, Int.reduceToNat, Int.reduceLE, Int.reduceLT, Int.reduceAdd, Int.reduceSub, Int.reduceNeg, Int.reduceBEq, Int.reduceBNe, Nat.reduceBNe, Nat.reduceDiv, Nat.reduceMod, Go.undef, hv]
end Go.Fg.X
namespace Go.Fg.X
open Go.Proofs Go.Fg
set_option maxRecDepth 100000
set_option maxHeartbeats 4000000
set_option linter.unusedSimpArgs false
set_option linter.unusedVariables false
theorem ofI_range (c : Cv) : 0 ≤ ofI c ∧ ofI c ≤ 4 := by unfold ofI; (repeat' split) <;> omega
def wrongV (c : Kls) : Int := if c.iD < 1 ∨ 65536 < c.iD ∨ c.parent < 0 ∨ 65536 < c.parent ∨ c.iD = c.parent then 1
  else if ofI c.rt = 0 ∨ ofI c.ls = 0 ∨ ofI c.ul = 0 ∨ ofI c.ls = 4 ∨ ofI c.ul = 4 then 21
  else if 1 < ofI c.ul ∧ ofI c.ls = 1 then 29
  else if c.leaf = true then (if c.pkts < 1 ∨ 64 < c.pkts ∨ c.bytes < 1 ∨ 1048576 < c.bytes ∨ (ofI c.rt = 1 ∧ ofI c.ls = 1) then 29 else 0)
  else if c.pkts ≠ 0 ∨ c.bytes ≠ 0 ∨ ofI c.rt ≠ 1 then 29 else 0
def Cv.Nn (c : Cv) : Prop := 0 ≤ c.m1 ∧ 0 ≤ c.d ∧ 0 ≤ c.m2
def Kls.Nn (c : Kls) : Prop := c.rt.Nn ∧ c.ls.Nn ∧ c.ul.Nn
theorem wrong_ok (c : Kls) (hc : c.Nn) : AFn Try.prog 99 [dkl c] (Ret (dint (wrongV c))) := by
  refine AFn_hxk 0 cx_ok 200 Try.func99 rfl Try.ntmps99 Try.results99 rfl fun base w hb => ?_
  simp only [go_sem, Nat.reduceAdd, Nat.reduceSub, Nat.reduceMul, Nat.reduceBEq, Nat.reduceLT, Nat.reduceLeDiff, Nat.reduceEqDiff, Int.reduceToNat, Int.reduceLE, Int.reduceLT, Int.reduceAdd, Int.reduceSub, Int.reduceNeg, Int.reduceBEq, Int.reduceBNe, Nat.reduceBNe, Nat.reduceDiv, Nat.reduceMod]
  repeat' (first | ((first | refine hite_dec (fun h => ?_) (fun h => ?_) | refine hite_beq (fun h => ?_) (fun h => ?_) | refine hite_bne (fun h => ?_) (fun h => ?_) | refine hite_intro (fun h => ?_) (fun h => ?_) | refine hite_decA (fun h => ?_) (fun h => ?_) | refine hite_beqA (fun h => ?_) (fun h => ?_) | refine hite_bneA (fun h => ?_) (fun h => ?_) | refine hite_intro' (fun h => ?_) (fun h => ?_)) <;> (try simp only [go_sem, Nat.reduceAdd, Nat.reduceSub, Nat.reduceMul, Nat.reduceBEq, Nat.reduceLT, Nat.reduceLeDiff, Nat.reduceEqDiff, Int.reduceToNat, Int.reduceLE, Int.reduceLT, Int.reduceAdd, Int.reduceSub, Int.reduceNeg, Int.reduceBEq, Int.reduceBNe, Nat.reduceBNe, Nat.reduceDiv, Nat.reduceMod])) | (refine And.intro (by omega) ?_; try simp only [go_sem, Nat.reduceAdd, Nat.reduceSub, Nat.reduceMul, Nat.reduceBEq, Nat.reduceLT, Nat.reduceLeDiff, Nat.reduceEqDiff, Int.reduceToNat, Int.reduceLE, Int.reduceLT, Int.reduceAdd, Int.reduceSub, Int.reduceNeg, Int.reduceBEq, Int.reduceBNe, Nat.reduceBNe, Nat.reduceDiv, Nat.reduceMod]))
  all_goals first | (congr 2; unfold wrongV; (repeat' split) <;> first | omega | simp_all; done) | skip
  refine kont_call hb fn101 rfl ?_ (rofcI_ok c.rt hc.1.1 hc.1.2.1 hc.1.2.2) (Ret.flat rfl) rfl fun d h hR => ?_
  · simp only [go_sem, Nat.reduceAdd, Nat.reduceSub, Nat.reduceMul, Nat.reduceBEq, Nat.reduceLT, Nat.reduceLeDiff, Nat.reduceEqDiff, Int.reduceToNat, Int.reduceLE, Int.reduceLT, Int.reduceAdd, Int.reduceSub, Int.reduceNeg, Int.reduceBEq, Int.reduceBNe, Nat.reduceBNe, Nat.reduceDiv, Nat.reduceMod]
  obtain ⟨rfl, rfl⟩ := hR
  refine kont_of_hx cx_ok hb 200 ?_
  simp only [go_sem, Nat.reduceAdd, Nat.reduceSub, Nat.reduceMul, Nat.reduceBEq, Nat.reduceLT, Nat.reduceLeDiff, Nat.reduceEqDiff, Int.reduceToNat, Int.reduceLE, Int.reduceLT, Int.reduceAdd, Int.reduceSub, Int.reduceNeg, Int.reduceBEq, Int.reduceBNe, Nat.reduceBNe, Nat.reduceDiv, Nat.reduceMod]
  refine kont_call hb fn101 rfl ?_ (rofcI_ok c.ls hc.2.1.1 hc.2.1.2.1 hc.2.1.2.2) (Ret.flat rfl) rfl fun d h hR => ?_
  · simp only [go_sem, Nat.reduceAdd, Nat.reduceSub, Nat.reduceMul, Nat.reduceBEq, Nat.reduceLT, Nat.reduceLeDiff, Nat.reduceEqDiff, Int.reduceToNat, Int.reduceLE, Int.reduceLT, Int.reduceAdd, Int.reduceSub, Int.reduceNeg, Int.reduceBEq, Int.reduceBNe, Nat.reduceBNe, Nat.reduceDiv, Nat.reduceMod]
  obtain ⟨rfl, rfl⟩ := hR
  refine kont_of_hx cx_ok hb 200 ?_
  simp only [go_sem, Nat.reduceAdd, Nat.reduceSub, Nat.reduceMul, Nat.reduceBEq, Nat.reduceLT, Nat.reduceLeDiff, Nat.reduceEqDiff, Int.reduceToNat, Int.reduceLE, Int.reduceLT, Int.reduceAdd, Int.reduceSub, Int.reduceNeg, Int.reduceBEq, Int.reduceBNe, Nat.reduceBNe, Nat.reduceDiv, Nat.reduceMod]
  refine kont_call hb fn101 rfl ?_ (rofcI_ok c.ul hc.2.2.1 hc.2.2.2.1 hc.2.2.2.2) (Ret.flat rfl) rfl fun d h hR => ?_
  · simp only [go_sem, Nat.reduceAdd, Nat.reduceSub, Nat.reduceMul, Nat.reduceBEq, Nat.reduceLT, Nat.reduceLeDiff, Nat.reduceEqDiff, Int.reduceToNat, Int.reduceLE, Int.reduceLT, Int.reduceAdd, Int.reduceSub, Int.reduceNeg, Int.reduceBEq, Int.reduceBNe, Nat.reduceBNe, Nat.reduceDiv, Nat.reduceMod]
  obtain ⟨rfl, rfl⟩ := hR
  refine kont_of_hx cx_ok hb 200 ?_
  simp only [go_sem, Nat.reduceAdd, Nat.reduceSub, Nat.reduceMul, Nat.reduceBEq, Nat.reduceLT, Nat.reduceLeDiff, Nat.reduceEqDiff, Int.reduceToNat, Int.reduceLE, Int.reduceLT, Int.reduceAdd, Int.reduceSub, Int.reduceNeg, Int.reduceBEq, Int.reduceBNe, Nat.reduceBNe, Nat.reduceDiv, Nat.reduceMod]
  repeat' (first | ((first | refine hite_dec (fun h => ?_) (fun h => ?_) | refine hite_beq (fun h => ?_) (fun h => ?_) | refine hite_bne (fun h => ?_) (fun h => ?_) | refine hite_intro (fun h => ?_) (fun h => ?_) | refine hite_decA (fun h => ?_) (fun h => ?_) | refine hite_beqA (fun h => ?_) (fun h => ?_) | refine hite_bneA (fun h => ?_) (fun h => ?_) | refine hite_intro' (fun h => ?_) (fun h => ?_)) <;> (try simp only [go_sem, Nat.reduceAdd, Nat.reduceSub, Nat.reduceMul, Nat.reduceBEq, Nat.reduceLT, Nat.reduceLeDiff, Nat.reduceEqDiff, Int.reduceToNat, Int.reduceLE, Int.reduceLT, Int.reduceAdd, Int.reduceSub, Int.reduceNeg, Int.reduceBEq, Int.reduceBNe, Nat.reduceBNe, Nat.reduceDiv, Nat.reduceMod])) | (refine And.intro (by omega) ?_; try simp only [go_sem, Nat.reduceAdd, Nat.reduceSub, Nat.reduceMul, Nat.reduceBEq, Nat.reduceLT, Nat.reduceLeDiff, Nat.reduceEqDiff, Int.reduceToNat, Int.reduceLE, Int.reduceLT, Int.reduceAdd, Int.reduceSub, Int.reduceNeg, Int.reduceBEq, Int.reduceBNe, Nat.reduceBNe, Nat.reduceDiv, Nat.reduceMod]))
  all_goals first | (congr 2; unfold wrongV; (repeat' split) <;> first | omega | simp_all; done) | skip
theorem wrong_right (c : Kls) : wrongV c = rightV c := by
  have h1 := ofI_range c.rt
  have h2 := ofI_range c.ls
  have h3 := ofI_range c.ul
  unfold wrongV rightV idOk cvOk leafOk innerOk frI
  generalize ofI c.rt = a at *
  generalize ofI c.ls = b at *
  generalize ofI c.ul = d at *
  cases hl : c.leaf <;> simp only [Bool.and_eq_true, Bool.or_eq_true, Bool.not_eq_true', Bool.and_eq_false_iff, Bool.or_eq_false_iff, decide_eq_true_eq, decide_eq_false_iff_not, beq_iff_eq, beq_eq_false_iff_ne, bne_iff_ne, bne_eq_false_iff_eq, Bool.not_eq_false', ne_eq, reduceCtorEq, false_and, true_and, false_or, or_false, if_false, if_true] <;> (repeat' split) <;> omega
end Go.Fg.X
namespace Go.Fg
set_option linter.unusedSimpArgs false
set_option linter.unusedVariables false
open Go.RowKit (Below)
/-- The numbers of birth rise. -/
def Births (es : List Ent) : Prop := (es.map (·.b)).Pairwise (· < ·)
theorem EntRel.births {Z : Nat → Prop} {h : List Ob} {pl : List Pl} {w : World} {q : IntKind} {c : Nat} {es : List Ent} {ens : List MapEntry} (E : EntRel Z h pl w q c es ens) : Births es := by
  unfold Births
  rw [List.pairwise_iff_getElem]
  intro i j hi hj hij
  simp only [List.length_map] at hi hj
  have hl := E.len
  obtain ⟨_, _, h1, _⟩ := E.at_ i es[i] ens[i] (List.getElem?_eq_getElem hi) (List.getElem?_eq_getElem (by omega))
  obtain ⟨_, _, h2, _⟩ := E.at_ j es[j] ens[j] (List.getElem?_eq_getElem hj) (List.getElem?_eq_getElem (by omega))
  have := E.inc i j ens[i] ens[j] hij (List.getElem?_eq_getElem (by omega)) (List.getElem?_eq_getElem (by omega))
  simp only [List.getElem_map]
  omega
theorem Births.inj {es : List Ent} (B : Births es) {e e' : Ent} (h : e ∈ es) (h' : e' ∈ es) (hb : e.b = e'.b) : e = e' := by
  unfold Births at B
  rw [List.pairwise_iff_getElem] at B
  obtain ⟨i, hi, rfl⟩ := List.getElem_of_mem h
  obtain ⟨j, hj, rfl⟩ := List.getElem_of_mem h'
  rcases Nat.lt_trichotomy i j with h1 | h1 | h1
  · have := B i j (by simpa using hi) (by simpa using hj) h1; simp only [List.getElem_map] at this; omega
  · subst h1; rfl
  · have := B j i (by simpa using hj) (by simpa using hi) h1; simp only [List.getElem_map] at this; omega
theorem Births.nodup {es : List Ent} (B : Births es) : (es.map (·.b)).Nodup := by
  unfold List.Nodup
  exact List.Pairwise.imp (fun h => Nat.ne_of_lt h) B
/-- How many are left. -/
def leftE (es : List Ent) (seen : List Nat) : Nat := (es.filter fun e => !seen.contains e.b).length
theorem leftE_lt : ∀ {es : List Ent} {seen : List Nat} {e : Ent}, e ∈ es → e.b ∉ seen → leftE es (seen ++ [e.b]) < leftE es seen
  | [], _, _, h, _ => by simp at h
  | x :: es, seen, e, h, hs => by
    have le : ∀ es : List Ent, leftE es (seen ++ [e.b]) ≤ leftE es seen := fun es => by
      induction es with
      | nil => exact Nat.le_refl _
      | cons y r ih =>
        simp only [leftE, List.filter_cons] at ih ⊢
        by_cases h1 : y.b ∈ seen <;> by_cases h2 : y.b = e.b <;> simp_all <;> omega
    rcases List.mem_cons.1 h with rfl | h
    · have := le es
      simp only [leftE, List.filter_cons] at this ⊢
      simp_all
      omega
    · have := leftE_lt h hs
      simp only [leftE, List.filter_cons] at this ⊢
      by_cases h1 : x.b ∈ seen <;> by_cases h2 : x.b = e.b <;> simp_all <;> omega
section
variable {P : Program} {L : Lay} {base nt : Nat} {w0 : Start} {Q : Exit → St → Prop}
theorem map_births {Z : Nat → Prop} {s : St} {pl : List Pl} {a : Act} {w : World} (r : Rel Z base nt s pl a w) {l c : Nat} {es : List Ent} {kd : Kd} {q : IntKind} (hkd : kd.ty = 1) (hob : s.h[l]? = some (mapObK kd q c es)) : Births es := by
  have hl : l < pl.length := by rw [r.o.len]; exact lt_of_some hob
  cases hp : pl[l] with
  | none =>
    have := r.o.noRow l _ hob (by rw [List.getElem?_eq_getElem hl, hp])
    simp [mapObK] at this
  | some bq =>
    obtain ⟨b, p⟩ := bq
    obtain ⟨_, x⟩ := r.o.at_ l _ b p hob (by rw [List.getElem?_eq_getElem hl, hp])
    obtain ⟨_, ens, _, E⟩ := mapAt_to hkd x
    exact E.births
/-- The births of a map that is there rise. -/
theorem kont_births {c0 : Code} {k : List Item} {s : St} {l c : Nat} {es : List Ent} {kd : Kd} {q : IntKind} (hkd : kd.ty = 1) (hob : s.h[l]? = some (mapObK kd q c es)) (hk : Births es → kont P base nt w0 Q (.code c0 :: k) .normal s) : kont P base nt w0 Q (.code c0 :: k) .normal s := by
  simp only [kont] at hk ⊢
  intro Z z pl a w r b
  exact hk (map_births r hkd hob) Z z pl a w r b
theorem kont_birthsO {os : List (Oper × G)} {k : List Item} {s : St} {l c : Nat} {es : List Ent} {kd : Kd} {q : IntKind} (hkd : kd.ty = 1) (hob : s.h[l]? = some (mapObK kd q c es)) (hk : Births es → kont P base nt w0 Q (.ops os :: k) .normal s) : kont P base nt w0 Q (.ops os :: k) .normal s := by
  simp only [kont] at hk ⊢
  intro Z z pl a w r b
  exact hk (map_births r hkd hob) Z z pl a w r b
/-- The entry that an iterator met last. -/
theorem entry_ok {o : Oper} {s : St} {x : Operand} (ho : o.op = .entry x) {li l c : Nat} {es : List Ent} {seen : List Nat} {q : IntKind} {kd : Kd} {e : Ent}
    (hx : evalO s.fr x = .mref li 0) (hit : s.h[li]? = some (iterOb l c c (seen ++ [e.b]))) (hkd : kd.ty = 1) (hob : s.h[l]? = some (mapObK kd q c es)) (he : e ∈ es) : PureOk P base nt o s (.tup [.raw (.int q e.k), e.v]) := by
  intro Z pl a w r
  have e1 := r.eval x
  rw [hx] at e1
  obtain ⟨o', p, b, h1, h2, h3, h4, h5⟩ := inv_mref e1
  rw [hit] at h1; cases h1
  have h5 := h5 rfl
  rw [h5] at h2
  obtain ⟨hb0, xat⟩ := r.o.at_ li _ b 0 hit h2
  obtain ⟨_, m, sn, hb, hsn, hmr⟩ := iterAt_to xat
  have hv : a.eval x = .pointer (some ⟨b, 0, none⟩) := h3.2
  obtain ⟨o2, p2, bm, k1, k2, k3, k4, k5⟩ := inv_mref hmr
  rw [hob] at k1; cases k1
  have k5 := k5 rfl
  rw [k5] at k2
  have k3 := k3.2
  rw [show (mapObK kd q c es).kd.ty = 1 from hkd] at k3
  have k3 : m = bm := by simpa [mval] using k3
  subst k3
  obtain ⟨hm0, mat⟩ := r.o.at_ l _ m 0 hob k2
  obtain ⟨_, ens, hbm, E⟩ := mapAt_to hkd mat
  have hl : es.length = ens.toList.length := E.len
  obtain ⟨j, hj⟩ := List.getElem?_of_mem he
  have hlt := (List.getElem?_eq_some_iff.1 hj).1
  obtain ⟨d1, d2, d3, d4⟩ := E.at_ j e (ens.toList[j]'(by omega)) hj (List.getElem?_eq_getElem (by omega))
  have hnd : (ens.toList.map (·.born)).Nodup := by
    have : ens.toList.map (·.born) = es.map (·.b) := by
      apply List.ext_getElem (by simp [hl])
      intro i h1 h2
      simp only [List.length_map] at h1 h2
      obtain ⟨_, _, g, _⟩ := E.at_ i (es[i]'(by omega)) (ens.toList[i]'(by omega)) (List.getElem?_eq_getElem (by omega)) (List.getElem?_eq_getElem (by omega))
      simp only [List.getElem_map, g]
    rw [this]; exact E.births.nodup
  have hsn' : sn = (seen.toArray).push (ens.toList[j]'(by omega)).born := by
    apply Array.toList_inj.1
    rw [hsn, d3]; simp
  have hb' := hb
  rw [hsn'] at hb'
  refine ⟨.tuple #[(ens.toList[j]'(by omega)).key, (ens.toList[j]'(by omega)).val], ?_, fun w' ew => ?_⟩
  · rw [d1]
    exact .tup _ [.int q e.k, (ens.toList[j]'(by omega)).val] rfl fun i hi => match i, hi with
      | 0, _ => .cl _ _ (.raw _)
      | 1, _ => d2
  · have hrun := run_entry_at (P := P) w' b m c seen.toArray ens c (ens.toList[j]'(by omega)) (by rw [ew b (lt_of_heap hb')]; exact hb') (by rw [ew m (lt_of_heap hbm)]; exact hbm) (List.getElem_mem _) hnd
    simp [execOp, ho, hv, hrun]
theorem kont_entry {k : List Item} {dst : Option Nat} {ty : TypeId} {pos : String} {after : Array Edge} {gd : Option (Nat × Bool)} {r : List (Oper × G)} {s : St} {x : Operand} {li l c : Nat} {es : List Ent} {seen : List Nat} {q : IntKind} {kd : Kd} {e : Ent}
    (hx : evalO s.fr x = .mref li 0) (hit : s.h[li]? = some (iterOb l c c (seen ++ [e.b]))) (hkd : kd.ty = 1) (hob : s.h[l]? = some (mapObK kd q c es)) (he : e ∈ es) (ht : okO nt dst = true)
    (h1 : kont P base nt w0 Q (.ops r :: k) .normal ⟨putO s.fr dst (.tup [.raw (.int q e.k), e.v]), s.h⟩) :
    kont P base nt w0 Q (.ops ((⟨dst, .entry x, ty, pos, after, gd⟩, none) :: r) :: k) .normal s := by
  simp only [kont] at h1 ⊢
  exact AG_pure (entry_ok rfl hx hit hkd hob he) ht h1
end
end Go.Fg
namespace Go.Fg
set_option linter.unusedSimpArgs false
set_option linter.unusedVariables false
open Go.RowKit (Below)
open Go.Proofs Go.Shelf Go.Sort
def sorted (zs : List Int) : List Int := zs.mergeSort fun x y => decide (x ≤ y)
theorem sorted_len (zs : List Int) : (sorted zs).length = zs.length := by simp [sorted]
def sortRow (off : Nat) (row : Nat → List D) (ts : List Int) : Nat → List D := fun i => if off ≤ i ∧ i < off + ts.length then [.raw (.int .i64 (ts.getD (i - off) 0))] else row i
variable {P : Program} {ρ : Ren}
theorem grow_size (w : World) (os : Array Obj) : (grow w os).heap.size = w.heap.size + os.size := by simp [grow]
theorem heap_sortedAt {w : World} {b n o : Nat} {os : Array Obj} {cur : Array Value} {e : TypeId} {fr : Nat × Nat} (d : Array Int) (hb : w.heap[b]? = some (.cells cur e fr)) :
    (grow (putRow (Value.int .i64) (Sort.ahead w n) b o d) os).heap[b]? = some (.cells (putCells (Value.int .i64) o d cur) e fr) := by
  have hg : b < w.heap.size := (Array.getElem?_eq_some_iff.1 hb).1
  rw [heap_grow_old _ _ (by simpa using hg)]
  simp [putRow, mapBlock, Sort.ahead, Array.getElem?_modify, hb, onCells]
theorem grownBy_sortedAt {w : World} {b n o : Nat} {os : Array Obj} (d : Array Int) : w.grownBy (grow (putRow (Value.int .i64) (Sort.ahead w n) b o d) os) (some b) := by
  refine ⟨rfl, rfl, rfl, by simp, fun k hk hne => ?_⟩
  rw [heap_grow_old _ _ (by simpa using hk)]
  have : b ≠ k := fun e => hne (by rw [e])
  simp [putRow, mapBlock, Sort.ahead, Array.getElem?_modify, this]
theorem sort_ok (Ly : Lays.n189 P ρ) {h : List Ob} {l g off N : Nat} {row : Nat → List D} {zs : List Int} (ho : h[l]? = some ⟨.arr, g, 1, N, row⟩) (hn : off + zs.length ≤ N) (hr : ∀ i, i < zs.length → row (off + i) = [.raw (.int .i64 (zs.getD i 0))]) (hlen : zs.length < 4611686018427387904) :
    MFn P (ρ.f 189) h [.ref l g off zs.length] (fun d h' => d = .tup [] ∧ h' = h.set l ⟨.arr, g, 1, N, sortRow off row (sorted zs)⟩) := by
  intro Z base w pl vs hbase hZ R hvl hv
  match vs, hvl with
  | [v], _ =>
  have r0 := hv 0 (by simp)
  obtain ⟨o, p, a, cap, e1, h1, h2, h3, h4, h5⟩ := inv_ref r0
  rw [ho] at h1; cases h1
  have e1 : v = .slice a zs.length cap := e1
  have hsl := h5 rfl
  subst e1
  have hlt : l < h.length := lt_of_some ho
  by_cases h0 : zs.length = 0
  · have hz : zs = [] := List.length_eq_zero_iff.1 h0
    subst hz
    refine (Any.slices_Sort_int_none Ly a cap w).mono ?_
    rintro e w' ⟨rfl, rfl⟩
    have hs : h.set l ⟨.arr, g, 1, N, sortRow off row (sorted [])⟩ = h := by
      have : sortRow off row (sorted []) = row := by
        funext i
        have : ¬ (off ≤ i ∧ i < off + (sorted []).length) := by rw [sorted_len]; simp
        unfold sortRow; rw [if_neg this]
      rw [this]
      apply List.ext_getElem?
      intro i
      by_cases hi : l = i
      · subst hi; rw [List.getElem?_set_self hlt, ho]
      · rw [List.getElem?_set_ne hi]
    rw [hs]
    exact ⟨_, .tup [], h, pl, rfl, ⟨rfl, rfl⟩, R, .tup [] [] rfl (fun i hi => by simp at hi), Tr.refl _ _ _, .refl _ _⟩
  · rcases hsl with ⟨h6, _⟩ | ⟨b, q, c, el, rfl, rfl, hb, hcap, hcl⟩
    · exact absurd h6 h0
    · obtain ⟨hbb, xat⟩ := R.at_ l _ b q ho h2
      obtain ⟨c', el', hb', hcs, hrl, hrow⟩ := xat.cells rfl
      rw [hb] at hb'; cases hb'
      simp only [Nat.mul_one] at hcap hcs hrow ⊢
      have hcell : ∀ i, i < zs.length → c[q + off + i]? = some (.int .i64 (zs.getD i 0)) := fun i hi => by
        obtain ⟨u, hu, hur⟩ := hrow (off + i) 0 (by show off + i < N; omega) (by show 0 < 1; omega)
        have e2 : (row (off + i)) = _ := hr i hi
        have hur : RelV Z h pl w (nth (row (off + i)) 0) u := hur
        rw [e2] at hur
        have := inv_raw hur
        rw [show q + off + i = q + (off + i + 0) by omega, hu, this]
      have hH : Holds (Value.int .i64) w b (q + off) zs.toArray := by
        intro j hj
        have hj' : j < zs.length := by simpa using hj
        refine ⟨?_, by simp [World.frozen?, hb]⟩
        rw [World.cell?_of_block (w := w) (w' := w) rfl]
        simp only [World.cell?, hb]
        simp only [Option.isSome_none, Bool.false_eq_true, if_false]
        rw [hcell j hj']
        simp [List.getD_eq_getElem?_getD, hj']
      refine (Any.slices_Sort_int Ly b (q + off) cap zs w hH (lt_of_heap hb) hlen).mono ?_
      rintro e w' ⟨rfl, n, os, hw⟩
      have hG : w.grownBy w' (some b) := by rw [hw]; exact grownBy_sortedAt _
      have hnew : w'.heap[b]? = some (.cells (putCells (Value.int .i64) (q + off) (sorted zs).toArray c) el (0, 0)) := by rw [hw]; exact heap_sortedAt _ hb
      have hsz : (putCells (Value.int .i64) (q + off) (sorted zs).toArray c).size = c.size := by simp [putCells]
      have hold : ∀ k, k ≠ b → k < w.heap.size → w'.heap[k]? = w.heap[k]? := fun k hk hlt => hG.block k hlt (fun e => hk (by cases e; rfl))
      have hbase' : base ≤ b := hbb rfl
      have hB : Below base w w' := (Below.refl base w).grown hG hbase (fun k hk => by cases hk; exact hbase')
      have T := Tr.upd (w' := w') (o' := ⟨.arr, g, 1, N, sortRow off row (sorted zs)⟩) R ho h2 rfl rfl rfl hold (fun c1 el1 e1 => by rw [hb] at e1; cases e1; exact ⟨_, hnew, hsz⟩)
      have hput : ∀ i, i < c.size → (putCells (Value.int .i64) (q + off) (sorted zs).toArray c)[i]? = if q + off ≤ i ∧ i < q + off + zs.length then some (.int .i64 ((sorted zs).getD (i - (q + off)) 0)) else c[i]? := fun i hi => by
        have hl : (sorted zs).toArray.size = zs.length := by simp [sorted_len]
        simp only [putCells, Array.getElem?_mapIdx, hl, Array.getElem?_eq_getElem hi, Option.map_some]
        split
        · rename_i hin
          have : i - (q + off) < (sorted zs).length := by rw [sorted_len]; omega
          simp [List.getD_eq_getElem?_getD, this]
        · rfl
      refine ⟨_, .tup [], _, pl, rfl, ⟨rfl, rfl⟩, RelO.upd (w' := w') (o' := ⟨.arr, g, 1, N, sortRow off row (sorted zs)⟩) R ho h2 rfl rfl rfl rfl hold hb hnew hsz (by rw [hsz]; simpa using hcs) (fun i hi => ?_) (fun i j hi hj => ?_) rfl, .tup [] [] rfl (fun i hi => by simp at hi), T, hB⟩
      · show (sortRow off row (sorted zs) i).length = 1
        unfold sortRow
        split
        · rfl
        · exact hrl i hi
      · have hi : i < N := hi
        have hj : j < 1 := hj
        have hj0 : j = 0 := by omega
        subst hj0
        have hic : q + (i + 0) < c.size := by omega
        show ∃ v, (putCells (Value.int .i64) (q + off) (sorted zs).toArray c)[q + (i * 1 + 0)]? = some v ∧ RelV Z _ pl w' (nth (sortRow off row (sorted zs) i) 0) v
        rw [Nat.mul_one, hput _ hic]
        have hsr : sortRow off row (sorted zs) i = if off ≤ i ∧ i < off + zs.length then [.raw (.int .i64 ((sorted zs).getD (i - off) 0))] else row i := by unfold sortRow; rw [sorted_len]
        rw [hsr]
        by_cases hin : off ≤ i ∧ i < off + zs.length
        · rw [if_pos (by omega), if_pos hin]
          exact ⟨_, rfl, by rw [show q + (i + 0) - (q + off) = i - off by omega]; exact .cl _ _ (.raw _)⟩
        · rw [if_neg (by omega), if_neg hin]
          obtain ⟨u, hu, hur⟩ := hrow i 0 hi hj
          exact ⟨u, hu, hur.tr T⟩
end Go.Fg
