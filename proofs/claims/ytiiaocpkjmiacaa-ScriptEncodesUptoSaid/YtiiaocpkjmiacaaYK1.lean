/- Walks of the functions that the statement reaches. No conditions: contracts and laws. -/
import Derived.Test.YtiiaocpkjmiacaaFgTell
import Derived.Deep.Slices
import Derived.ChangeArms
import Derived.OpenShut
import Derived.ProofKit
import Derived.ChangeOld
import Derived.Below
import Derived.WideShapes
import Derived.Test.YtiiaocpkjmiacaaXLay
import Derived.Laws.BytesString
import Derived.LoopN
namespace Go.Fg
set_option linter.unusedSimpArgs false
set_option linter.unusedVariables false
open Go.RowKit (Below)

/-- Whatever cells of type t are trodden, they read ens enc a, for an a that may be. -/
def Rd (P : Program) (t : TypeId) {α : Type} (ok : α → Prop) (enc : α → List D) : Prop :=
  ∀ {H : Type} {en : TypeId × Value → H} {w : World} {base : Nat} {held : Bool} (m : Nat) (cs : List Value) (x : DataW H × List MemPlace), DataW.trod en P w base (fun _ => true) held m t cs = some x →
    ∃ a, ok a ∧ (enc a).length = cs.length ∧ ∀ j, j < cs.length → Cl (fun _ => True) w (nth (enc a) j) (nthV cs j)
theorem Rd.int {P : Program} {t : TypeId} (k : IntKind) (ht : P.underlying t = some (.int k)) : Rd P t (fun n : Int => (Lit.int k n).wf = true) (fun n => [.raw (.int k n)]) := by
  intro H en w base held m cs x h
  obtain ⟨n, rfl, _, hw⟩ := DataW.trod_int ht h
  refine ⟨n, hw, rfl, fun j hj => ?_⟩
  obtain rfl : j = 0 := by simpa using hj
  exact .raw _
theorem Rd.bool {P : Program} {t : TypeId} (ht : P.underlying t = some .bool) : Rd P t (fun _ : Bool => True) (fun n => [.raw (.bool n)]) := by
  intro H en w base held m cs x h
  obtain ⟨n, rfl, _⟩ := DataW.trod_bool ht h
  refine ⟨n, trivial, rfl, fun j hj => ?_⟩
  obtain rfl : j = 0 := by simpa using hj
  exact .raw _
theorem Rd.str {P : Program} {t : TypeId} (ht : P.underlying t = some .string) : Rd P t (fun s : ByteArray => s.size ≤ maxLen) (fun n => [.raw (.string n)]) := by
  intro H en w base held m cs x h
  obtain ⟨n, rfl, _, hw⟩ := DataW.trod_string ht h
  refine ⟨n, hw, rfl, fun j hj => ?_⟩
  obtain rfl : j = 0 := by simpa using hj
  exact .raw _
theorem Rd.map {P : Program} {t : TypeId} {α β : Type} {ok : α → Prop} {enc : α → List D} (r : Rd P t ok enc) (g : α → β) {ok' : β → Prop} {enc' : β → List D} (he : ∀ a, enc' (g a) = enc a) (ho : ∀ a, ok a → ok' (g a)) : Rd P t ok' enc' := by
  intro H en w base held m cs x h
  obtain ⟨a, h1, h2, h3⟩ := r m cs x h
  exact ⟨g a, ho a h1, by rw [he]; exact h2, by rw [he]; exact h3⟩
/-- The fields of a struct, from the cell 'off' on. -/
def RdF (P : Program) (fs : List Field) (off tot : Nat) {α : Type} (ok : α → Prop) (enc : α → List D) : Prop :=
  ∀ {H : Type} {en : TypeId × Value → H} {w : World} {base : Nat} {held : Bool} (m : Nat) (cs : List Value), cs.length = tot →
    (∀ f ∈ fs, ∃ x, DataW.trod en P w base (fun _ => true) held m f.type ((cs.drop f.offset).take (P.cellsOf f.type)) = some x) →
    ∃ a, ok a ∧ off + (enc a).length = tot ∧ ∀ j, off + j < tot → Cl (fun _ => True) w (nth (enc a) j) (nthV cs (off + j))
theorem RdF.nil {P : Program} {tot : Nat} : RdF P [] tot tot (fun _ : Unit => True) (fun _ => []) := by
  intro H en w base held m cs hl h
  exact ⟨(), trivial, rfl, fun j hj => by omega⟩
theorem RdF.cons {P : Program} {f : Field} {fs : List Field} {off off' tot : Nat} {α β : Type} {ok : α → Prop} {enc : α → List D} {ok' : β → Prop} {enc' : β → List D} (r : Rd P f.type ok enc) (rs : RdF P fs off' tot ok' enc')
    (ho : f.offset = off) (hc : off + P.cellsOf f.type = off') (ht : off' ≤ tot) : RdF P (f :: fs) off tot (fun ab : α × β => ok ab.1 ∧ ok' ab.2) (fun ab => enc ab.1 ++ enc' ab.2) := by
  intro H en w base held m cs hl h
  obtain ⟨x, hx⟩ := h f (by simp)
  obtain ⟨a, a1, a2, a3⟩ := r m _ x hx
  obtain ⟨b, b1, b2, b3⟩ := rs m cs hl fun g hg => h g (by simp [hg])
  have hlen : ((cs.drop f.offset).take (P.cellsOf f.type)).length = P.cellsOf f.type := by simp; omega
  rw [hlen] at a2 a3
  refine ⟨(a, b), ⟨a1, b1⟩, by simp; omega, fun j hj => ?_⟩
  by_cases h1 : j < P.cellsOf f.type
  · have := a3 j h1
    have e1 : nth (enc a ++ enc' b) j = nth (enc a) j := nth_append_lt (by omega)
    have e2 : nthV ((cs.drop f.offset).take (P.cellsOf f.type)) j = nthV cs (off + j) := by
      simp only [nthV, List.getD_eq_getElem?_getD, List.getElem?_take, if_pos h1, List.getElem?_drop, ho]
    show Cl _ w (nth (enc a ++ enc' b) j) _
    rw [e1, ← e2]; exact this
  · have e1 : nth (enc a ++ enc' b) j = nth (enc' b) (j - P.cellsOf f.type) := by rw [nth_append_ge (by omega), a2]
    have := b3 (j - P.cellsOf f.type) (by omega)
    show Cl _ w (nth (enc a ++ enc' b) j) _
    rw [e1, show off + j = off' + (j - P.cellsOf f.type) by omega]; exact this
theorem Rd.struct {P : Program} {t : TypeId} {fs : Array Field} {tot : Nat} {α : Type} {ok : α → Prop} {enc : α → List D} (ht : P.underlying t = some (.struct fs)) (hc : P.cellsOf t = tot) (r : RdF P fs.toList 0 tot ok enc) : Rd P t ok enc := by
  intro H en w base held m cs x h
  obtain ⟨xs, m', rfl, _, hl, hxl, hf⟩ := DataW.trod_struct ht h
  obtain ⟨a, a1, a2, a3⟩ := r m' cs (by omega) fun f hf' => by
    obtain ⟨i, hi⟩ := List.getElem?_of_mem hf'
    have hi' : fs[i]? = some f := by simpa using hi
    have hlt : i < xs.length := by rw [hxl]; exact (Array.getElem?_eq_some_iff.1 hi').1
    exact ⟨xs[i], by rw [hf i f hi']; exact List.getElem?_eq_getElem hlt⟩
  exact ⟨a, a1, by omega, fun j hj => by have := a3 j (by omega); rwa [Nat.zero_add] at this⟩
/-- The elements of an array, from the i-th on. -/
def RdA (P : Program) (e : TypeId) (i n : Nat) {α : Type} (ok : α → Prop) (enc : α → List D) : Prop :=
  ∀ {H : Type} {en : TypeId × Value → H} {w : World} {base : Nat} {held : Bool} (m : Nat) (cs : List Value), cs.length = n * P.cellsOf e →
    (∀ k, k < n → ∃ x, DataW.trod en P w base (fun _ => true) held m e ((cs.drop (k * P.cellsOf e)).take (P.cellsOf e)) = some x) →
    ∃ a, ok a ∧ i * P.cellsOf e + (enc a).length = n * P.cellsOf e ∧ ∀ j, i * P.cellsOf e + j < n * P.cellsOf e → Cl (fun _ => True) w (nth (enc a) j) (nthV cs (i * P.cellsOf e + j))
theorem RdA.nil {P : Program} {e : TypeId} {n : Nat} : RdA P e n n (fun _ : Unit => True) (fun _ => []) := by
  intro H en w base held m cs hl h
  exact ⟨(), trivial, rfl, fun j hj => by omega⟩
theorem RdA.cons {P : Program} {e : TypeId} {i n : Nat} {α β : Type} {ok : α → Prop} {enc : α → List D} {ok' : β → Prop} {enc' : β → List D} (hi : i < n) (r : Rd P e ok enc) (rs : RdA P e (i + 1) n ok' enc') :
    RdA P e i n (fun ab : α × β => ok ab.1 ∧ ok' ab.2) (fun ab => enc ab.1 ++ enc' ab.2) := by
  intro H en w base held m cs hl h
  obtain ⟨x, hx⟩ := h i hi
  obtain ⟨a, a1, a2, a3⟩ := r m _ x hx
  obtain ⟨b, b1, b2, b3⟩ := rs m cs hl h
  have hm := Nat.mul_le_mul_right (P.cellsOf e) (show i + 1 ≤ n from hi)
  rw [Nat.add_mul, Nat.one_mul] at hm
  rw [Nat.add_mul, Nat.one_mul] at b2 b3
  have hlen : ((cs.drop (i * P.cellsOf e)).take (P.cellsOf e)).length = P.cellsOf e := by simp; omega
  rw [hlen] at a2 a3
  refine ⟨(a, b), ⟨a1, b1⟩, by simp; omega, fun j hj => ?_⟩
  by_cases h1 : j < P.cellsOf e
  · have := a3 j h1
    have e1 : nth (enc a ++ enc' b) j = nth (enc a) j := nth_append_lt (by omega)
    have e2 : nthV ((cs.drop (i * P.cellsOf e)).take (P.cellsOf e)) j = nthV cs (i * P.cellsOf e + j) := by
      simp only [nthV, List.getD_eq_getElem?_getD, List.getElem?_take, if_pos h1, List.getElem?_drop]
    show Cl _ w (nth (enc a ++ enc' b) j) _
    rw [e1, ← e2]; exact this
  · have e1 : nth (enc a ++ enc' b) j = nth (enc' b) (j - P.cellsOf e) := by rw [nth_append_ge (by omega), a2]
    have := b3 (j - P.cellsOf e) (by omega)
    show Cl _ w (nth (enc a ++ enc' b) j) _
    rw [e1, show i * P.cellsOf e + j = i * P.cellsOf e + P.cellsOf e + (j - P.cellsOf e) by omega]; exact this
theorem Rd.array {P : Program} {t e : TypeId} {n : Nat} {α : Type} {ok : α → Prop} {enc : α → List D} (ht : P.underlying t = some (.array n e)) (hc : P.cellsOf t = n * P.cellsOf e) (r : RdA P e 0 n ok enc) : Rd P t ok enc := by
  intro H en w base held m cs x h
  obtain ⟨xs, m', rfl, _, hl, hxl, hf⟩ := DataW.trod_array ht h
  obtain ⟨a, a1, a2, a3⟩ := r m' cs (by omega) fun k hk => by
    have hlt : k < xs.length := by omega
    exact ⟨xs[k], by rw [hf k hk]; exact List.getElem?_eq_getElem hlt⟩
  simp only [Nat.zero_mul, Nat.zero_add] at a2 a3
  exact ⟨a, a1, by omega, fun j hj => a3 j (by omega)⟩
theorem Rd.slice {P : Program} {t e : TypeId} {α : Type} [Inhabited α] {ok : α → Prop} {enc : α → List D} (sz : Nat) (ht : P.underlying t = some (.slice e)) (hc : P.cellsOf e = sz) (hpos : 0 < sz) (r : Rd P e ok enc) :
    Rd P t (fun l : List α => l.length ≤ maxLen ∧ ∀ a ∈ l, ok a) (fun l => [.imm sz l.length fun i => enc (l.getD i default)]) := by
  intro H en w base held m cs x h
  rcases Deep.open_slice ht h with ⟨rfl, _⟩ | ⟨a, len, cap, m, n', D', Pl, rfl, hb, hl, hm, hmm, _, hel⟩
  · refine ⟨[], ⟨by simp, by simp⟩, rfl, fun j hj => ?_⟩
    obtain rfl : j = 0 := by simpa using hj
    exact .imm _ _ _ _ _ 0 0 (fun _ _ => Go.undef) (fun h => by simp at h) (by simp) (fun i hi => by simp at hi) (fun i j hi => by simp at hi) (fun i j hi => by simp at hi)
  · simp only [if_true] at hmm
    have key : ∀ i, ∃ ac : α × List Value, i < len → ok ac.1 ∧ (enc ac.1).length = sz ∧ ac.2.length = sz ∧ (∀ j, j < sz → w.cell? (a.add (i * sz + j)) = some (nthV ac.2 j)) ∧ ∀ j, j < sz → Cl (fun _ => True) w (nth (enc ac.1) j) (nthV ac.2 j) := fun i => by
      by_cases hi : i < len
      · obtain ⟨cs', h1, h2⟩ := hel i (by omega)
        obtain ⟨x, hx, hxl, hxc⟩ := r n' cs' _ h2
        obtain ⟨_, hlen, hcell⟩ := World.cells?_some h1
        have hl2 : cs'.length = sz := by omega
        refine ⟨(x, cs'), fun _ => ⟨hx, (by show (enc x).length = sz; omega), hl2, fun j hj => ?_, fun j hj => hxc j (by omega)⟩⟩
        have := hcell j (by omega)
        rw [Deep.add_add, hc] at this
        rw [this]
        simp [nthV, List.getD_eq_getElem?_getD, List.getElem?_eq_getElem (show j < cs'.length by omega)]
      · exact ⟨(default, []), fun h => absurd h hi⟩
    obtain ⟨f, hf⟩ := Classical.axiomOfChoice key
    have hlen : ((List.range len).map fun i => (f i).1).length = len := by simp
    have hget : ∀ i, i < len → ((List.range len).map fun i => (f i).1).getD i default = (f i).1 := fun i hi => by simp [List.getD_eq_getElem?_getD, hi]
    refine ⟨(List.range len).map fun i => (f i).1, ⟨by rw [hlen]; omega, fun x hx => ?_⟩, rfl, fun j hj => ?_⟩
    · obtain ⟨i, hi, rfl⟩ := List.mem_map.1 hx
      exact (hf i (List.mem_range.1 hi)).1
    · obtain rfl : j = 0 := by simpa using hj
      show Cl _ w (.imm sz ((List.range len).map fun i => (f i).1).length fun i => enc (((List.range len).map fun i => (f i).1).getD i default)) (.slice (some a) len cap)
      rw [hlen]
      have hspot : 0 < len → a = ⟨a.block, a.off, none⟩ := fun h0 => by
        have h1 := (hf 0 h0).2.2.2.1 0 hpos
        have h2 := World.cell?_spot h1
        obtain ⟨b, o, sp⟩ := a
        simp [Addr.add] at h2
        subst h2; rfl
      refine .imm _ _ _ _ _ a.block a.off (fun i j => nthV (f i).2 j) (fun h0 => by rw [← hspot h0]) hl (fun i hi => ?_) (fun i j hi hj => ⟨trivial, ?_⟩) (fun i j hi hj => ?_)
      · rw [hget i hi]; exact (hf i hi).2.1
      · have h1 := (hf i hi).2.2.2.1 j hj
        rw [hspot (by omega)] at h1
        rw [← h1]
        congr 1
        simp only [Addr.add]
        split <;> simp_all
      · rw [hget i hi]; exact (hf i hi).2.2.2.2 j hj
/-- A parameter of one cell. -/
theorem Rd.one {P : Program} {t : TypeId} {α : Type} {ok : α → Prop} {enc : α → D} (r : Rd P t ok fun a => [enc a]) {H : Type} {en : TypeId × Value → H} {w : World} {base : Nat} {held : Bool} {v : Value} {d : DataW H} {ps : List MemPlace}
    (h : DataW.Trod en P w base (fun _ => true) held t v d ps) (hv : v.cells.toList = [v]) : ∃ a, ok a ∧ Cl (fun _ => True) w (enc a) v := by
  obtain ⟨m, hm⟩ := h
  rw [hv] at hm
  obtain ⟨a, h1, h2, h3⟩ := r m _ _ hm
  exact ⟨a, h1, h3 0 (by simp)⟩
/-- A parameter of several. -/
theorem Rd.many {P : Program} {t : TypeId} {α : Type} {ok : α → Prop} {enc : α → List D} (r : Rd P t ok enc) {H : Type} {en : TypeId × Value → H} {w : World} {base : Nat} {held : Bool} {cs : Array Value} {d : DataW H} {ps : List MemPlace}
    (h : DataW.Trod en P w base (fun _ => true) held t (.agg cs) d ps) : ∃ a, ok a ∧ Cl (fun _ => True) w (.agg (enc a)) (.agg cs) := by
  obtain ⟨m, hm⟩ := h
  have e : (Value.agg cs).cells.toList = cs.toList := rfl
  rw [e] at hm
  obtain ⟨a, h1, h2, h3⟩ := r m _ _ hm
  have := Cl.agg (N := fun _ => True) (w := w) (enc a) cs.toList h2.symm (fun i hi => h3 i (by omega))
  exact ⟨a, h1, by simpa using this⟩
theorem one_cell_slice (a : Option Addr) (l c : Nat) : (Value.slice a l c).cells.toList = [Value.slice a l c] := by simp [Value.cells]
theorem one_cell_int (k : IntKind) (n : Int) : (Value.int k n).cells.toList = [Value.int k n] := by simp [Value.cells]
theorem one_cell_bool (b : Bool) : (Value.bool b).cells.toList = [Value.bool b] := by simp [Value.cells]
theorem one_cell_string (s : ByteArray) : (Value.string s).cells.toList = [Value.string s] := by simp [Value.cells]
/-- A contract, ens a call's law: the result is a bool, nothing changes. -/
theorem call_true {P : Program} {f : FuncId} {ds : List D} (h : AFn P f ds fun d h => d = .raw (.bool true) ∧ h = []) (W : World) (vs : List Value) (hl : vs.length = ds.length) (hc : ∀ i, i < ds.length → Cl (fun _ => True) W (nth ds i) (nthV vs i)) :
    Calls P f vs.toArray W fun e W' => e = .returned (.bool true) ∧ Below W.heap.size W W' := by
  refine (h (fun _ => True) W.heap.size W [] vs (Nat.le_refl _) (fun _ _ => trivial) ⟨rfl, fun l l' b q q' e => by simp at e, fun l o e => by simp at e, fun l o b q e => by simp at e⟩ hl (fun i hi => .cl _ _ ((hc i hi).mono fun b _ _ => ⟨⟨trivial, fun l q e => by simp at e⟩, rfl⟩))).mono fun e W' he => ?_
  obtain ⟨v, d, h', pl', rfl, ⟨rfl, rfl⟩, _, hv, _, hb⟩ := he
  rw [inv_raw hv]; exact ⟨rfl, hb⟩
end Go.Fg
namespace Go.Fg.X
set_option linter.unusedSimpArgs false
set_option linter.unusedVariables false
open Go.Proofs Go.Fg
set_option maxRecDepth 100000
def rowsI (k : IntKind) (l : List Int) : Nat → List D := fun i => [.raw (.int k (l.getD i 0))]
@[go_sem] theorem rowsI_at (k : IntKind) (l : List Int) (i : Nat) : rowsI k l i = [.raw (.int k (l.getD i 0))] := rfl

structure Cf where
  t : Int
  lmax : Int
instance : Inhabited Cf := ⟨⟨0, 0⟩⟩
@[go_sem] def Cf.cells (x : Cf) : List D := [.raw (.int .i64 x.t), .raw (.int .i64 x.lmax)]
def Cf.rows (l : List Cf) : Nat → List D := fun i => (l.getD i default).cells
@[go_sem] theorem Cf.rows_at (l : List Cf) (i : Nat) : Cf.rows l i = (l.getD i default).cells := rfl
def Cf.Ok (x : Cf) : Prop := (Lit.int .i64 x.t).wf = true ∧ (Lit.int .i64 x.lmax).wf = true ∧ True
theorem rdCf : Rd Try.prog 23 Cf.Ok Cf.cells :=
  Rd.map (Rd.struct (tot := 2) Try.underlying23 (by kernel_rfl) (RdF.cons (Rd.int .i64 Try.underlying3) (RdF.cons (Rd.int .i64 Try.underlying3) RdF.nil rfl (by kernel_rfl) (by decide)) rfl (by kernel_rfl) (by decide))) (fun p => ⟨p.1, p.2.1⟩) (fun _ => rfl) (fun _ h => ⟨h.1, h.2.1, trivial⟩)
structure Cv where
  m1 : Int
  d : Int
  m2 : Int
instance : Inhabited Cv := ⟨⟨0, 0, 0⟩⟩
@[go_sem] def Cv.cells (x : Cv) : List D := [.raw (.int .u64 x.m1), .raw (.int .u64 x.d), .raw (.int .u64 x.m2)]
def Cv.rows (l : List Cv) : Nat → List D := fun i => (l.getD i default).cells
@[go_sem] theorem Cv.rows_at (l : List Cv) (i : Nat) : Cv.rows l i = (l.getD i default).cells := rfl
def Cv.Ok (x : Cv) : Prop := (Lit.int .u64 x.m1).wf = true ∧ (Lit.int .u64 x.d).wf = true ∧ (Lit.int .u64 x.m2).wf = true ∧ True
theorem rdCv : Rd Try.prog 75 Cv.Ok Cv.cells :=
  Rd.map (Rd.struct (tot := 3) Try.underlying75 (by kernel_rfl) (RdF.cons (Rd.int .u64 Try.underlying38) (RdF.cons (Rd.int .u64 Try.underlying38) (RdF.cons (Rd.int .u64 Try.underlying38) RdF.nil rfl (by kernel_rfl) (by decide)) rfl (by kernel_rfl) (by decide)) rfl (by kernel_rfl) (by decide))) (fun p => ⟨p.1, p.2.1, p.2.2.1⟩) (fun _ => rfl) (fun _ h => ⟨h.1, h.2.1, h.2.2.1, trivial⟩)
structure Pk where
  iD : Int
  len : Int
  head0 : Int
  head1 : Int
  head2 : Int
  head3 : Int
instance : Inhabited Pk := ⟨⟨0, 0, 0, 0, 0, 0⟩⟩
@[go_sem] def Pk.cells (x : Pk) : List D := [.raw (.int .u64 x.iD), .raw (.int .i64 x.len), .raw (.int .u16 x.head0), .raw (.int .u16 x.head1), .raw (.int .u16 x.head2), .raw (.int .u16 x.head3)]
def Pk.rows (l : List Pk) : Nat → List D := fun i => (l.getD i default).cells
@[go_sem] theorem Pk.rows_at (l : List Pk) (i : Nat) : Pk.rows l i = (l.getD i default).cells := rfl
def Pk.Ok (x : Pk) : Prop := (Lit.int .u64 x.iD).wf = true ∧ (Lit.int .i64 x.len).wf = true ∧ (Lit.int .u16 x.head0).wf = true ∧ (Lit.int .u16 x.head1).wf = true ∧ (Lit.int .u16 x.head2).wf = true ∧ (Lit.int .u16 x.head3).wf = true ∧ True
theorem rdPk : Rd Try.prog 43 Pk.Ok Pk.cells :=
  Rd.map (Rd.struct (tot := 6) Try.underlying43 (by kernel_rfl) (RdF.cons (Rd.int .u64 Try.underlying38) (RdF.cons (Rd.int .i64 Try.underlying3) (RdF.cons (Rd.array Try.underlying41 (by kernel_rfl) (RdA.cons (by decide) (Rd.int .u16 Try.underlying39) (RdA.cons (by decide) (Rd.int .u16 Try.underlying39) (RdA.cons (by decide) (Rd.int .u16 Try.underlying39) (RdA.cons (by decide) (Rd.int .u16 Try.underlying39) RdA.nil))))) RdF.nil rfl (by kernel_rfl) (by decide)) rfl (by kernel_rfl) (by decide)) rfl (by kernel_rfl) (by decide))) (fun p => ⟨p.1, p.2.1, p.2.2.1.1, p.2.2.1.2.1, p.2.2.1.2.2.1, p.2.2.1.2.2.2.1⟩) (fun _ => rfl) (fun _ h => ⟨h.1, h.2.1, h.2.2.1.1, h.2.2.1.2.1, h.2.2.1.2.2.1, h.2.2.1.2.2.2.1, trivial⟩)
structure Kls where
  iD : Int
  parent : Int
  leaf : Bool
  rt : Cv
  ls : Cv
  ul : Cv
  pkts : Int
  bytes : Int
instance : Inhabited Kls := ⟨⟨0, 0, false, default, default, default, 0, 0⟩⟩
@[go_sem] def Kls.cells (x : Kls) : List D := [.raw (.int .i64 x.iD), .raw (.int .i64 x.parent), .raw (.bool x.leaf), .raw (.int .u64 x.rt.m1), .raw (.int .u64 x.rt.d), .raw (.int .u64 x.rt.m2), .raw (.int .u64 x.ls.m1), .raw (.int .u64 x.ls.d), .raw (.int .u64 x.ls.m2), .raw (.int .u64 x.ul.m1), .raw (.int .u64 x.ul.d), .raw (.int .u64 x.ul.m2), .raw (.int .i64 x.pkts), .raw (.int .i64 x.bytes)]
def Kls.rows (l : List Kls) : Nat → List D := fun i => (l.getD i default).cells
@[go_sem] theorem Kls.rows_at (l : List Kls) (i : Nat) : Kls.rows l i = (l.getD i default).cells := rfl
def Kls.Ok (x : Kls) : Prop := (Lit.int .i64 x.iD).wf = true ∧ (Lit.int .i64 x.parent).wf = true ∧ True ∧ Cv.Ok x.rt ∧ Cv.Ok x.ls ∧ Cv.Ok x.ul ∧ (Lit.int .i64 x.pkts).wf = true ∧ (Lit.int .i64 x.bytes).wf = true ∧ True
theorem rdKls : Rd Try.prog 77 Kls.Ok Kls.cells :=
  Rd.map (Rd.struct (tot := 14) Try.underlying77 (by kernel_rfl) (RdF.cons (Rd.int .i64 Try.underlying3) (RdF.cons (Rd.int .i64 Try.underlying3) (RdF.cons (Rd.bool Try.underlying4) (RdF.cons rdCv (RdF.cons rdCv (RdF.cons rdCv (RdF.cons (Rd.int .i64 Try.underlying3) (RdF.cons (Rd.int .i64 Try.underlying3) RdF.nil rfl (by kernel_rfl) (by decide)) rfl (by kernel_rfl) (by decide)) rfl (by kernel_rfl) (by decide)) rfl (by kernel_rfl) (by decide)) rfl (by kernel_rfl) (by decide)) rfl (by kernel_rfl) (by decide)) rfl (by kernel_rfl) (by decide)) rfl (by kernel_rfl) (by decide))) (fun p => ⟨p.1, p.2.1, p.2.2.1, p.2.2.2.1, p.2.2.2.2.1, p.2.2.2.2.2.1, p.2.2.2.2.2.2.1, p.2.2.2.2.2.2.2.1⟩) (fun _ => rfl) (fun _ h => ⟨h.1, h.2.1, h.2.2.1, h.2.2.2.1, h.2.2.2.2.1, h.2.2.2.2.2.1, h.2.2.2.2.2.2.1, h.2.2.2.2.2.2.2.1, trivial⟩)
structure Chg where
  kind : Int
  cls : Kls
instance : Inhabited Chg := ⟨⟨0, default⟩⟩
@[go_sem] def Chg.cells (x : Chg) : List D := [.raw (.int .i64 x.kind), .raw (.int .i64 x.cls.iD), .raw (.int .i64 x.cls.parent), .raw (.bool x.cls.leaf), .raw (.int .u64 x.cls.rt.m1), .raw (.int .u64 x.cls.rt.d), .raw (.int .u64 x.cls.rt.m2), .raw (.int .u64 x.cls.ls.m1), .raw (.int .u64 x.cls.ls.d), .raw (.int .u64 x.cls.ls.m2), .raw (.int .u64 x.cls.ul.m1), .raw (.int .u64 x.cls.ul.d), .raw (.int .u64 x.cls.ul.m2), .raw (.int .i64 x.cls.pkts), .raw (.int .i64 x.cls.bytes)]
def Chg.rows (l : List Chg) : Nat → List D := fun i => (l.getD i default).cells
@[go_sem] theorem Chg.rows_at (l : List Chg) (i : Nat) : Chg.rows l i = (l.getD i default).cells := rfl
def Chg.Ok (x : Chg) : Prop := (Lit.int .i64 x.kind).wf = true ∧ Kls.Ok x.cls ∧ True
theorem rdChg : Rd Try.prog 79 Chg.Ok Chg.cells :=
  Rd.map (Rd.struct (tot := 15) Try.underlying79 (by kernel_rfl) (RdF.cons (Rd.int .i64 Try.underlying3) (RdF.cons rdKls RdF.nil rfl (by kernel_rfl) (by decide)) rfl (by kernel_rfl) (by decide))) (fun p => ⟨p.1, p.2.1⟩) (fun _ => rfl) (fun _ h => ⟨h.1, h.2.1, trivial⟩)
structure Rul where
  mask0 : Int
  mask1 : Int
  mask2 : Int
  mask3 : Int
  want0 : Int
  want1 : Int
  want2 : Int
  want3 : Int
  cls : Int
instance : Inhabited Rul := ⟨⟨0, 0, 0, 0, 0, 0, 0, 0, 0⟩⟩
@[go_sem] def Rul.cells (x : Rul) : List D := [.raw (.int .u16 x.mask0), .raw (.int .u16 x.mask1), .raw (.int .u16 x.mask2), .raw (.int .u16 x.mask3), .raw (.int .u16 x.want0), .raw (.int .u16 x.want1), .raw (.int .u16 x.want2), .raw (.int .u16 x.want3), .raw (.int .i64 x.cls)]
def Rul.rows (l : List Rul) : Nat → List D := fun i => (l.getD i default).cells
@[go_sem] theorem Rul.rows_at (l : List Rul) (i : Nat) : Rul.rows l i = (l.getD i default).cells := rfl
def Rul.Ok (x : Rul) : Prop := (Lit.int .u16 x.mask0).wf = true ∧ (Lit.int .u16 x.mask1).wf = true ∧ (Lit.int .u16 x.mask2).wf = true ∧ (Lit.int .u16 x.mask3).wf = true ∧ (Lit.int .u16 x.want0).wf = true ∧ (Lit.int .u16 x.want1).wf = true ∧ (Lit.int .u16 x.want2).wf = true ∧ (Lit.int .u16 x.want3).wf = true ∧ (Lit.int .i64 x.cls).wf = true ∧ True
theorem rdRul : Rd Try.prog 119 Rul.Ok Rul.cells :=
  Rd.map (Rd.struct (tot := 9) Try.underlying119 (by kernel_rfl) (RdF.cons (Rd.array Try.underlying41 (by kernel_rfl) (RdA.cons (by decide) (Rd.int .u16 Try.underlying39) (RdA.cons (by decide) (Rd.int .u16 Try.underlying39) (RdA.cons (by decide) (Rd.int .u16 Try.underlying39) (RdA.cons (by decide) (Rd.int .u16 Try.underlying39) RdA.nil))))) (RdF.cons (Rd.array Try.underlying41 (by kernel_rfl) (RdA.cons (by decide) (Rd.int .u16 Try.underlying39) (RdA.cons (by decide) (Rd.int .u16 Try.underlying39) (RdA.cons (by decide) (Rd.int .u16 Try.underlying39) (RdA.cons (by decide) (Rd.int .u16 Try.underlying39) RdA.nil))))) (RdF.cons (Rd.int .i64 Try.underlying3) RdF.nil rfl (by kernel_rfl) (by decide)) rfl (by kernel_rfl) (by decide)) rfl (by kernel_rfl) (by decide))) (fun p => ⟨p.1.1, p.1.2.1, p.1.2.2.1, p.1.2.2.2.1, p.2.1.1, p.2.1.2.1, p.2.1.2.2.1, p.2.1.2.2.2.1, p.2.2.1⟩) (fun _ => rfl) (fun _ h => ⟨h.1.1, h.1.2.1, h.1.2.2.1, h.1.2.2.2.1, h.2.1.1, h.2.1.2.1, h.2.1.2.2.1, h.2.1.2.2.2.1, h.2.2.1, trivial⟩)
structure Opn where
  kind : Int
  changes : (List Chg)
  rules : (List Rul)
  packet : Pk
  ticks : Int
instance : Inhabited Opn := ⟨⟨0, [], [], default, 0⟩⟩
@[go_sem] def Opn.cells (x : Opn) : List D := [.raw (.int .i64 x.kind), .imm 15 x.changes.length (Chg.rows x.changes), .imm 9 x.rules.length (Rul.rows x.rules), .raw (.int .u64 x.packet.iD), .raw (.int .i64 x.packet.len), .raw (.int .u16 x.packet.head0), .raw (.int .u16 x.packet.head1), .raw (.int .u16 x.packet.head2), .raw (.int .u16 x.packet.head3), .raw (.int .u64 x.ticks)]
def Opn.rows (l : List Opn) : Nat → List D := fun i => (l.getD i default).cells
@[go_sem] theorem Opn.rows_at (l : List Opn) (i : Nat) : Opn.rows l i = (l.getD i default).cells := rfl
def Opn.Ok (x : Opn) : Prop := (Lit.int .i64 x.kind).wf = true ∧ (x.changes.length ≤ maxLen ∧ ∀ a ∈ x.changes, Chg.Ok a) ∧ (x.rules.length ≤ maxLen ∧ ∀ a ∈ x.rules, Rul.Ok a) ∧ Pk.Ok x.packet ∧ (Lit.int .u64 x.ticks).wf = true ∧ True
theorem rdOpn : Rd Try.prog 67 Opn.Ok Opn.cells :=
  Rd.map (Rd.struct (tot := 10) Try.underlying67 (by kernel_rfl) (RdF.cons (Rd.int .i64 Try.underlying3) (RdF.cons (Rd.slice 15 Try.underlying64 (by kernel_rfl) (by decide) rdChg) (RdF.cons (Rd.slice 9 Try.underlying65 (by kernel_rfl) (by decide) rdRul) (RdF.cons rdPk (RdF.cons (Rd.int .u64 Try.underlying38) RdF.nil rfl (by kernel_rfl) (by decide)) rfl (by kernel_rfl) (by decide)) rfl (by kernel_rfl) (by decide)) rfl (by kernel_rfl) (by decide)) rfl (by kernel_rfl) (by decide))) (fun p => ⟨p.1, p.2.1, p.2.2.1, p.2.2.2.1, p.2.2.2.2.1⟩) (fun _ => rfl) (fun _ h => ⟨h.1, h.2.1, h.2.2.1, h.2.2.2.1, h.2.2.2.2.1, trivial⟩)
structure Scr where
  config : Cf
  ops : (List Opn)
instance : Inhabited Scr := ⟨⟨default, []⟩⟩
@[go_sem] def Scr.cells (x : Scr) : List D := [.raw (.int .i64 x.config.t), .raw (.int .i64 x.config.lmax), .imm 10 x.ops.length (Opn.rows x.ops)]
def Scr.rows (l : List Scr) : Nat → List D := fun i => (l.getD i default).cells
@[go_sem] theorem Scr.rows_at (l : List Scr) (i : Nat) : Scr.rows l i = (l.getD i default).cells := rfl
def Scr.Ok (x : Scr) : Prop := Cf.Ok x.config ∧ (x.ops.length ≤ maxLen ∧ ∀ a ∈ x.ops, Opn.Ok a) ∧ True
theorem rdScr : Rd Try.prog 49 Scr.Ok Scr.cells :=
  Rd.map (Rd.struct (tot := 3) Try.underlying49 (by kernel_rfl) (RdF.cons rdCf (RdF.cons (Rd.slice 10 Try.underlying47 (by kernel_rfl) (by decide) rdOpn) RdF.nil rfl (by kernel_rfl) (by decide)) rfl (by kernel_rfl) (by decide))) (fun p => ⟨p.1, p.2.1⟩) (fun _ => rfl) (fun _ h => ⟨h.1, h.2.1, trivial⟩)
end Go.Fg.X
namespace Go.Fg.X
open Go.Proofs Go.Fg
set_option maxRecDepth 100000
@[go_sem] def dint (n : Int) : D := .raw (.int .i64 n)
@[go_sem] def dbool (b : Bool) : D := .raw (.bool b)
@[go_sem] def ints (l : List Int) : D := .imm 1 l.length (rowsI .i64 l)
structure Ev where
  op : Int
  inn : Bool
  real : Bool
  at_ : Int
  done : Int
  cls : Int
  id : Int
  len : Int
  h0 : Int
  h1 : Int
  h2 : Int
  h3 : Int
instance : Inhabited Ev := ⟨⟨0, false, false, 0, 0, 0, 0, 0, 0, 0, 0, 0⟩⟩
@[go_sem] def Ev.cells (e : Ev) : List D := [.raw (.int .i64 e.op), .raw (.bool e.inn), .raw (.bool e.real), .raw (.int .u64 e.at_), .raw (.int .u64 e.done), .raw (.int .i64 e.cls), .raw (.int .u64 e.id), .raw (.int .i64 e.len), .raw (.int .u16 e.h0), .raw (.int .u16 e.h1), .raw (.int .u16 e.h2), .raw (.int .u16 e.h3)]
def Ev.Ok (x : Ev) : Prop := (Lit.int .i64 x.op).wf = true ∧ (Lit.int .u64 x.at_).wf = true ∧ (Lit.int .u64 x.done).wf = true ∧ (Lit.int .i64 x.cls).wf = true ∧ (Lit.int .u64 x.id).wf = true ∧ (Lit.int .i64 x.len).wf = true ∧ (Lit.int .u16 x.h0).wf = true ∧ (Lit.int .u16 x.h1).wf = true ∧ (Lit.int .u16 x.h2).wf = true ∧ (Lit.int .u16 x.h3).wf = true
theorem rdEv : Rd Try.prog 45 Ev.Ok Ev.cells :=
  Rd.map (Rd.struct (tot := 12) Try.underlying45 (by kernel_rfl) (RdF.cons (Rd.int .i64 Try.underlying3) (RdF.cons (Rd.bool Try.underlying4) (RdF.cons (Rd.bool Try.underlying4) (RdF.cons (Rd.int .u64 Try.underlying38) (RdF.cons (Rd.int .u64 Try.underlying38) (RdF.cons (Rd.int .i64 Try.underlying3) (RdF.cons rdPk RdF.nil rfl (by kernel_rfl) (by decide)) rfl (by kernel_rfl) (by decide)) rfl (by kernel_rfl) (by decide)) rfl (by kernel_rfl) (by decide)) rfl (by kernel_rfl) (by decide)) rfl (by kernel_rfl) (by decide)) rfl (by kernel_rfl) (by decide)))
    (fun p => ⟨p.1, p.2.1, p.2.2.1, p.2.2.2.1, p.2.2.2.2.1, p.2.2.2.2.2.1, p.2.2.2.2.2.2.1.iD, p.2.2.2.2.2.2.1.len, p.2.2.2.2.2.2.1.head0, p.2.2.2.2.2.2.1.head1, p.2.2.2.2.2.2.1.head2, p.2.2.2.2.2.2.1.head3⟩) (fun _ => rfl) (fun _ h => ⟨h.1, h.2.2.2.1, h.2.2.2.2.1, h.2.2.2.2.2.1, h.2.2.2.2.2.2.1.1, h.2.2.2.2.2.2.1.2.1, h.2.2.2.2.2.2.1.2.2.1, h.2.2.2.2.2.2.1.2.2.2.1, h.2.2.2.2.2.2.1.2.2.2.2.1, h.2.2.2.2.2.2.1.2.2.2.2.2.1⟩)
def Ev.rows (l : List Ev) : Nat → List D := fun i => (l.getD i default).cells
@[go_sem] theorem Ev.rows_at (l : List Ev) (i : Nat) : Ev.rows l i = (l.getD i default).cells := rfl
@[go_sem] def evs (l : List Ev) : D := .imm 12 l.length (Ev.rows l)
theorem wrap64 {n : Int} (h1 : -9223372036854775808 ≤ n) (h2 : n ≤ 9223372036854775807) : IntKind.i64.wrap n = n := by
  rw [IntKind.wrap_i64]; omega
theorem wrap_succ {k : Nat} (h : k < 4611686018427387904) : IntKind.i64.wrap ((k : Int) + 1) = ((k + 1 : Nat) : Int) := by
  rw [wrap64 (by omega) (by omega)]; rfl
theorem bz {n : Nat} (h : n = 0) : ((n : Int) == 0) = true := by simp [h]
theorem bnz {n : Nat} (h : n ≠ 0) : ((n : Int) == 0) = false := by simp [h]
theorem dp {n : Nat} (h : n ≠ 0) : decide ((0 : Int) < n) = true := by simp; omega
theorem dnp {n : Nat} (h : n = 0) : decide ((0 : Int) < n) = false := by simp [h]
theorem getD_app {α : Type} (l : List α) (x d : α) (i : Nat) (hi : i < l.length + 1) : (l ++ [x]).getD i d = bif decide (i < l.length) then l.getD i d else x := by
  by_cases h : i < l.length
  · simp [h, List.getElem?_append_left h]
  · have : i = l.length := by omega
    subst this
    simp
set_option linter.unusedSimpArgs false
set_option linter.unusedVariables false
def Ret (d : D) : D → List Ob → Prop := fun d' h => d' = d ∧ h = []
attribute [go_sem] Ret
theorem Ret.flat {d : D} (hd : d.flat = true) : ∀ d' h, Ret d d' h → d'.flat = true ∧ ∀ o ∈ h, o.flat := by
  rintro d' h ⟨rfl, rfl⟩; exact ⟨hd, by simp⟩

theorem getD_take {α : Type} (l : List α) (d : α) (k : Nat) (h : k < l.length) : l.take (k + 1) = l.take k ++ [l.getD k d] := by
  rw [List.take_add_one, List.getElem?_eq_getElem h]; simp [List.getD_eq_getElem?_getD, List.getElem?_eq_getElem h]

theorem mixed : Try.prog.follows .mixedOrders = true := by kernel_rfl
theorem getD_lt {α : Type} (l : List α) (x d : α) (i : Nat) (h : i < l.length) : (l ++ [x]).getD i d = l.getD i d := by simp [List.getElem?_append_left h]
theorem getD_end {α : Type} (l : List α) (x d : α) : (l ++ [x]).getD l.length d = x := by simp
theorem getD_set_eq {α : Type} (l : List α) (x d : α) (i : Nat) (h : i < l.length) : (l.set i x).getD i d = x := by simp [h]
theorem getD_set_ne' {α : Type} (l : List α) (x d : α) (i j : Nat) (h : j ≠ i) : (l.set j x).getD i d = l.getD i d := by simp [List.getElem?_set_ne h]
theorem getD_map {α β : Type} (f : α → β) (l : List α) (d : α) (e : β) (i : Nat) (h : i < l.length) : (l.map f).getD i e = f (l.getD i d) := by simp [List.getD_eq_getElem?_getD, h]
theorem getD_mem {α : Type} (l : List α) (d : α) (i : Nat) (h : i < l.length) : l.getD i d ∈ l := by simp [List.getD_eq_getElem?_getD, h]
/-- Rows of which one more is as it should be. -/
theorem wf_i64 {n : Int} (h : (Lit.int .i64 n).wf = true) : -9223372036854775808 ≤ n ∧ n ≤ 9223372036854775807 := by
  simp only [Lit.wf, Bool.and_eq_true, decide_eq_true_eq] at h
  exact h
theorem wf_u64 {n : Int} (h : (Lit.int .u64 n).wf = true) : 0 ≤ n ∧ n ≤ 18446744073709551615 := by
  simp only [Lit.wf, Bool.and_eq_true, decide_eq_true_eq] at h
  exact h
theorem wf_u16 {n : Int} (h : (Lit.int .u16 n).wf = true) : 0 ≤ n ∧ n ≤ 65535 := by
  simp only [Lit.wf, Bool.and_eq_true, decide_eq_true_eq] at h
  exact h
theorem wrapu {n : Int} (h1 : 0 ≤ n) (h2 : n ≤ 18446744073709551615) : IntKind.u64.wrap n = n := by rw [IntKind.wrap_u64]; omega
@[go_sem] theorem cast0 : ((0 : Nat) : Int) = 0 := rfl
@[go_sem] theorem cast1 : ((1 : Nat) : Int) = 1 := rfl
@[go_sem] theorem cast2 : ((2 : Nat) : Int) = 2 := rfl
@[go_sem] theorem cast3 : ((3 : Nat) : Int) = 3 := rfl
@[go_sem] theorem cast4 : ((4 : Nat) : Int) = 4 := rfl
@[go_sem] theorem cast5 : ((5 : Nat) : Int) = 5 := rfl
@[go_sem] theorem cast6 : ((6 : Nat) : Int) = 6 := rfl
@[go_sem] theorem cast7 : ((7 : Nat) : Int) = 7 := rfl
@[go_sem] theorem cast8 : ((8 : Nat) : Int) = 8 := rfl
@[go_sem] theorem cast9 : ((9 : Nat) : Int) = 9 := rfl
@[go_sem] theorem cast10 : ((10 : Nat) : Int) = 10 := rfl
theorem beqT {a b : Int} (h : a = b) : (a == b) = true := by simp [h]
theorem beqF {a b : Int} (h : a ≠ b) : (a == b) = false := by simp [h]
theorem bneF {a b : Int} (h : a = b) : (a != b) = false := by simp [h]
theorem bneT {a b : Int} (h : a ≠ b) : (a != b) = true := by simp [h]
end Go.Fg.X
namespace Go.Fg
set_option linter.unusedSimpArgs false
set_option linter.unusedVariables false
open Go.RowKit (Below)
/-- The numbers of birth rise. -/
def Births (es : List Ent) : Prop := (es.map (·.b)).Pairwise (· < ·)
theorem EntRel.births {Z : Nat → Prop} {h : List Ob} {pl : List Pl} {w : World} {q : IntKind} {c : Nat} {es : List Ent} {ens : List MapEntry} (E : EntRel Z h pl w q c es ens) : Births es := by
  unfold Births
  rw [List.pairwise_iff_getElem]
  intro i j hi hj hij
  simp only [List.length_map] at hi hj
  have hl := E.len
  obtain ⟨_, _, h1, _⟩ := E.at_ i es[i] ens[i] (List.getElem?_eq_getElem hi) (List.getElem?_eq_getElem (by omega))
  obtain ⟨_, _, h2, _⟩ := E.at_ j es[j] ens[j] (List.getElem?_eq_getElem hj) (List.getElem?_eq_getElem (by omega))
  have := E.inc i j ens[i] ens[j] hij (List.getElem?_eq_getElem (by omega)) (List.getElem?_eq_getElem (by omega))
  simp only [List.getElem_map]
  omega
theorem Births.inj {es : List Ent} (B : Births es) {e e' : Ent} (h : e ∈ es) (h' : e' ∈ es) (hb : e.b = e'.b) : e = e' := by
  unfold Births at B
  rw [List.pairwise_iff_getElem] at B
  obtain ⟨i, hi, rfl⟩ := List.getElem_of_mem h
  obtain ⟨j, hj, rfl⟩ := List.getElem_of_mem h'
  rcases Nat.lt_trichotomy i j with h1 | h1 | h1
  · have := B i j (by simpa using hi) (by simpa using hj) h1; simp only [List.getElem_map] at this; omega
  · subst h1; rfl
  · have := B j i (by simpa using hj) (by simpa using hi) h1; simp only [List.getElem_map] at this; omega
theorem Births.nodup {es : List Ent} (B : Births es) : (es.map (·.b)).Nodup := by
  unfold List.Nodup
  exact List.Pairwise.imp (fun h => Nat.ne_of_lt h) B
/-- How many are left. -/
def leftE (es : List Ent) (seen : List Nat) : Nat := (es.filter fun e => !seen.contains e.b).length
theorem leftE_lt : ∀ {es : List Ent} {seen : List Nat} {e : Ent}, e ∈ es → e.b ∉ seen → leftE es (seen ++ [e.b]) < leftE es seen
  | [], _, _, h, _ => by simp at h
  | x :: es, seen, e, h, hs => by
    have le : ∀ es : List Ent, leftE es (seen ++ [e.b]) ≤ leftE es seen := fun es => by
      induction es with
      | nil => exact Nat.le_refl _
      | cons y r ih =>
        simp only [leftE, List.filter_cons] at ih ⊢
        by_cases h1 : y.b ∈ seen <;> by_cases h2 : y.b = e.b <;> simp_all <;> omega
    rcases List.mem_cons.1 h with rfl | h
    · have := le es
      simp only [leftE, List.filter_cons] at this ⊢
      simp_all
      omega
    · have := leftE_lt h hs
      simp only [leftE, List.filter_cons] at this ⊢
      by_cases h1 : x.b ∈ seen <;> by_cases h2 : x.b = e.b <;> simp_all <;> omega
section
variable {P : Program} {L : Lay} {base nt : Nat} {w0 : Start} {Q : Exit → St → Prop}
theorem map_births {Z : Nat → Prop} {s : St} {pl : List Pl} {a : Act} {w : World} (r : Rel Z base nt s pl a w) {l c : Nat} {es : List Ent} {kd : Kd} {q : IntKind} (hkd : kd.ty = 1) (hob : s.h[l]? = some (mapObK kd q c es)) : Births es := by
  have hl : l < pl.length := by rw [r.o.len]; exact lt_of_some hob
  cases hp : pl[l] with
  | none =>
    have := r.o.noRow l _ hob (by rw [List.getElem?_eq_getElem hl, hp])
    simp [mapObK] at this
  | some bq =>
    obtain ⟨b, p⟩ := bq
    obtain ⟨_, x⟩ := r.o.at_ l _ b p hob (by rw [List.getElem?_eq_getElem hl, hp])
    obtain ⟨_, ens, _, E⟩ := mapAt_to hkd x
    exact E.births
/-- The births of a map that is there rise. -/
theorem kont_births {c0 : Code} {k : List Item} {s : St} {l c : Nat} {es : List Ent} {kd : Kd} {q : IntKind} (hkd : kd.ty = 1) (hob : s.h[l]? = some (mapObK kd q c es)) (hk : Births es → kont P base nt w0 Q (.code c0 :: k) .normal s) : kont P base nt w0 Q (.code c0 :: k) .normal s := by
  simp only [kont] at hk ⊢
  intro Z z pl a w r b
  exact hk (map_births r hkd hob) Z z pl a w r b
theorem kont_birthsO {os : List (Oper × G)} {k : List Item} {s : St} {l c : Nat} {es : List Ent} {kd : Kd} {q : IntKind} (hkd : kd.ty = 1) (hob : s.h[l]? = some (mapObK kd q c es)) (hk : Births es → kont P base nt w0 Q (.ops os :: k) .normal s) : kont P base nt w0 Q (.ops os :: k) .normal s := by
  simp only [kont] at hk ⊢
  intro Z z pl a w r b
  exact hk (map_births r hkd hob) Z z pl a w r b
/-- The entry that an iterator met last. -/
theorem entry_ok {o : Oper} {s : St} {x : Operand} (ho : o.op = .entry x) {li l c : Nat} {es : List Ent} {seen : List Nat} {q : IntKind} {kd : Kd} {e : Ent}
    (hx : evalO s.fr x = .mref li 0) (hit : s.h[li]? = some (iterOb l c c (seen ++ [e.b]))) (hkd : kd.ty = 1) (hob : s.h[l]? = some (mapObK kd q c es)) (he : e ∈ es) : PureOk P base nt o s (.tup [.raw (.int q e.k), e.v]) := by
  intro Z pl a w r
  have e1 := r.eval x
  rw [hx] at e1
  obtain ⟨o', p, b, h1, h2, h3, h4, h5⟩ := inv_mref e1
  rw [hit] at h1; cases h1
  have h5 := h5 rfl
  rw [h5] at h2
  obtain ⟨hb0, xat⟩ := r.o.at_ li _ b 0 hit h2
  obtain ⟨_, m, sn, hb, hsn, hmr⟩ := iterAt_to xat
  have hv : a.eval x = .pointer (some ⟨b, 0, none⟩) := h3.2
  obtain ⟨o2, p2, bm, k1, k2, k3, k4, k5⟩ := inv_mref hmr
  rw [hob] at k1; cases k1
  have k5 := k5 rfl
  rw [k5] at k2
  have k3 := k3.2
  rw [show (mapObK kd q c es).kd.ty = 1 from hkd] at k3
  have k3 : m = bm := by simpa [mval] using k3
  subst k3
  obtain ⟨hm0, mat⟩ := r.o.at_ l _ m 0 hob k2
  obtain ⟨_, ens, hbm, E⟩ := mapAt_to hkd mat
  have hl : es.length = ens.toList.length := E.len
  obtain ⟨j, hj⟩ := List.getElem?_of_mem he
  have hlt := (List.getElem?_eq_some_iff.1 hj).1
  obtain ⟨d1, d2, d3, d4⟩ := E.at_ j e (ens.toList[j]'(by omega)) hj (List.getElem?_eq_getElem (by omega))
  have hnd : (ens.toList.map (·.born)).Nodup := by
    have : ens.toList.map (·.born) = es.map (·.b) := by
      apply List.ext_getElem (by simp [hl])
      intro i h1 h2
      simp only [List.length_map] at h1 h2
      obtain ⟨_, _, g, _⟩ := E.at_ i (es[i]'(by omega)) (ens.toList[i]'(by omega)) (List.getElem?_eq_getElem (by omega)) (List.getElem?_eq_getElem (by omega))
      simp only [List.getElem_map, g]
    rw [this]; exact E.births.nodup
  have hsn' : sn = (seen.toArray).push (ens.toList[j]'(by omega)).born := by
    apply Array.toList_inj.1
    rw [hsn, d3]; simp
  have hb' := hb
  rw [hsn'] at hb'
  refine ⟨.tuple #[(ens.toList[j]'(by omega)).key, (ens.toList[j]'(by omega)).val], ?_, fun w' ew => ?_⟩
  · rw [d1]
    exact .tup _ [.int q e.k, (ens.toList[j]'(by omega)).val] rfl fun i hi => match i, hi with
      | 0, _ => .cl _ _ (.raw _)
      | 1, _ => d2
  · have hrun := run_entry_at (P := P) w' b m c seen.toArray ens c (ens.toList[j]'(by omega)) (by rw [ew b (lt_of_heap hb')]; exact hb') (by rw [ew m (lt_of_heap hbm)]; exact hbm) (List.getElem_mem _) hnd
    simp [execOp, ho, hv, hrun]
theorem kont_entry {k : List Item} {dst : Option Nat} {ty : TypeId} {pos : String} {after : Array Edge} {gd : Option (Nat × Bool)} {r : List (Oper × G)} {s : St} {x : Operand} {li l c : Nat} {es : List Ent} {seen : List Nat} {q : IntKind} {kd : Kd} {e : Ent}
    (hx : evalO s.fr x = .mref li 0) (hit : s.h[li]? = some (iterOb l c c (seen ++ [e.b]))) (hkd : kd.ty = 1) (hob : s.h[l]? = some (mapObK kd q c es)) (he : e ∈ es) (ht : okO nt dst = true)
    (h1 : kont P base nt w0 Q (.ops r :: k) .normal ⟨putO s.fr dst (.tup [.raw (.int q e.k), e.v]), s.h⟩) :
    kont P base nt w0 Q (.ops ((⟨dst, .entry x, ty, pos, after, gd⟩, none) :: r) :: k) .normal s := by
  simp only [kont] at h1 ⊢
  exact AG_pure (entry_ok rfl hx hit hkd hob he) ht h1
end
end Go.Fg
namespace Go.Fg
set_option linter.unusedSimpArgs false
set_option linter.unusedVariables false
open Go.RowKit (Below)
def clearRow (off len : Nat) (zs : List D) (row : Nat → List D) : Nat → List D := fun k => bif Nat.ble off k && Nat.blt k (off + len) then zs else row k
theorem clearRow_lt {off len k : Nat} {zs : List D} {row : Nat → List D} (h : k < off) : clearRow off len zs row k = row k := by
  have : Nat.ble off k = false := by rw [← Bool.not_eq_true, Nat.ble_eq]; omega
  simp [clearRow, this]
section
variable {P : Program} {L : Lay} {base nt : Nat} {s : St} {o : Oper}
theorem clear_ok (hL : LayOk P L) {t e : TypeId} {x : Operand} {l g off len a b c : Nat} {z : Value} {zt : List Value} {ob : Ob} (ho : o.op = .call ⟨.builtin .clear, #[x], #[t]⟩) (hx : evalO s.fr x = .ref l g off len) (hob : s.h[l]? = some ob)
    (hk : ob.kd.isOne = false) (hg : ob.gen = g) (hs : ob.sz = 1) (hro : ob.kd.ro = false) (hn : off + len ≤ ob.n) (ht : ty L t = some ⟨.slice e, a, b, zt⟩) {k : TK} (he : ty L e = some ⟨k, 1, c, [z]⟩) (hz : oneV z = true) :
    EffOk P base nt o s (s.h.set l ⟨ob.kd, ob.gen, ob.sz, ob.n, clearRow off len [ofCell z] ob.row⟩) (.tup []) := by
  refine EffOk0.up ?_ (by simp [calm, ho])
  intro Z pl ac w r hbs
  have hv := r.eval x
  rw [hx] at hv
  obtain ⟨o', p', ad, cap, hvv, ho', hp', hk', hg', hat⟩ := inv_ref hv
  rw [hob] at ho'; cases ho'
  have hy := hL _ _ ht
  have hye := hL _ _ he
  have hu : P.underlying t = some (.slice e) := under_slice hy rfl
  obtain ⟨zv, hzz, hzr⟩ := hye.zeroValue
  have hzc : zv.cells = #[z] := by apply Array.toList_inj.1; rw [hzz]
  have hzl : (Builtin.zeroCells zv.cells len).toList = List.replicate len z := by
    rw [hzc]
    simp [Builtin.zeroCells]
    apply List.ext_getElem
    · simp
    · intro i h1 h2
      simp [Nat.mod_one]
  have hrz : ∀ Z' h' pl' w', RelV Z' h' pl' w' (ofCell z) z := fun Z' h' pl' w' =>
    .cl _ _ (cl_ofCell _ _ _)
  rcases hat hg.symm with ⟨hl0, hc0⟩ | ⟨bb, q, c0, el, hpp, haa, hb0, hsz0, hlc⟩
  · subst hl0
    have hrow : ∀ i, clearRow off 0 [ofCell z] ob.row i = ob.row i := fun i => by
      unfold clearRow
      cases h1 : Nat.ble off i && Nat.blt i (off + 0)
      · rfl
      · simp at h1; omega
    have hset : s.h.set l ⟨ob.kd, ob.gen, ob.sz, ob.n, clearRow off 0 [ofCell z] ob.row⟩ = s.h := by
      have e1 : (⟨ob.kd, ob.gen, ob.sz, ob.n, clearRow off 0 [ofCell z] ob.row⟩ : Ob) = ob := by rw [funext hrow]
      rw [e1]
      exact List.ext_getElem? fun i => by
        by_cases h : l = i
        · subst h; rw [List.getElem?_set_self (lt_of_some hob), hob]
        · rw [List.getElem?_set_ne h]
    rw [hset]
    refine ⟨.tuple #[], w, pl, .inl ?_, Tr.refl _ _ _, r.o, .tup [] [] rfl (fun i hi => absurd hi (Nat.not_lt_zero i)), Below.refl _ _⟩
    subst hc0
    cases ad <;> simp [execOp, ho, hvv, resolve, invoke, Go.builtin, Builtin.clear_, run_underlying hu]
  · subst hpp
    obtain ⟨hbase, xx⟩ := r.o.at_ l ob bb q hob hp'
    obtain ⟨c1, el1, hb, hcsz, hrl, hrow⟩ := xx.cells hk'
    rw [hb] at hb0; cases hb0
    have hkd : ∀ c2 : Nat → List D, (⟨ob.kd, ob.gen, ob.sz, ob.n, c2⟩ : Ob).kd = ob.kd := fun _ => rfl
    obtain ⟨w', c', g1, g2, g3, g4, g5, g6, g7, g8, g9⟩ := run_storeCells (P := P) bb el (List.replicate len z) 0 (q + off * ob.sz) w c0 hb (by simp; rw [hs] at hcsz ⊢; omega) (fun k hk => by
      have hk2 : k < len := by simpa using hk
      have : nthV (List.replicate len z) k = z := by simp [nthV, List.getD_eq_getElem?_getD, hk2]
      rw [this]; exact hz)
    have T : Tr s.h pl w (s.h.set l ⟨ob.kd, ob.gen, ob.sz, ob.n, clearRow off len [ofCell z] ob.row⟩) pl w' := Tr.upd r.o hob hp' rfl rfl rfl (fun k hk _ => g5 k hk) (fun c2 el2 e2 => by rw [hb] at e2; cases e2; exact ⟨c', g2, g3⟩)
    refine ⟨.tuple #[], w', pl, .inl ?_, T, ?_, .tup [] [] rfl (fun i hi => absurd hi (Nat.not_lt_zero i)), below_of (hbase hro) g5 g6 g7 g8 g9⟩
    · subst haa
      by_cases hl0 : len = 0
      · subst hl0
        have e1 : w' = w := by
          have : (storeCells ⟨bb, q + off * ob.sz, none⟩ (List.replicate 0 z) 0).run P w = .ok () w := by simp [storeCells]
          rw [g1] at this; cases this; rfl
        rw [e1]
        simp [execOp, ho, hvv, resolve, invoke, Go.builtin, Builtin.clear_, run_underlying hu]
      · obtain ⟨m, rfl⟩ : ∃ m, len = m + 1 := ⟨len - 1, by omega⟩
        simp [execOp, ho, hvv, resolve, invoke, Go.builtin, Builtin.clear_, run_underlying hu, hzr, hzl, g1]
    · refine RelO.upd (hro := rfl) r.o hob hp' hk' hk' rfl rfl (fun k hk _ => g5 k hk) hb g2 g3 (by rw [g3]; exact hcsz) (fun k hk => ?_) (fun k m hk hm => ?_)
      · show (clearRow off len [ofCell z] ob.row k).length = ob.sz
        unfold clearRow
        cases Nat.ble off k && Nat.blt k (off + len)
        · exact hrl k hk
        · simp [hs]
      · have hk2 : k < ob.n := hk
        have hm2 : m < ob.sz := hm
        show ∃ v, c'[q + (k * ob.sz + m)]? = some v ∧ RelV Z _ pl w' (nth (clearRow off len [ofCell z] ob.row k) m) v
        rw [hs] at hm2
        have hm0 : m = 0 := by omega
        subst hm0
        have hidx : k * ob.sz + 0 = k := by rw [hs]; omega
        have hidx2 : q + off * ob.sz + 0 = q + off := by rw [hs]; omega
        rw [g4, hidx, hidx2]
        simp only [List.length_replicate]
        by_cases hin : off ≤ k ∧ k < off + len
        · rw [if_pos (by omega)]
          have e1 : clearRow off len [ofCell z] ob.row k = [ofCell z] := by simp [clearRow, nat_ble, nat_blt, hin.1, hin.2]
          rw [e1]
          exact ⟨z, by rw [List.getElem?_replicate, if_pos (by omega)], hrz _ _ _ _⟩
        · rw [if_neg (by omega)]
          have e1 : clearRow off len [ofCell z] ob.row k = ob.row k := by
            unfold clearRow
            cases h : (Nat.ble off k && Nat.blt k (off + len))
            · rfl
            · simp at h; omega
          rw [e1]
          obtain ⟨v, hv1, hr1⟩ := hrow k 0 hk2 (by omega)
          rw [hidx] at hv1
          exact ⟨v, hv1, hr1.tr T⟩
end
section
variable {P : Program} {L : Lay} {base nt : Nat} {w0 : Start} {Q : Exit → St → Prop}
/-- The rule. -/
theorem kont_clear (hL : LayOk P L) (hb : base ≤ w0.w.heap.size) {k : List Item} {dst : Option Nat} {tyd : TypeId} {pos : String} {after : Array Edge} {gd : Option (Nat × Bool)} {r : List (Oper × G)} {s : St} {t e : TypeId} {x : Operand} {l g off len a b c : Nat} {z : Value} {zt : List Value} {ob : Ob}
    (hx : evalO s.fr x = .ref l g off len) (hob : s.h[l]? = some ob)
    (hk : ob.kd.isOne = false) (hg : ob.gen = g) (hs : ob.sz = 1) (hro : ob.kd.ro = false) (hn : off + len ≤ ob.n) (ht : ty L t = some ⟨.slice e, a, b, zt⟩) {tk : TK} (he : ty L e = some ⟨tk, 1, c, [z]⟩) (hz : oneV z = true) (hd : okO nt dst = true)
    (h1 : kont P base nt w0 Q (.ops r :: k) .normal ⟨putO s.fr dst (.tup []), s.h.set l ⟨ob.kd, ob.gen, ob.sz, ob.n, clearRow off len [ofCell z] ob.row⟩⟩) :
    kont P base nt w0 Q (.ops ((⟨dst, .call ⟨.builtin .clear, #[x], #[t]⟩, tyd, pos, after, gd⟩, none) :: r) :: k) .normal s := by
  simp only [kont] at h1 ⊢
  exact AG_eff hb (clear_ok hL rfl hx hob hk hg hs hro hn ht he hz) hd h1
end
end Go.Fg
namespace Go.Fg
set_option linter.unusedSimpArgs false
set_option linter.unusedVariables false
open Go.RowKit (Below)
theorem MFn.cut {P : Program} {f : FuncId} {F : List Ob} {args : List D} {R R' : D → List Ob → Prop} (hf : MFn P f F args R)
    (hr : ∀ d h, R d h → ∃ l o n', h[l]? = some o ∧ o.kd.ty = 0 ∧ n' ≤ o.n ∧ R' d (h.set l ⟨o.kd, o.gen, o.sz, n', o.row⟩)) : MFn P f F args R' := by
  intro Z base w pl vs h1 h2 h3 hl hc
  refine (hf Z base w pl vs h1 h2 h3 hl hc).mono fun e w' he => ?_
  obtain ⟨v, d, h, pl', rfl, hR, hO, hV, hT, hB⟩ := he
  obtain ⟨l, o, n', ho, hk, hn, hR'⟩ := hr _ _ hR
  have hl := lt_of_some ho
  have key : ∀ (x : Nat) (u : Ob), h[x]? = some u → ∃ u', (h.set l ⟨o.kd, o.gen, o.sz, n', o.row⟩)[x]? = some u' ∧ u'.gen = u.gen ∧ u'.sz = u.sz ∧ u'.kd.ty = u.kd.ty := fun x u e => by
    by_cases hx : l = x
    · subst hx
      rw [ho] at e; cases e
      exact ⟨_, List.getElem?_set_self hl, rfl, rfl, rfl⟩
    · exact ⟨u, by rw [List.getElem?_set_ne hx]; exact e, rfl, rfl, rfl⟩
  refine ⟨v, d, _, pl', rfl, hR', ⟨by simp [hO.len], hO.inj, fun x u e ep => ?_, fun x u b q e ep => ?_⟩, hV.kds key, ⟨hT.old, fun x u p e ep => ?_, fun x u u' b q e e' hg ep c el hc => ?_⟩, hB⟩
  · by_cases hx : l = x
    · subst hx
      rw [List.getElem?_set_self hl] at e; cases e
      have := hO.noRow l o ho ep
      show n' = 0
      omega
    · rw [List.getElem?_set_ne hx] at e
      exact hO.noRow x u e ep
  · by_cases hx : l = x
    · subst hx
      rw [List.getElem?_set_self hl] at e; cases e
      obtain ⟨g1, xx⟩ := hO.at_ l o b q ho ep
      obtain ⟨c, el, c1, c2, c3, c4⟩ := xx.cells hk
      refine ⟨g1, .ofCells hk ⟨c, el, c1, ?_, fun i hi => c3 i (Nat.lt_of_lt_of_le hi hn), fun i j hi hj => ?_⟩⟩
      · have := Nat.mul_le_mul_right o.sz hn
        show q + n' * o.sz ≤ c.size
        omega
      · obtain ⟨u, hu, hr⟩ := c4 i j (Nat.lt_of_lt_of_le hi hn) hj
        exact ⟨u, hu, hr.kds key⟩
    · rw [List.getElem?_set_ne hx] at e
      obtain ⟨g1, xx⟩ := hO.at_ x u b q e ep
      exact ⟨g1, xx.to rfl rfl rfl rfl (fun _ _ => rfl) fun i j v _ _ hr => hr.kds key⟩
  · obtain ⟨u', p', a1, a2, a3, a4, a5⟩ := hT.obj x u p e ep
    obtain ⟨u2, b1, b2, b3, b4⟩ := key x u' a1
    exact ⟨u2, p', b1, a2, by omega, by rw [b4, a4], fun hh => by rw [b3]; exact a5 (by omega)⟩
  · obtain ⟨u1, p', a1, a2, a3, a4, a5⟩ := hT.obj x u _ e ep
    obtain ⟨u2, b1, b2, b3, b4⟩ := key x u1 a1
    rw [e'] at b1; cases b1
    exact hT.shape x u u1 b q e a1 (by omega) ep c el hc
end Go.Fg
namespace Go.Fg
set_option linter.unusedSimpArgs false
set_option linter.unusedVariables false
open Go.RowKit (Below)
section
variable {P : Program} {L : Lay} {base nt : Nat} {s : St} {o : Oper}
theorem cap_nil_ok (hL : LayOk P L) {t : TypeId} {x : Operand} (ho : o.op = .call ⟨.builtin .cap, #[x], #[t]⟩) (hx : evalO s.fr x = .nil) {e a b : Nat} {zt : List Value} (ht : ty L t = some ⟨.slice e, a, b, zt⟩) : PureOk P base nt o s (.raw (.int .i64 0)) := by
  intro Z pl ac w r
  have hr := r.eval x
  rw [hx] at hr
  obtain ⟨a0, hv⟩ := inv_nil hr
  refine ⟨_, .cl _ _ (.raw _), fun w' _ => ?_⟩
  rw [run_builtin ho]
  simp [builtin, hv, Builtin.cap_, run_underlying (under_slice (hL _ _ ht) rfl), goInt]
theorem run_append_zeros {t ti e : TypeId} {ty0 : TypeId} {y : Ty} {k kn : IntKind} (ht : P.underlying t = some (.slice e)) (hti : P.underlying ti = some (.int kn)) (hy : TyOk P e y) (hz : y.zero.length = y.size) (hs : 0 < y.size) (w : World) (b : Option Addr) (n : Nat)
    (h0 : 0 < n) (h63 : n ≤ 4294967296) (hby : y.bytes ≤ 1024) :
    ∃ cap' rest, (Builtin.append_ #[t, ti] ty0 #[.slice b 0 0, .int k n]).run P w = .ok (.slice (some ⟨w.heap.size, 0, none⟩) n cap') (w.drew.alloc (.cells ((flat n y.size fun _ j => nthV y.zero j).toArray ++ rest) e)) ∧ n ≤ cap' ∧ rest.size = (cap' - n) * y.size := by
  obtain ⟨z, hzz, hzr⟩ := hy.zeroValue
  obtain ⟨i, hi, hi1, hi2⟩ := hy.typeInfo w
  have hi' : ∀ w, (typeInfo e).run P w = .ok i w := fun w => by
    have h4 := hy.info
    cases hx : P.info? e with
    | none => rw [hx] at h4; cases h4
    | some k =>
      simp [typeInfo, hx] at hi ⊢
      exact hi
  refine ⟨grownCap w n 0 e, Builtin.zeroCells z.cells (grownCap w n 0 e - n), ?_, grownCap_ge _ _ _ _, by rw [zeroCells_size]; congr 1; rw [← hz, ← hzz]; simp⟩
  have hn : ¬ n = 0 := by omega
  have hw : IntKind.i64.wrap (n : Int) = n := by rw [IntKind.wrap_i64]; omega
  have h63' : ¬ (9223372036854775807 < (n : Int)) := by omega
  have hmul : n * y.bytes ≤ 4294967296 * 1024 := Nat.mul_le_mul h63 hby
  have h48' : ¬ (281474976710656 < Builtin.nextslicecap n 0 * i.bytes) := by rw [nextslicecap_zero h0, hi2]; omega
  have h48i : ¬ (281474976710656 < (n : Int) * (i.bytes : Int)) := by
    rw [← Int.natCast_mul, hi2]
    omega
  have hneg : ¬ ((n : Int) < 0) := by omega
  have hns : ¬ (n * y.size = 0) := Nat.mul_ne_zero hn (by omega)
  have hzs : z.cells.size = y.size := by rw [← hz, ← hzz]; simp
  have hfl : (flat n y.size fun _ j => nthV y.zero j).toArray = Builtin.zeroCells z.cells n := by
    apply Array.ext
    · rw [zeroCells_size, hzs]; simp [flat_length]
    · intro j h1 h2
      simp only [List.size_toArray, flat_length] at h1
      obtain ⟨d1, d2, d3⟩ := div_lt h1
      have hz2 : y.zero = z.cells.toList := hzz.symm
      have hj : j % y.size < z.cells.size := by rw [hzs]; exact d2
      simp [flat, Builtin.zeroCells, nthV, hz2, List.getD_eq_getElem?_getD, hzs, hj]
      rw [getElem!_pos z.cells _ hj, Array.getElem?_eq_getElem hj]; rfl
  rw [hfl]
  cases b <;> simp [Builtin.append_, run_underlying ht, run_underlying hti, hy.sizeOf, hi', hzr, asInt, asIntOf, hw, hn, hneg, hns, h63', h48', h48i, Question.forced, Builtin.firstCells, loadCells, loadCellsFrom, newRow, grownCap, askRoom, mark, Sem.run]
theorem append_zeros_ok (hL : LayOk P L) {t ti e : TypeId} {x0 x : Operand} {n : Nat} {kn : IntKind} {a b c d : Nat} {zt zi : List Value} {y : Ty} {k : IntKind} (ho : o.op = .call ⟨.builtin .append, #[x0, x], #[t, ti]⟩) (hx0 : evalO s.fr x0 = .nil) (hx : evalO s.fr x = .raw (.int k n))
    (ht : ty L t = some ⟨.slice e, a, b, zt⟩) (hti : ty L ti = some ⟨.int kn, c, d, zi⟩) (hye : ty L e = some y) (hz : y.zero.length = y.size) (hs : 0 < y.size) (h0 : 0 < n) (h63 : n ≤ 4294967296) (hby : y.bytes ≤ 1024) :
    EffOk P base nt o s (s.h ++ [⟨.arr, 0, y.size, n, fun _ => y.zero.map ofCell⟩]) (.ref s.h.length 0 0 n) := by
  refine EffOk0.up ?_ (by simp [calm, ho])
  intro Z pl ac w r hbs
  have hr0 := r.eval x0
  have hrx := r.eval x
  rw [hx0] at hr0
  rw [hx] at hrx
  obtain ⟨a0, hv0⟩ := inv_nil hr0
  have hv := inv_raw hrx
  have hy := hL _ _ hye
  have hpl : pl.length = s.h.length := r.o.len
  obtain ⟨cap', rest, hrun, hcap, hrest⟩ := run_append_zeros (ty0 := o.type) (k := k) (under_slice (hL _ _ ht) rfl) (under_int (hL _ _ hti) rfl) hy hz hs w a0 n h0 h63 hby
  have e1 : ∀ b, b < w.heap.size → (w.drew.alloc (.cells ((flat n y.size fun _ j => nthV y.zero j).toArray ++ rest) e)).heap[b]? = w.heap[b]? := fun b hb => heap_push_old w.drew _ b hb
  have hnew : (w.drew.alloc (.cells ((flat n y.size fun _ j => nthV y.zero j).toArray ++ rest) e)).heap[w.heap.size]? = some (.cells ((flat n y.size fun _ j => nthV y.zero j).toArray ++ rest) e (0, 0)) := heap_alloc_new w.drew _
  have T : Tr s.h pl w (s.h ++ [⟨.arr, 0, y.size, n, fun _ => y.zero.map ofCell⟩]) (pl ++ [some (w.heap.size, 0)]) (w.drew.alloc (.cells ((flat n y.size fun _ j => nthV y.zero j).toArray ++ rest) e)) := Tr.push r.o e1 _ _ (by intro b q h; simp at h; omega)
  refine ⟨.slice (some ⟨w.heap.size, 0, none⟩) n cap', _, _, .inl ?_, T, RelO.push r.o e1 _ rfl (Nat.le_refl _) hbs hnew (by simp [flat_length]) (fun i hi => by simp [hz]) (fun i j hi hj => ⟨nthV y.zero j, ?_, ?_⟩), .ref _ _ _ _ ⟨.arr, 0, y.size, n, fun _ => y.zero.map ofCell⟩ (some (w.heap.size, 0)) _ _ (by simp) (by rw [← hpl]; simp) rfl (Nat.le_refl _) (fun _ => .inr ⟨w.heap.size, 0, _, _, rfl, by simp, hnew, ?_, hcap⟩), ((Below.refl base w).drew).alloc hbs _⟩
  · rw [run_builtin ho]
    have : (Array.map ac.eval #[x0, x]) = #[.slice a0 0 0, .int k n] := by simp [hv0, hv]
    rw [this]
    simp only [builtin, Sem.run_bind, hrun, Result.andThen_ok, Sem.run_pure]
  · have hg := flat_get (vs := fun _ j => nthV y.zero j) hi hj
    have hlt := (List.getElem?_eq_some_iff.1 hg).1
    rw [Nat.zero_add, Array.getElem?_append_left (by simpa using hlt)]
    simpa using hg
  · have hj2 : j < y.zero.length := by rw [hz]; exact hj
    have : nth (y.zero.map ofCell) j = ofCell (nthV y.zero j) := by simp [nth, nthV, List.getD_eq_getElem?_getD, hj2]
    show RelV Z _ _ _ (nth (y.zero.map ofCell) j) _
    rw [this]
    exact .cl _ _ (cl_ofCell _ _ _)
  · simp only [Nat.zero_add, Array.size_append, List.size_toArray, flat_length, hrest]
    rw [← Nat.add_mul]; exact Nat.mul_le_mul_right _ (by omega)
end
section
variable {P : Program} {L : Lay} {base nt : Nat} {w0 : Start} {Q : Exit → St → Prop}
theorem kont_cap_nil (hL : LayOk P L) {k : List Item} {dst : Option Nat} {tyd : TypeId} {pos : String} {after : Array Edge} {gd : Option (Nat × Bool)} {r : List (Oper × G)} {s : St} {t e a b : Nat} {x : Operand} {zt : List Value}
    (hx : evalO s.fr x = .nil) (ht : ty L t = some ⟨.slice e, a, b, zt⟩) (hd : okO nt dst = true) (h1 : kont P base nt w0 Q (.ops r :: k) .normal ⟨putO s.fr dst (.raw (.int .i64 0)), s.h⟩) :
    kont P base nt w0 Q (.ops ((⟨dst, .call ⟨.builtin .cap, #[x], #[t]⟩, tyd, pos, after, gd⟩, none) :: r) :: k) .normal s := by
  simp only [kont] at h1 ⊢
  exact AG_pure (cap_nil_ok hL rfl hx ht) hd h1
theorem kont_append_zeros (hL : LayOk P L) (hb : base ≤ w0.w.heap.size) {k : List Item} {dst : Option Nat} {tyd : TypeId} {pos : String} {after : Array Edge} {gd : Option (Nat × Bool)} {r : List (Oper × G)} {s : St} {t ti e : TypeId} {x0 x : Operand} {n : Nat} {kn : IntKind} {a b c d : Nat} {zt zi : List Value} {y : Ty} {ki : IntKind}
    (hx0 : evalO s.fr x0 = .nil) (hx : evalO s.fr x = .raw (.int ki n)) (ht : ty L t = some ⟨.slice e, a, b, zt⟩) (hti : ty L ti = some ⟨.int kn, c, d, zi⟩) (hye : ty L e = some y) (hz : y.zero.length = y.size) (hs : 0 < y.size) (h0 : 0 < n) (h63 : n ≤ 4294967296) (hby : y.bytes ≤ 1024) (hd : okO nt dst = true)
    (h1 : kont P base nt w0 Q (.ops r :: k) .normal ⟨putO s.fr dst (.ref s.h.length 0 0 n), s.h ++ [⟨.arr, 0, y.size, n, fun _ => y.zero.map ofCell⟩]⟩) :
    kont P base nt w0 Q (.ops ((⟨dst, .call ⟨.builtin .append, #[x0, x], #[t, ti]⟩, tyd, pos, after, gd⟩, none) :: r) :: k) .normal s := by
  simp only [kont] at h1 ⊢
  exact AG_eff hb (append_zeros_ok hL rfl hx0 hx ht hti hye hz hs h0 h63 hby) hd h1
end
end Go.Fg
namespace Go.Fg
set_option linter.unusedSimpArgs false
set_option linter.unusedVariables false
open Go.RowKit (Below)
/-- The string of these bytes. -/
def bytesS (l : List Int) : ByteArray := l.foldl (fun r n => r.push (UInt8.ofNat n.toNat)) ByteArray.empty
section
variable {P : Program} {L : Lay} {base nt : Nat} {s : St} {o : Oper}
theorem str_ok (hL : LayOk P L) {src dst e : TypeId} {x : Operand} {a b c d : Nat} {zt zd : List Value} {y : Ty} (ho : o.op = .convert src dst x) (ht : ty L src = some ⟨.slice e, a, b, zt⟩) (hd : ty L dst = some ⟨.str, c, d, zd⟩) (hye : ty L e = some y) (hy : y.k = .int .u8)
    {n : Nat} {p : Prop} {rows : Nat → List D} (hsrc : psrc s.h (evalO s.fr x) = some (p, n, 1, rows)) (hp : p) {l : List Int} (hn : l.length = n) (hl : ∀ i, i < n → rows i = [.raw (.int .u8 (l.getD i 0))]) : PureOk P base nt o s (.raw (.string (bytesS l))) := by
  intro Z pl ac w r
  have hr := r.eval x
  obtain ⟨ad, cap, vs, S⟩ := psrc_ok r.o hr hsrc hp
  have hv := S.v
  refine ⟨_, .cl _ _ (.raw _), fun w' hw => ?_⟩
  have hval : ∀ i, i < n → vs i 0 = .int .u8 (l.getD i 0) := fun i hi => by
    have h1 := S.rel i 0 hi (by omega)
    rw [hl i hi] at h1
    exact inv_raw h1
  have hcv := run_convert_bytes_string (P := P) w' src dst e ad n cap (under_slice (hL _ _ ht) rfl) (under_int (hL _ _ hye) hy) (under_str (hL _ _ hd) rfl)
  have key : (Conv.bytesToString (.slice ad n cap)).run P w' = .ok (.string (bytesS l)) w' := by
    cases ad with
    | none =>
      have h0 : n = 0 := by
        rcases Nat.eq_zero_or_pos n with h | h
        · exact h
        · obtain ⟨_, _, hh, _⟩ := S.cell 0 0 h (by omega); cases hh
      have : l = [] := List.length_eq_zero_iff.1 (by omega)
      subst this
      subst h0; rfl
    | some a0 =>
      refine run_bytesToString w' a0 n cap l ?_
      have hcs : ∀ j v, (l.map (Value.int .u8))[j]? = some v → w'.cell? (a0.add j) = some v := fun j v hj => by
        have hj2 : j < n := by
          have h3 := (List.getElem?_eq_some_iff.1 hj).1
          rw [List.length_map, hn] at h3; exact h3
        obtain ⟨bb, q, hh, hc⟩ := S.cell j 0 hj2 (by omega)
        cases hh
        rw [List.getElem?_map, List.getElem?_eq_getElem (by omega)] at hj
        simp only [Option.map_some, Option.some.injEq] at hj
        subst hj
        have h4 := cell_ext hw hc
        rw [hval j hj2, List.getD_eq_getElem?_getD, List.getElem?_eq_getElem (by omega)] at h4
        simpa [add_mk] using h4
      have h5 := run_loadCells_list (P := P) (w := w') a0 (l.map (Value.int .u8)) hcs
      rw [List.length_map, hn] at h5
      simpa using h5
  simp [execOp, ho, hv, hcv, key]
end
section
variable {P : Program} {L : Lay} {base nt : Nat} {w0 : Start} {Q : Exit → St → Prop}
theorem kont_str (hL : LayOk P L) {k : List Item} {dst : Option Nat} {src dt e a b c d : Nat} {tyd : TypeId} {pos : String} {after : Array Edge} {gd : Option (Nat × Bool)} {r : List (Oper × G)} {s : St} {x : Operand} {zt zd : List Value} {y : Ty}
    (ht : ty L src = some ⟨.slice e, a, b, zt⟩) (hd : ty L dt = some ⟨.str, c, d, zd⟩) (hye : ty L e = some y) (hy : y.k = .int .u8) {n : Nat} {p : Prop} {rows : Nat → List D} (hsrc : psrc s.h (evalO s.fr x) = some (p, n, 1, rows)) (l : List Int) (hp : p ∧ l.length = n ∧ ∀ i, i < n → rows i = [.raw (.int .u8 (l.getD i 0))])
    (hdo : okO nt dst = true) (h1 : kont P base nt w0 Q (.ops r :: k) .normal ⟨putO s.fr dst (.raw (.string (bytesS l))), s.h⟩) :
    kont P base nt w0 Q (.ops ((⟨dst, .convert src dt x, tyd, pos, after, gd⟩, none) :: r) :: k) .normal s := by
  simp only [kont] at h1 ⊢
  exact AG_pure (str_ok hL rfl ht hd hye hy hsrc hp.1 hp.2.1 hp.2.2) hdo h1
theorem kont_str_nil (hL : LayOk P L) {k : List Item} {dst : Option Nat} {src dt e a b c d : Nat} {tyd : TypeId} {pos : String} {after : Array Edge} {gd : Option (Nat × Bool)} {r : List (Oper × G)} {s : St} {x : Operand} {zt zd : List Value} {y : Ty}
    (ht : ty L src = some ⟨.slice e, a, b, zt⟩) (hd : ty L dt = some ⟨.str, c, d, zd⟩) (hye : ty L e = some y) (hy : y.k = .int .u8) (hx : evalO s.fr x = .nil)
    (hdo : okO nt dst = true) (h1 : kont P base nt w0 Q (.ops r :: k) .normal ⟨putO s.fr dst (.raw (.string (bytesS []))), s.h⟩) :
    kont P base nt w0 Q (.ops ((⟨dst, .convert src dt x, tyd, pos, after, gd⟩, none) :: r) :: k) .normal s := by
  simp only [kont] at h1 ⊢
  refine AG_pure (?_ : PureOk P base nt _ s (.raw (.string (bytesS [])))) hdo h1
  intro Z pl ac w r
  have hr := r.eval x
  rw [hx] at hr
  obtain ⟨a0, hv⟩ := inv_nil hr
  refine ⟨_, .cl _ _ (.raw _), fun w' hw => ?_⟩
  have hcv := run_convert_bytes_string (P := P) w' src dt e a0 0 0 (under_slice (hL _ _ ht) rfl) (under_int (hL _ _ hye) hy) (under_str (hL _ _ hd) rfl)
  have key : (Conv.bytesToString (.slice a0 0 0)).run P w' = .ok (.string (bytesS [])) w' := by
    cases a0 with
    | none => rfl
    | some a1 =>
      refine run_bytesToString w' a1 0 0 [] ?_
      simp [loadCells, loadCellsFrom]
  simp [execOp, hv, hcv, key]
end

section
variable {Z : Nat → Prop}
/-- What is told of an object that is told as a value holds no more, and is no lie. -/
theorem RelV.stale {h : List Ob} {pl : List Pl} {w : World} {l : Nat} {o : Ob} {p : Pl} (ho : h[l]? = some o) (hp : pl[l]? = some p) (hk : o.kd.ty = 0) {d : D} {v : Value} (r : RelV Z h pl w d v) : RelV Z (h.set l o.gone) (pl.set l none) w d v := by
  have hpl : ∀ (l' : Nat), l' ≠ l → (pl.set l none)[l']? = pl[l']? := fun l' hl' => by rw [List.getElem?_set_ne (Ne.symm hl')]
  have haw : ∀ b, away pl b → away (pl.set l none) b := fun b hb l' q e => by
    by_cases e1 : l' = l
    · subst e1; rw [List.getElem?_set_self (ltp_of_some hp)] at e; cases e
    · rw [hpl l' e1] at e; exact hb l' q e
  have hfr : ∀ b, free Z pl b → free Z (pl.set l none) b := fun b hb => ⟨hb.1, haw b hb.2⟩
  have hself : (h.set l o.gone)[l]? = some o.gone := List.getElem?_set_self (lt_of_some ho)
  have hselfp : (pl.set l none)[l]? = some none := List.getElem?_set_self (ltp_of_some hp)
  induction r with
  | cl d v hc => exact .cl _ _ (hc.mono fun b hb _ => ⟨hfr b hb, rfl⟩)
  | ref l' g off len o' p' a cap ho' hp' hk' hg hs =>
    by_cases e : l' = l
    · subst e
      rw [ho] at ho'; cases ho'
      exact .ref _ g off len o.gone none a cap hself hselfp rfl (by simp [Ob.gone]; omega) (fun h1 => by simp [Ob.gone] at h1; omega)
    · exact .ref _ g off len o' p' a cap (by rw [List.getElem?_set_ne (Ne.symm e)]; exact ho') (by rw [hpl l' e]; exact hp') hk' hg hs
  | ptr l' g i j o' p' a ho' hp' hk' hg hs =>
    by_cases e : l' = l
    · subst e
      rw [ho] at ho'; cases ho'
      exact .ptr _ g i j o.gone none a hself hselfp rfl (by simp [Ob.gone]; omega) (fun h1 => by simp [Ob.gone] at h1; omega)
    · exact .ptr _ g i j o' p' a (by rw [List.getElem?_set_ne (Ne.symm e)]; exact ho') (by rw [hpl l' e]; exact hp') hk' hg hs
  | mref l' g o' p' b ho' hp' hk' hg hs =>
    by_cases e : l' = l
    · subst e
      rw [ho] at ho'; cases ho'
      exact absurd hk hk'.1
    · exact .mref _ g o' p' b (by rw [List.getElem?_set_ne (Ne.symm e)]; exact ho') (by rw [hpl l' e]; exact hp') hk' hg hs
  | clo f nf cs vs hl hr ih => exact .clo f nf cs vs hl ih
  | agg cs vs hl hr ih => exact .agg cs vs hl ih
  | tup cs vs hl hr ih => exact .tup cs vs hl ih
end

/-- Lent objects that are still of the generation in which they were lent. -/
def gensEq (F h : List Ob) : Prop := ∀ (l : Nat) (o : Ob), F[l]? = some o → ∃ o', h[l]? = some o' ∧ o'.gen = o.gen

/-- The rule, beside lent objects that are still where they were: the slice over the object l that slot t holds is told as a value. -/
theorem Weak.freezeAt {w0 : Start} (hF : w0.pl.length = w0.F.length) {fr : List (Nat × D)} {h : List Ob} (hgen : gensEq w0.F h) (t l : Nat) (hl : w0.F.length ≤ l) {o : Ob} {off len : Nat} (ht : get fr t = .ref l o.gen off len) (ho : h[l]? = some o) (hn : off + len ≤ o.n) (hk : o.kd.ty = 0) (hcl : ∀ i, i < o.n → (o.row i).all D.cl1 = true) :
    Weak w0 ⟨fr, h⟩ ⟨put fr t (.imm o.sz len (rowFrom off o.row)), h.set l o.gone⟩ := by
  intro Z z base nt pl a w r b
  have hlen : pl.length = h.length := r.o.len
  have hlp : l < pl.length := by have h1 := lt_of_some ho; omega
  have hp : pl[l]? = some pl[l] := List.getElem?_eq_getElem hlp
  generalize hpe : pl[l] = p at hp
  have hfresh : ∀ bb q : Nat, p = some (bb, q) → w0.w.heap.size ≤ bb := fun bb q e => by
    subst e
    rcases Nat.lt_or_ge bb w0.w.heap.size with hlt | hge
    · exfalso
      have hna : ¬ away w0.pl bb := fun ha => (b.2.1.old bb ha hlt).1 l q hp
      obtain ⟨l0, h1⟩ := Classical.not_forall.1 hna
      obtain ⟨q0, h2⟩ := Classical.not_forall.1 h1
      have h3 := Classical.not_not.1 h2
      have hl0 : l0 < w0.F.length := by rw [← hF]; exact ltp_of_some h3
      obtain ⟨o1, p1, k1, k2, k3, k4, k5⟩ := b.2.1.obj l0 _ _ (List.getElem?_eq_getElem hl0) h3
      obtain ⟨o2, k6, k7⟩ := hgen l0 _ (List.getElem?_eq_getElem hl0)
      rw [k6] at k1; cases k1
      obtain ⟨_, k8⟩ := k5 k7
      subst k8
      have := r.o.inj l0 l bb q0 q k2 hp
      omega
    · exact hge
  have hat : ∀ bb q, p = some (bb, q) → Z bb ∧ (∀ l' q', pl[l']? = some (some (bb, q')) → l' = l) ∧ CellsAt Z h pl w o bb q := fun bb q e => by
    have h1 := hfresh bb q e
    subst e
    exact ⟨b.2.2.own l bb q hp h1, fun l' q' e' => r.o.inj _ _ _ _ _ e' hp, (r.o.at_ l o bb q ho hp).2.cells hk⟩
  have hpl : ∀ (l' : Nat), l' ≠ l → (pl.set l none)[l']? = pl[l']? := fun l' hl' => by rw [List.getElem?_set_ne (Ne.symm hl')]
  have hself : (pl.set l none)[l]? = some none := List.getElem?_set_self hlp
  have hsub : ∀ l' bb q : Nat, (pl.set l none)[l']? = some (some (bb, q)) → l' ≠ l ∧ pl[l']? = some (some (bb, q)) := fun l' bb q e => by
    by_cases e1 : l' = l
    · subst e1; rw [hself] at e; cases e
    · exact ⟨e1, by rw [← hpl l' e1]; exact e⟩
  have hh : ∀ (l' : Nat) (o' : Ob), l' ≠ l → h[l']? = some o' → ∃ u : Ob, (h.set l o.gone)[l']? = some u ∧ u.gen = o'.gen ∧ u.sz = o'.sz ∧ u.kd.ty = o'.kd.ty := fun l' o' hne e =>
    ⟨o', by rw [List.getElem?_set_ne (Ne.symm hne)]; exact e, rfl, rfl, rfl⟩
  have K : Keep w0.F.length h pl (h.set l o.gone) (pl.set l none) := ⟨fun b' hb' l' q e => hb' l' q (hsub _ _ _ e).2, fun l' o' p' hl' ho' hp' => by
    have hne : l' ≠ l := by omega
    exact ⟨o', by rw [List.getElem?_set_ne (Ne.symm hne)]; exact ho', by rw [hpl l' hne]; exact hp', rfl, rfl, rfl⟩⟩
  refine ⟨pl.set l none, ⟨r.nt, r.defers, fun u => ?_, ⟨by simp [hlen], fun l1 l2 bb q q' e1 e2 => r.o.inj l1 l2 bb q q' (hsub _ _ _ e1).2 (hsub _ _ _ e2).2, fun l1 o1 h1 e1 => ?_, fun l1 o1 bb q h1 e1 => ?_⟩⟩, b.keep K⟩
  · show RelV Z _ _ w (get (put fr t _) u) _
    rw [get_put]
    by_cases e : u = t
    · subst e
      rw [if_pos rfl]
      have h1 := (r.fr u).fz ho hp hk hat hcl hh
      rw [ht] at h1
      have h2 : Nat.ble (off + len) o.n = true := by rw [Nat.ble_eq]; exact hn
      simpa only [D.fz, Nat.beq_refl, h2, Bool.and_self, cond_true] using h1
    · rw [if_neg e]; exact (r.fr u).stale ho hp hk
  · by_cases e2 : l1 = l
    · subst e2
      rw [List.getElem?_set_self (by omega)] at h1
      cases h1; rfl
    · rw [List.getElem?_set_ne (Ne.symm e2)] at h1
      rw [hpl l1 e2] at e1
      exact r.o.noRow l1 o1 h1 e1
  · obtain ⟨hne, e2⟩ := hsub _ _ _ e1
    rw [List.getElem?_set_ne (Ne.symm hne)] at h1
    obtain ⟨g1, x⟩ := r.o.at_ l1 o1 bb q h1 e2
    exact ⟨g1, x.to rfl rfl rfl rfl (fun i _ => rfl) fun i j v hi hj hr => hr.stale ho hp hk⟩

/-- The same, in all slots and objects at once. -/
theorem Weak.freezeB {w0 : Start} (hF : w0.pl.length = w0.F.length) {fr : List (Nat × D)} {h : List Ob} (hgen : gensEq w0.F h) (l : Nat) (hl : w0.F.length ≤ l) {o : Ob} (ho : h[l]? = some o) (hk : o.kd.ty = 0) (hcl : ∀ i, i < o.n → (o.row i).all D.cl1 = true) :
    Weak w0 ⟨fr, h⟩ ⟨fzFr l o.gen o.n o.sz o.row fr, (fzObs l o.gen o.n o.sz o.row h).set l o.gone⟩ := by
  intro Z z base nt pl a w r b
  have hlen : pl.length = h.length := r.o.len
  have hlp : l < pl.length := by have h1 := lt_of_some ho; omega
  have hp : pl[l]? = some pl[l] := List.getElem?_eq_getElem hlp
  generalize hpe : pl[l] = p at hp
  have hfresh : ∀ bb q : Nat, p = some (bb, q) → w0.w.heap.size ≤ bb := fun bb q e => by
    subst e
    rcases Nat.lt_or_ge bb w0.w.heap.size with hlt | hge
    · exfalso
      have hna : ¬ away w0.pl bb := fun ha => (b.2.1.old bb ha hlt).1 l q hp
      obtain ⟨l0, h1⟩ := Classical.not_forall.1 hna
      obtain ⟨q0, h2⟩ := Classical.not_forall.1 h1
      have h3 := Classical.not_not.1 h2
      have hl0 : l0 < w0.F.length := by rw [← hF]; exact ltp_of_some h3
      obtain ⟨o1, p1, k1, k2, k3, k4, k5⟩ := b.2.1.obj l0 _ _ (List.getElem?_eq_getElem hl0) h3
      obtain ⟨o2, k6, k7⟩ := hgen l0 _ (List.getElem?_eq_getElem hl0)
      rw [k6] at k1; cases k1
      obtain ⟨_, k8⟩ := k5 k7
      subst k8
      have := r.o.inj l0 l bb q0 q k2 hp
      omega
    · exact hge
  have hat : ∀ bb q, p = some (bb, q) → Z bb ∧ (∀ l' q', pl[l']? = some (some (bb, q')) → l' = l) ∧ CellsAt Z h pl w o bb q := fun bb q e => by
    have h1 := hfresh bb q e
    subst e
    exact ⟨b.2.2.own l bb q hp h1, fun l' q' e' => r.o.inj _ _ _ _ _ e' hp, (r.o.at_ l o bb q ho hp).2.cells hk⟩
  have hpl : ∀ (l' : Nat), l' ≠ l → (pl.set l none)[l']? = pl[l']? := fun l' hl' => by rw [List.getElem?_set_ne (Ne.symm hl')]
  have hself : (pl.set l none)[l]? = some none := List.getElem?_set_self hlp
  have hsub : ∀ l' bb q : Nat, (pl.set l none)[l']? = some (some (bb, q)) → l' ≠ l ∧ pl[l']? = some (some (bb, q)) := fun l' bb q e => by
    by_cases e1 : l' = l
    · subst e1; rw [hself] at e; cases e
    · exact ⟨e1, by rw [← hpl l' e1]; exact e⟩
  have hh : ∀ (l' : Nat) (o' : Ob), l' ≠ l → h[l']? = some o' → ∃ u, ((fzObs l o.gen o.n o.sz o.row h).set l o.gone)[l']? = some u ∧ u.gen = o'.gen ∧ u.sz = o'.sz ∧ u.kd.ty = o'.kd.ty := fun l' o' hne e =>
    ⟨o'.fz l o.gen o.n o.sz o.row, by rw [List.getElem?_set_ne (Ne.symm hne), fzObs_map, List.getElem?_map, e]; rfl, rfl, rfl, rfl⟩
  have K : Keep w0.F.length h pl ((fzObs l o.gen o.n o.sz o.row h).set l o.gone) (pl.set l none) := ⟨fun b' hb' l' q e => hb' l' q (hsub _ _ _ e).2, fun l' o' p' hl' ho' hp' => by
    have hne : l' ≠ l := by omega
    exact ⟨o'.fz l o.gen o.n o.sz o.row, by rw [List.getElem?_set_ne (Ne.symm hne), fzObs_map, List.getElem?_map, ho']; rfl, by rw [hpl l' hne]; exact hp', rfl, rfl, rfl⟩⟩
  refine ⟨pl.set l none, ⟨r.nt, r.defers, fun u => ?_, ⟨by simp [fzObs_map, hlen], fun l1 l2 bb q q' e1 e2 => r.o.inj l1 l2 bb q q' (hsub _ _ _ e1).2 (hsub _ _ _ e2).2, fun l1 o1 h1 e1 => ?_, fun l1 o1 bb q h1 e1 => ?_⟩⟩, b.keep K⟩
  · show RelV Z _ _ w (get (fzFr l o.gen o.n o.sz o.row fr) u) _
    rw [get_fzFr]
    exact (r.fr u).fz ho hp hk hat hcl hh
  · by_cases e2 : l1 = l
    · subst e2
      rw [List.getElem?_set_self (by rw [fzObs_map]; simp; omega)] at h1
      cases h1; rfl
    · rw [List.getElem?_set_ne (Ne.symm e2), fzObs_map, List.getElem?_map] at h1
      rw [hpl l1 e2] at e1
      obtain ⟨u, hu, rfl⟩ := Option.map_eq_some_iff.1 h1
      exact r.o.noRow l1 u hu e1
  · obtain ⟨hne, e2⟩ := hsub _ _ _ e1
    rw [List.getElem?_set_ne (Ne.symm hne), fzObs_map, List.getElem?_map] at h1
    obtain ⟨u, hu, rfl⟩ := Option.map_eq_some_iff.1 h1
    obtain ⟨g1, x⟩ := r.o.at_ l1 u bb q hu e2
    refine ⟨g1, x.to rfl rfl rfl rfl (fun i _ => fzL_length _ _ _ _ _ _) fun i j v hi hj hr => ?_⟩
    show RelV Z _ _ w (nth (fzL _ _ _ _ _ (u.row i)) j) v
    rw [nth_fzL _ _ _ _ _ _ _ hj]
    exact hr.fz ho hp hk hat hcl hh
mutual
/-- What names no object from k on is the same behind such a telling. -/
theorem upto_fz {k l g n sz : Nat} {row : Nat → List D} (hk : k ≤ l) : ∀ {d : D}, d.upto k = true → d.fz l g n sz row = d
  | .raw _, _ => rfl
  | .nil, _ => rfl
  | .undef, _ => rfl
  | .imm _ _ _, _ => rfl
  | .ip _, _ => rfl
  | .ref l' _ _ _, h => by
    simp only [D.upto, Nat.blt_eq] at h
    have : Nat.beq l' l = false := by rw [← Bool.not_eq_true, Nat.beq_eq]; omega
    simp only [D.fz, this, cond_false]
  | .ptr l' _ _ _, h => by
    simp only [D.upto, Nat.blt_eq] at h
    have : Nat.beq l' l = false := by rw [← Bool.not_eq_true, Nat.beq_eq]; omega
    simp only [D.fz, this, cond_false]
  | .mref l' _, h => by
    simp only [D.upto, Nat.blt_eq] at h
    have : Nat.beq l' l = false := by rw [← Bool.not_eq_true, Nat.beq_eq]; omega
    simp only [D.fz, this, cond_false]
  | .clo _ _ cs, h => by simp only [D.upto] at h; simp only [D.fz, uptoL_fz hk h]
  | .agg cs, h => by simp only [D.upto] at h; simp only [D.fz, uptoL_fz hk h]
  | .tup cs, h => by simp only [D.upto] at h; simp only [D.fz, uptoL_fz hk h]
theorem uptoL_fz {k l g n sz : Nat} {row : Nat → List D} (hk : k ≤ l) : ∀ {cs : List D}, uptoL k cs = true → fzL l g n sz row cs = cs
  | [], _ => rfl
  | d :: r, h => by
    simp only [uptoL, Bool.and_eq_true] at h
    simp only [fzL, upto_fz hk h.1, uptoL_fz hk h.2]
end
/-- What a call hands back, told otherwise, by what its value is. -/
theorem MFn.tellR {P : Program} {f : FuncId} {F : List Ob} {args : List D} {R R' : D → List Ob → Prop} (h : MFn P f F args R) (hr : ∀ d hh, R d hh → ∀ (Z : Nat → Prop) (pl : List Pl) (w : World) (v : Value), RelV Z hh pl w d v → ∃ d', RelV Z hh pl w d' v ∧ R' d' hh) : MFn P f F args R' := fun Z base w pl vs h1 h2 h3 hl hc =>
  (h Z base w pl vs h1 h2 h3 hl hc).mono fun _ _ ⟨v, d, hh, pl', k1, k2, k3, k4, k5⟩ => let ⟨d', e1, e2⟩ := hr d hh k2 _ _ _ v k4; ⟨v, d', hh, pl', k1, e2, k3, e1, k5⟩
/-- What a call hands back is let go. -/
theorem MFn.forget {P : Program} {f : FuncId} {F : List Ob} {args : List D} {R : D → List Ob → Prop} (k : Nat) (hk : F.length ≤ k) (h : MFn P f F args (fun _ h => obsUpto k (h.take k) ∧ R .undef (h.take k))) : MFn P f F args R := fun Z base w pl vs h1 h2 h3 hl hc =>
  (h Z base w pl vs h1 h2 h3 hl hc).mono fun _ _ ⟨v, d, hh, pl', k1, ⟨a2, a3⟩, k3, k4, k5, k6⟩ => ⟨v, .undef, hh.take k, pl'.take k, k1, a3, k3.take k a2, .cl _ _ (.undef _),
    k5.keep hk ⟨fun _ hb => take_away hb, fun l o p hl ho hp => ⟨o, by rw [List.getElem?_take, if_pos hl]; exact ho, by rw [List.getElem?_take, if_pos hl]; exact hp, rfl, rfl, rfl⟩⟩, k6⟩

/-- An object without rows more. -/
theorem Weak.ghost {w0 : Start} {fr : List (Nat × D)} {h : List Ob} (sz : Nat) (row : Nat → List D) : Weak w0 ⟨fr, h⟩ ⟨fr, h ++ [⟨.arr, 0, sz, 0, row⟩]⟩ := fun Z z base nt pl a w r b =>
  have T : Tr h pl w (h ++ [⟨.arr, 0, sz, 0, row⟩]) (pl ++ [none]) w := Tr.push r.o (fun _ _ => rfl) _ _ (by intro b q e; simp at e)
  ⟨pl ++ [none], ⟨r.nt, r.defers, fun u => (r.fr u).tr T, r.o.phantom _ rfl⟩, b.step T (Below.refl _ _)⟩
/-- A variable that holds a nil slice is told to hold a slice over an object without rows. -/
theorem Weak.nilRef {w0 : Start} {fr : List (Nat × D)} {h : List Ob} (l sz : Nat) {g : Nat} {row : Nat → List D} (ho : h[l]? = some ⟨.one, g, 1, 1, row⟩) (hr : row 0 = [.nil]) :
    Weak w0 ⟨fr, h⟩ ⟨fr, (h ++ [(⟨.arr, 0, sz, 0, fun _ => []⟩ : Ob)]).set l ⟨.one, g, 1, 1, fun _ => [.ref h.length 0 0 0]⟩⟩ := by
  intro Z z base nt pl a w r b
  have hlen : pl.length = h.length := r.o.len
  have R1 := r.o.phantom ⟨.arr, 0, sz, 0, fun _ => []⟩ rfl
  have T1 : Tr h pl w (h ++ [(⟨.arr, 0, sz, 0, fun _ => []⟩ : Ob)]) (pl ++ [none]) w := Tr.push r.o (fun _ _ => rfl) _ _ (by intro b q e; simp at e)
  have ho1 : (h ++ [(⟨.arr, 0, sz, 0, fun _ => []⟩ : Ob)])[l]? = some (⟨.one, g, 1, 1, row⟩ : Ob) := append_left_some ho
  have hlp : l < pl.length := by have h1 := lt_of_some ho; omega
  have hp : (pl ++ [none])[l]? = some pl[l] := append_left_some (List.getElem?_eq_getElem hlp)
  generalize hpe : pl[l] = p at hp
  have hph : (h ++ [(⟨.arr, 0, sz, 0, fun _ => []⟩ : Ob)])[h.length]? = some ⟨.arr, 0, sz, 0, fun _ => []⟩ := by simp
  cases p with
  | none => exact absurd (R1.noRow l _ ho1 hp) (by simp)
  | some p =>
    obtain ⟨bb, q⟩ := p
    obtain ⟨g1, x⟩ := R1.at_ l _ bb q ho1 hp
    obtain ⟨c, el, h2, h3, h4, h5⟩ := x.cells rfl
    have hll : l < h.length := lt_of_some ho
    have R2 := RelO.upd (w' := w) R1 ho1 hp (o' := ⟨.one, g, 1, 1, fun _ => [.ref h.length 0 0 0]⟩) rfl rfl rfl rfl (fun _ _ _ => rfl) h2 h2 rfl h3 (fun _ _ => rfl) (fun i j hi hj => by
      have hi0 : i = 0 := by have : i < 1 := hi; omega
      have hj0 : j = 0 := by have : j < 1 := hj; omega
      subst hi0; subst hj0
      obtain ⟨v, k1, k2⟩ := h5 0 0 Nat.zero_lt_one Nat.zero_lt_one
      refine ⟨v, k1, ?_⟩
      simp only [hr] at k2
      obtain ⟨a0, hv⟩ := inv_nil k2
      rw [hv]
      refine .ref _ _ _ _ ⟨.arr, 0, sz, 0, fun _ => []⟩ none a0 0 ?_ ?_ rfl (Nat.le_refl _) (fun _ => .inl ⟨rfl, rfl⟩)
      · rw [List.getElem?_set_ne (by omega)]; exact hph
      · rw [← hlen]; simp) rfl
    have T2 := Tr.upd (w' := w) R1 ho1 hp (o' := ⟨.one, g, 1, 1, fun _ => [.ref h.length 0 0 0]⟩) rfl rfl rfl (fun _ _ _ => rfl) (fun c el h => ⟨c, h, rfl⟩)
    have T := T1.trans T2
    exact ⟨pl ++ [none], ⟨r.nt, r.defers, fun u => (r.fr u).tr T, R2⟩, b.step T (Below.refl _ _)⟩
section
variable {P : Program} {base nt : Nat} {w0 : Start}
/-- A call within a region that draws, objects lent to be changed (the region's order is such that nothing else stands beside it). -/
theorem AX_callM (hbase : base ≤ w0.w.heap.size) (sel : List Nat) {K : St → Prop} {dst : Option Nat} {ty : TypeId} {after : Array Edge} {gd : Option (Nat × Bool)} {r : List (Bool × Oper × G)} {s : St} {x : Operand} {args : Array Operand} {tys : Array TypeId} {f : FuncId} {nf : Nat} {caps : List D} (hf : FnOk P f)
    (hx : calleeD (evalO s.fr x) = some (f, nf, caps)) {F : List Ob} {cs : List D} (hok : inB s.h.length sel = true ∧ nodupB sel = true ∧ obsAmong sel (pickObs s.h sel) ∧ amongL sel (argsD nf caps (args.toList.map (evalO s.fr))) = true ∧ argsEq (renL sel (argsD nf caps (args.toList.map (evalO s.fr)))) cs ∧ obsLe ((pickObs s.h sel).map (Ob.ren sel)) F)
    {R : D → List Ob → Prop} (hF : MFn P f F cs R) (ht : okO nt dst = true) (hk : ∀ d h, R d h → AX P base nt w0 K r ⟨putO s.fr dst (d.idx (backN s.h.length sel)), backObs s.h sel h⟩) :
    AX P base nt w0 K ((false, ⟨dst, .call ⟨.value x, args, tys⟩, ty, "!", after, gd⟩, none) :: r) s := by
  simp only [AX, AXo, lateT]
  obtain ⟨hb, hd, hobs, hargs, he, hle⟩ := hok
  intro Z z pl a w r b
  have hF2 := hF.args he
  have hF3 : MFn P f ((pickObs s.h sel).map (Ob.ren sel)) (renL sel (argsD nf caps (args.toList.map (evalO s.fr)))) R := by
    intro Z base w pl vs h1 h2 h3 hl hc
    have hw := Wk.obs (m := F.length) (fr := []) hle
    obtain ⟨pl', r', K⟩ := hw Z base 0 pl { tmps := #[], defers := [] } w ⟨rfl, rfl, fun t => .cl _ _ (.undef _), h3⟩
    obtain ⟨e1, e2⟩ := obsLe_get hle
    refine (hF2 Z base w pl vs h1 h2 ?_ hl (fun i hi => (hc i hi).obs hle)).mono fun e w' ⟨v, d, h, pl', k1, k2, k3, k4, k5, k6⟩ => ⟨v, d, h, pl', k1, k2, k3, k4, ?_, k6⟩
    · refine ⟨by rw [e1]; exact h3.len, h3.inj, fun l o' ho hp => ?_, fun l o' b q ho hp => ?_⟩
      · obtain ⟨o, g3, g4⟩ := e2 l o' ho
        rw [g4.2.2.1]; exact h3.noRow l o g3 hp
      · obtain ⟨o, g3, g4, g5, g6, g8, g7⟩ := e2 l o' ho
        obtain ⟨g1, x⟩ := h3.at_ l o b q g3 hp
        exact ⟨fun hr => g1 (by rw [← g8.2, hr]), x.to g8.1 g5 g6 rfl (fun i hi => by rw [g7 i hi]) fun i j v hi _ hr => by rw [g7 i hi]; exact hr.obs hle⟩
    · have key : ∀ (l : Nat) (o : Ob), ((pickObs s.h sel).map (Ob.ren sel))[l]? = some o → ∃ o', F[l]? = some o' ∧ obLe o o' := fun l o e => by
        have : l < F.length := by rw [e1]; exact lt_of_some e
        obtain ⟨o2, g3, g4⟩ := e2 l _ (List.getElem?_eq_getElem this)
        rw [e] at g3; cases g3
        exact ⟨_, List.getElem?_eq_getElem this, g4⟩
      refine ⟨k5.old, fun l o p ho hp => ?_, fun l o o'' b q ho ho'' hg hp c el hc => ?_⟩
      · obtain ⟨o1, g1, g2, g3, g4, g5, g6⟩ := key l o ho
        obtain ⟨o', p', t1, t2, t3, t4, t5⟩ := k5.obj l o1 p g1 hp
        exact ⟨o', p', t1, t2, by omega, by rw [t4, g5.1], fun x => by obtain ⟨y1, y2⟩ := t5 (by omega); exact ⟨by rw [y1, g3], y2⟩⟩
      · obtain ⟨o1, g1, g2, g3, g4, g5, g6⟩ := key l o ho
        exact k5.shape l o1 o'' b q g1 ho'' (by omega) hp c el hc
  exact Oper.wp_mono (fun a' w' ⟨_, d, h, pl', hR, r', b', T, v, e⟩ => ⟨fun hc => absurd hc (by simp [calmS]), _, _, pl', v, hk d h hR, r', b', T, e⟩) (callM_wp hbase hf rfl hx sel hb hd hobs hargs hF3 ht z pl a w r b _)
end
/-- The walk of a function that is lent objects; as many places are told as objects. -/
theorem MFn_hxkL (k : Nat) {P : Program} {X : Cx} (hX : CxOk P X) {f : FuncId} {fn : Func} {c : Code} (n : Nat) (hf : P.funcs[f]? = some fn) (hb : fn.body = some c) {F : List Ob} (hk : Nat.ble F.length k = true) {args : List D} {R : D → List Ob → Prop} {nt : Nat} {rs : Array ResultVar} (hnt : fn.ntmps = nt) (hrs : fn.results = rs) (hn : Nat.ble args.length nt = true)
    (h : ∀ (base : Nat) (w : World) (pl : List Pl), base ≤ w.heap.size → pl.length = F.length → hx P base ⟨w, F, pl⟩ (Post X.L rs.toList (Kept k R)) X nt n [.code c] ⟨initFr args 0, F⟩) : MFn P f F args R :=
  MFn.take k (Nat.le_of_ble_eq_true hk) (MFn_of' hX n hf hb hnt (Nat.le_of_ble_eq_true hn) (by subst hrs; exact fun base w pl hb hl => h base w pl hb hl))
section
variable {P : Program} {base nt : Nat} {w0 : Start} {Q : Exit → St → Prop}
/-- What a slot holds, if it is a slice, is some slice, whatever it leans on. -/
theorem kont_rawSlice (t : Nat) {l g off len : Nat} {c : Code} {k : List Item} {s : St} (hd : get s.fr t = .ref l g off len) (h : ∀ a n cp, kont P base nt w0 Q (.code c :: k) .normal ⟨put s.fr t (.raw (.slice a n cp)), s.h⟩) : kont P base nt w0 Q (.code c :: k) .normal s := by
  simp only [kont] at h ⊢
  intro Z z pl a w r b
  have hr := r.fr t
  rw [hd] at hr
  obtain ⟨o, p, ad, cap, hv, _⟩ := inv_ref hr
  refine h ad len cap Z z pl a w ⟨r.nt, r.defers, fun u => ?_, r.o⟩ b
  show RelV Z s.h pl w (get (put s.fr t _) u) _
  rw [get_put]
  by_cases e : u = t
  · subst e; rw [if_pos rfl, hv]; exact .cl _ _ (.raw _)
  · rw [if_neg e]; exact r.fr u
end
section
variable {P : Program} {base nt : Nat} {w0 : Start} {Q : Exit → St → Prop}
/-- The same of what a variable holds. -/
theorem kont_rawOb (l j : Nat) {o : Ob} {l' g off len : Nat} {c : Code} {k : List Item} {s : St} (ho : s.h[l]? = some o) (hk : o.kd.ty = 0) (hn : o.n = 1) (hj : nth (o.row 0) j = .ref l' g off len) (hjs : j < o.sz)
    (h : ∀ a n cp, kont P base nt w0 Q (.code c :: k) .normal ⟨s.fr, s.h.set l ⟨o.kd, o.gen, o.sz, o.n, fun _ => (o.row 0).set j (.raw (.slice a n cp))⟩⟩) : kont P base nt w0 Q (.code c :: k) .normal s := by
  simp only [kont] at h ⊢
  intro Z z pl a w r b
  have hlen : pl.length = s.h.length := r.o.len
  have hlp : l < pl.length := by have h1 := lt_of_some ho; omega
  have hp : pl[l]? = some pl[l] := List.getElem?_eq_getElem hlp
  generalize hpe : pl[l] = p at hp
  cases p with
  | none => exact absurd (r.o.noRow l _ ho hp) (by omega)
  | some p =>
    obtain ⟨bb, q⟩ := p
    obtain ⟨g1, x⟩ := r.o.at_ l _ bb q ho hp
    obtain ⟨cs, el, h2, h3, h4, h5⟩ := x.cells hk
    obtain ⟨v0, k1, k2⟩ := h5 0 j (by omega) hjs
    rw [hj] at k2
    obtain ⟨o9, p9, ad, cap, hv, _⟩ := inv_ref k2
    have h40 := h4 0 (by omega)
    have T2 := Tr.upd (w' := w) r.o ho hp (o' := ⟨o.kd, o.gen, o.sz, o.n, fun _ => (o.row 0).set j (.raw (.slice ad len cap))⟩) rfl rfl rfl (fun _ _ _ => rfl) (fun c el h => ⟨c, h, rfl⟩)
    have R2 := RelO.upd (w' := w) r.o ho hp (o' := ⟨o.kd, o.gen, o.sz, o.n, fun _ => (o.row 0).set j (.raw (.slice ad len cap))⟩) hk hk rfl rfl (fun _ _ _ => rfl) h2 h2 rfl h3 (fun _ _ => by simpa using h40) (fun i k' hi hk' => by
      have hi0 : i = 0 := by have : i < o.n := hi; omega
      subst hi0
      obtain ⟨v, e1, e2⟩ := h5 0 k' (by omega) hk'
      refine ⟨v, e1, ?_⟩
      by_cases e : j = k'
      · subst e
        rw [e1] at k1; cases k1
        have : nth ((o.row 0).set j (.raw (.slice ad len cap))) j = .raw (.slice ad len cap) := by
          simp only [nth, List.getD_eq_getElem?_getD]
          rw [List.getElem?_set_self (by omega)]; rfl
        rw [this, hv]
        exact .cl _ _ (.raw _)
      · have : nth ((o.row 0).set j (.raw (.slice ad len cap))) k' = nth (o.row 0) k' := by
          simp only [nth, List.getD_eq_getElem?_getD]
          rw [List.getElem?_set_ne e]
        rw [this]
        exact e2.tr T2) rfl
    exact h ad len cap Z z pl a w ⟨r.nt, r.defers, fun u => (r.fr u).tr T2, R2⟩ (b.step T2 (Below.refl _ _))
end
/-- A closed value of one cell names no object. -/
theorem cl1_upto {d : D} (h : d.cl1 = true) (k : Nat) : d.upto k = true := by cases d <;> first | rfl | cases h
theorem cl1_among {d : D} (h : d.cl1 = true) (l : List Nat) : d.among l = true := by cases d <;> first | rfl | cases h
theorem cl1_ren {d : D} (h : d.cl1 = true) (l : List Nat) : d.ren l = d := by cases d <;> first | rfl | cases h
theorem cl1_idx {d : D} (h : d.cl1 = true) (f : Nat → Nat) : d.idx f = d := by cases d <;> first | rfl | cases h
end Go.Fg
namespace Go.Fg
set_option linter.unusedSimpArgs false
set_option linter.unusedVariables false
section
variable {P : Program} {base nt : Nat} {w0 : Start} {Q : Exit → St → Prop} {k : List Item} {s : St}
def TurnQ (P : Program) (base nt : Nat) (w0 : Start) (Q : Exit → St → Prop) (k : List Item) (c : Code) : Nat → Exit → St → Prop
  | 0, .normal, _ => False
  | n + 1, .normal, s => kont P base nt w0 (TurnQ P base nt w0 Q k c n) [.code c] .normal s
  | _, e, s => kont P base nt w0 Q k e s
@[go_sem] theorem TurnQ_normal {c : Code} {n : Nat} : TurnQ P base nt w0 Q k c (n + 1) .normal s = kont P base nt w0 (TurnQ P base nt w0 Q k c n) [.code c] .normal s := eqOf rfl
@[go_sem] theorem TurnQ_exit {c : Code} {n j : Nat} : TurnQ P base nt w0 Q k c n (.exit j) s = kont P base nt w0 Q k (.exit j) s := eqOf (by cases n <;> rfl)
@[go_sem] theorem TurnQ_ret {c : Code} {n : Nat} : TurnQ P base nt w0 Q k c n .ret s = kont P base nt w0 Q k .ret s := eqOf (by cases n <;> rfl)
theorem kont_turns (n : Nat) {c : Code} (h : kont P base nt w0 (TurnQ P base nt w0 Q k c n) [.code c] .normal s) : kont P base nt w0 Q (.code (.loop c) :: k) .normal s := by
  simp only [kont]
  intro Z z pl a w r b
  refine wp_loop_rounds (n + 1) ?_
  induction n generalizing s pl a w with
  | zero =>
    simp only [kont] at h
    rw [rounds_succ]
    refine Code.wp_mono (fun e a w q => ?_) (h Z z pl a w r b)
    obtain ⟨s', pl', h1, h2, h3⟩ := q
    cases e with
    | normal => exact h1.elim
    | _ => exact ⟨s', pl', h1, h2, h3⟩
  | succ n ih =>
    simp only [kont] at h
    rw [rounds_succ]
    refine Code.wp_mono (fun e a w q => ?_) (h Z z pl a w r b)
    obtain ⟨s', pl', h1, h2, h3⟩ := q
    cases e with
    | normal => exact ih h1 pl' a w h2 h3
    | _ => exact ⟨s', pl', h1, h2, h3⟩
end
end Go.Fg
/- Strings as lists of bytes; what goes through the fields of a script, and a medium that it goes through. No conditions: definitions and laws. -/
namespace Go.Fg.X
set_option linter.unusedSimpArgs false
set_option linter.unusedVariables false
open Go.Proofs Go.Fg
set_option maxRecDepth 100000
@[go_sem] theorem wrapL0 : IntKind.i64.wrap 0 = 0 := by decide
@[go_sem] theorem wrapL1 : IntKind.i64.wrap 1 = 1 := by decide
@[go_sem] theorem wrapL2 : IntKind.i64.wrap 2 = 2 := by decide
@[go_sem] theorem wrapL3 : IntKind.i64.wrap 3 = 3 := by decide
@[go_sem] theorem wrapL4 : IntKind.i64.wrap 4 = 4 := by decide
@[go_sem] theorem wrapL5 : IntKind.i64.wrap 5 = 5 := by decide
@[go_sem] theorem wrapL6 : IntKind.i64.wrap 6 = 6 := by decide
@[go_sem] theorem wrapL7 : IntKind.i64.wrap 7 = 7 := by decide
@[go_sem] theorem wrapL8 : IntKind.i64.wrap 8 = 8 := by decide
@[go_sem] def du64 (n : Int) : D := .raw (.int .u64 n)
@[go_sem] def du16 (n : Int) : D := .raw (.int .u16 n)
@[go_sem] def dstr (l : List Int) : D := .raw (.string (bytesS l))
def Bytes (l : List Int) : Prop := ∀ x ∈ l, 0 ≤ x ∧ x < 256
theorem foldl_push (l : List Int) : ∀ b : ByteArray, (l.foldl (fun r n => r.push (UInt8.ofNat n.toNat)) b).data.toList = b.data.toList ++ l.map fun n => UInt8.ofNat n.toNat := by
  induction l with
  | nil => intro b; simp
  | cons x l ih => intro b; simp only [List.foldl_cons, ih]; simp [ByteArray.push]
theorem bytesS_list (l : List Int) : (bytesS l).data.toList = l.map fun n => UInt8.ofNat n.toNat := by
  rw [bytesS, foldl_push]; rfl
theorem bytesS_size (l : List Int) : (bytesS l).size = l.length := by
  have h := congrArg List.length (bytesS_list l)
  rw [List.length_map] at h
  exact h
theorem ba_ext {a b : ByteArray} (h : a.data.toList = b.data.toList) : a = b := by
  cases a; cases b; congr 1; exact Array.toList_inj.1 h
theorem bytesS_get {l : List Int} (h : Bytes l) (i : Nat) (hi : i < l.length) : (((bytesS l).data.getD i 0).toNat : Int) = l.getD i 0 := by
  have h1 := bytesS_list l
  have h2 : (bytesS l).data.getD i 0 = UInt8.ofNat (l.getD i 0).toNat := by
    rw [Array.getD_eq_getD_getElem?, ← Array.getElem?_toList, h1, List.getElem?_map, List.getElem?_eq_getElem hi]
    simp [List.getD_eq_getElem?_getD, hi]
  have h3 := h _ (getD_mem l 0 i hi)
  rw [h2, UInt8.toNat_ofNat']
  omega
theorem bytesS_extract (l : List Int) (a b : Nat) : (bytesS l).extract a b = bytesS ((l.take b).drop a) := by
  apply ba_ext
  rw [bytesS_list]
  simp only [ByteArray.data_extract, Array.toList_extract, bytesS_list, List.extract, List.map_drop, List.map_take]
  rw [List.drop_take]
theorem bytesS_app (l m : List Int) : bytesS l ++ bytesS m = bytesS (l ++ m) := by
  apply ba_ext
  rw [bytesS_list]
  simp [ByteArray.append_eq, ByteArray.data_append, bytesS_list]
def listS (b : ByteArray) : List Int := b.data.toList.map fun n => (n.toNat : Int)
theorem listS_bytes (b : ByteArray) : Bytes (listS b) := by
  intro x hx
  obtain ⟨n, _, rfl⟩ := List.mem_map.1 hx
  have := n.toNat_lt
  omega
theorem bytesS_listS (b : ByteArray) : bytesS (listS b) = b := by
  apply ba_ext
  rw [bytesS_list, listS, List.map_map]
  conv => rhs; rw [← List.map_id b.data.toList]
  apply List.map_congr_left
  intro n _
  simp
theorem listS_bytesS {l : List Int} (h : Bytes l) : listS (bytesS l) = l := by
  rw [listS, bytesS_list, List.map_map]
  conv => rhs; rw [← List.map_id l]
  apply List.map_congr_left
  intro n hn
  have := h n hn
  simp only [Function.comp_apply, UInt8.toNat_ofNat', id]
  omega
theorem bytesS_inj {l m : List Int} (hl : Bytes l) (hm : Bytes m) (h : bytesS l = bytesS m) : l = m := by
  rw [← listS_bytesS hl, ← listS_bytesS hm, h]

/-- What goes through fields: a field's number, its bytes, its limits; or it asks whether there was an error. -/
inductive Prog (α : Type) where
  | ret (a : α)
  | fld (v : Int) (k : Nat) (least most : Int) (c : Int → Prog α)
  | chk (c : Bool → Prog α)
def Prog.bind {α β : Type} : Prog α → (α → Prog β) → Prog β
  | .ret a, f => f a
  | .fld v k l m c, f => .fld v k l m fun x => (c x).bind f
  | .chk c, f => .chk fun x => (c x).bind f
structure Med where
  σ : Type
  f : FuncId
  err : σ → Int
  step : σ → Int → Nat → Int → Int → σ × Int
  used : σ → Nat
  inv : σ → Prop
  o2 : σ → Ob
  o3 : σ → Ob
  keep : Bool
  among2 : ∀ s i, amongL [0, 1, 2, 3] ((o2 s).row i) = true
  among2b : ∀ s i, amongL [0, 1, 2, 3, 4] ((o2 s).row i) = true
  among3 : ∀ s i, amongL [0, 1, 2, 3] ((o3 s).row i) = true
  among3b : ∀ s i, amongL [0, 1, 2, 3, 4] ((o3 s).row i) = true
  upto2 : ∀ s i, uptoL 4 ((o2 s).row i) = true
  upto3 : ∀ s i, uptoL 4 ((o3 s).row i) = true
  ren2 : ∀ s i, renL [0, 1, 2, 3] ((o2 s).row i) = (o2 s).row i
  ren2b : ∀ s i, renL [0, 1, 2, 3, 4] ((o2 s).row i) = (o2 s).row i
  ren3 : ∀ s i, renL [0, 1, 2, 3] ((o3 s).row i) = (o3 s).row i
  ren3b : ∀ s i, renL [0, 1, 2, 3, 4] ((o3 s).row i) = (o3 s).row i
  idx2 : ∀ s n i, idxL (backN n [0, 1, 2, 3]) ((o2 s).row i) = (o2 s).row i
  idx2b : ∀ s n i, idxL (backN n [0, 1, 2, 3, 4]) ((o2 s).row i) = (o2 s).row i
  idx3 : ∀ s n i, idxL (backN n [0, 1, 2, 3]) ((o3 s).row i) = (o3 s).row i
  idx3b : ∀ s n i, idxL (backN n [0, 1, 2, 3, 4]) ((o3 s).row i) = (o3 s).row i
  gen2 : keep = true → ∀ s t, (o2 s).gen = (o2 t).gen
  gen3 : keep = true → ∀ s t, (o3 s).gen = (o3 t).gen
  fok : FnOk Try.prog f
  rng : ∀ s v k l m, (step s v k l m).2 = 0 ∨ (l ≤ (step s v k l m).2 ∧ (step s v k l m).2 ≤ m)
  use : ∀ s v k l m, used (step s v k l m).1 ≤ used s + k
  kept : ∀ s v k l m, inv s → inv (step s v k l m).1
  ok : ∀ s v (k : Nat) l m, inv s → used s + 8 ≤ 4294967296 → 1 ≤ k → k ≤ 8 → 0 ≤ l → 0 ≤ v → v < 18446744073709551616 →
    MFn Try.prog f [⟨.one, 0, 1, 1, fun _ => [.ptr 1 0 0 0]⟩, ⟨.one, 0, 2, 1, fun _ => [.clo f 0 [.ptr 0 0 0 0, .ptr 2 0 0 0], dint (err s)]⟩, o2 s, o3 s] [du64 v, dint k, du64 l, du64 m, .ptr 0 0 0 0, .ptr 2 0 0 0]
      (fun d h => d = du64 (step s v k l m).2 ∧ h = [⟨.one, 0, 1, 1, fun _ => [.ptr 1 0 0 0]⟩, ⟨.one, 0, 2, 1, fun _ => [.clo f 0 [.ptr 0 0 0 0, .ptr 2 0 0 0], dint (err (step s v k l m).1)]⟩, o2 (step s v k l m).1, o3 (step s v k l m).1])
@[go_sem] def Med.hp (M : Med) (s : M.σ) : List Ob := [⟨.one, 0, 1, 1, fun _ => [.ptr 1 0 0 0]⟩, ⟨.one, 0, 2, 1, fun _ => [.clo M.f 0 [.ptr 0 0 0 0, .ptr 2 0 0 0], dint (M.err s)]⟩, M.o2 s, M.o3 s]
@[go_sem] theorem Med.eta2 (M : Med) (s : M.σ) : (⟨(M.o2 s).kd, (M.o2 s).gen, (M.o2 s).sz, (M.o2 s).n, fun i => (M.o2 s).row i⟩ : Ob) = M.o2 s := rfl
@[go_sem] theorem Med.eta3 (M : Med) (s : M.σ) : (⟨(M.o3 s).kd, (M.o3 s).gen, (M.o3 s).sz, (M.o3 s).n, fun i => (M.o3 s).row i⟩ : Ob) = M.o3 s := rfl
attribute [go_sem] Med.among2b Med.among3b Med.ren2b Med.ren3b Med.idx2b Med.idx3b Med.among2 Med.among3 Med.ren2 Med.ren3 Med.idx2 Med.idx3 Med.upto2 Med.upto3
mutual
theorem upto_mono {k k' : Nat} (hk : k ≤ k') : ∀ {d : D}, d.upto k = true → d.upto k' = true
  | .raw _, _ => rfl
  | .nil, _ => rfl
  | .undef, _ => rfl
  | .imm _ _ _, _ => rfl
  | .ip _, _ => rfl
  | .ref _ _ _ _, h => by simp only [D.upto, Nat.blt_eq] at h ⊢; omega
  | .ptr _ _ _ _, h => by simp only [D.upto, Nat.blt_eq] at h ⊢; omega
  | .mref _ _, h => by simp only [D.upto, Nat.blt_eq] at h ⊢; omega
  | .clo _ _ cs, h => by simp only [D.upto] at h ⊢; exact uptoL_mono hk h
  | .agg cs, h => by simp only [D.upto] at h ⊢; exact uptoL_mono hk h
  | .tup cs, h => by simp only [D.upto] at h ⊢; exact uptoL_mono hk h
theorem uptoL_mono {k k' : Nat} (hk : k ≤ k') : ∀ {cs : List D}, uptoL k cs = true → uptoL k' cs = true
  | [], _ => rfl
  | d :: r, h => by
    simp only [uptoL, Bool.and_eq_true] at h ⊢
    exact ⟨upto_mono hk h.1, uptoL_mono hk h.2⟩
end
@[go_sem] theorem Med.upto2_5 (M : Med) (s : M.σ) (i : Nat) : uptoL 5 ((M.o2 s).row i) = true := uptoL_mono (by decide) (M.upto2 s i)
@[go_sem] theorem Med.upto3_5 (M : Med) (s : M.σ) (i : Nat) : uptoL 5 ((M.o3 s).row i) = true := uptoL_mono (by decide) (M.upto3 s i)
@[go_sem] theorem Med.upto2_6 (M : Med) (s : M.σ) (i : Nat) : uptoL 6 ((M.o2 s).row i) = true := uptoL_mono (by decide) (M.upto2 s i)
@[go_sem] theorem Med.upto3_6 (M : Med) (s : M.σ) (i : Nat) : uptoL 6 ((M.o3 s).row i) = true := uptoL_mono (by decide) (M.upto3 s i)
@[go_sem] theorem Med.upto2_7 (M : Med) (s : M.σ) (i : Nat) : uptoL 7 ((M.o2 s).row i) = true := uptoL_mono (by decide) (M.upto2 s i)
@[go_sem] theorem Med.upto3_7 (M : Med) (s : M.σ) (i : Nat) : uptoL 7 ((M.o3 s).row i) = true := uptoL_mono (by decide) (M.upto3 s i)
@[go_sem] theorem Med.upto2_8 (M : Med) (s : M.σ) (i : Nat) : uptoL 8 ((M.o2 s).row i) = true := uptoL_mono (by decide) (M.upto2 s i)
@[go_sem] theorem Med.upto3_8 (M : Med) (s : M.σ) (i : Nat) : uptoL 8 ((M.o3 s).row i) = true := uptoL_mono (by decide) (M.upto3 s i)
@[go_sem] theorem Med.upto2_9 (M : Med) (s : M.σ) (i : Nat) : uptoL 9 ((M.o2 s).row i) = true := uptoL_mono (by decide) (M.upto2 s i)
@[go_sem] theorem Med.upto3_9 (M : Med) (s : M.σ) (i : Nat) : uptoL 9 ((M.o3 s).row i) = true := uptoL_mono (by decide) (M.upto3 s i)
def Prog.run {α : Type} (M : Med) : Prog α → M.σ → M.σ × α
  | .ret a, s => (s, a)
  | .fld v k l m c, s => (c (M.step s v k l m).2).run M (M.step s v k l m).1
  | .chk c, s => (c (M.err s != 0)).run M s
theorem Prog.run_bind {α β : Type} (M : Med) (f : α → Prog β) : ∀ (p : Prog α) (s : M.σ), (p.bind f).run M s = (f (p.run M s).2).run M (p.run M s).1
  | .ret _, _ => rfl
  | .fld _ _ _ _ c, s => by simp only [Prog.bind, Prog.run]; exact Prog.run_bind M f (c _) _
  | .chk c, s => by simp only [Prog.bind, Prog.run]; exact Prog.run_bind M f (c _) _
theorem Prog.run_ret {α : Type} (M : Med) (a : α) (s : M.σ) : (Prog.ret a).run M s = (s, a) := rfl
theorem Prog.run_fld {α : Type} (M : Med) (v : Int) (k : Nat) (l m : Int) (c : Int → Prog α) (s : M.σ) : (Prog.fld v k l m c).run M s = (c (M.step s v k l m).2).run M (M.step s v k l m).1 := rfl
theorem Prog.run_chk {α : Type} (M : Med) (c : Bool → Prog α) (s : M.σ) : (Prog.chk c).run M s = (c (M.err s != 0)).run M s := rfl
/-- It goes through at most n fields. -/
def Prog.Fits {α : Type} : Prog α → Nat → Prop
  | .ret _, _ => True
  | .fld _ k l m c, n => k ≤ 8 ∧ 8 ≤ n ∧ ∀ v, v = 0 ∨ (l ≤ v ∧ v ≤ m) → (c v).Fits (n - 8)
  | .chk c, n => ∀ b, (c b).Fits n
theorem Prog.use {α : Type} (M : Med) : ∀ (p : Prog α) (n : Nat) (s : M.σ), p.Fits n → M.used (p.run M s).1 ≤ M.used s + n
  | .ret _, n, s, _ => by simp [Prog.run]
  | .fld v k l m c, n, s, h => by
    have h1 := Prog.use M (c (M.step s v k l m).2) (n - 8) (M.step s v k l m).1 (h.2.2 _ (M.rng s v k l m))
    have h2 := M.use s v k l m
    have h3 := h.1
    have h4 := h.2.1
    simp only [Prog.run]; omega
  | .chk c, n, s, h => Prog.use M (c _) n s (h _)
theorem Prog.kept {α : Type} (M : Med) : ∀ (p : Prog α) (s : M.σ), M.inv s → M.inv (p.run M s).1
  | .ret _, s, h => h
  | .fld v k l m c, s, h => Prog.kept M (c _) _ (M.kept s v k l m h)
  | .chk c, s, h => Prog.kept M (c _) s h
theorem Prog.fits_le {α : Type} : ∀ (p : Prog α) {n n' : Nat}, p.Fits n → n ≤ n' → p.Fits n'
  | .ret _, _, _, _, _ => trivial
  | .fld _ _ _ _ c, _, _, h, hn => ⟨h.1, by have := h.2.1; omega, fun v hv => Prog.fits_le (c v) (h.2.2 v hv) (by omega)⟩
  | .chk c, _, _, h, hn => fun b => Prog.fits_le (c b) (h b) hn
theorem Prog.fits_bind {α β : Type} (f : α → Prog β) (m : Nat) (hf : ∀ a, (f a).Fits m) : ∀ (p : Prog α) (n : Nat), p.Fits n → (p.bind f).Fits (n + m)
  | .ret a, n, _ => Prog.fits_le _ (hf a) (by omega)
  | .fld _ _ _ _ c, n, h => ⟨h.1, by have := h.2.1; omega, fun v hv => by
      have h1 := Prog.fits_bind f m hf (c v) (n - 8) (h.2.2 v hv)
      have h2 := h.2.1
      rw [show n + m - 8 = n - 8 + m by omega]; exact h1⟩
  | .chk c, n, h => fun b => Prog.fits_bind f m hf (c b) n (h b)
end Go.Fg.X
/- The coder's methods for numbers, walked: bits, word, num. No conditions. -/
namespace Go.Fg.X
set_option linter.unusedSimpArgs false
set_option linter.unusedVariables false
open Go.Proofs Go.Fg
set_option maxRecDepth 100000
theorem bits1 : AFn Try.prog 124 [dint 1] (Ret (du64 255)) := by
  refine AFn_hxk 0 cx_ok 200 Try.func124 rfl Try.ntmps124 Try.results124 rfl fun base w hb => ?_
  simp only [go_sem, Nat.reduceAdd, Nat.reduceSub, Nat.reduceMul, Nat.reduceBEq, Nat.reduceLT, Nat.reduceLeDiff, Nat.reduceEqDiff, Int.reduceToNat, Int.reduceLE, Int.reduceLT, Int.reduceAdd, Int.reduceSub, Int.reduceNeg, Int.reduceBEq, Int.reduceBNe, Nat.reduceBNe, Nat.reduceDiv, Nat.reduceMod]
  exact ⟨by decide, rfl⟩
theorem bits2 : AFn Try.prog 124 [dint 2] (Ret (du64 65535)) := by
  refine AFn_hxk 0 cx_ok 200 Try.func124 rfl Try.ntmps124 Try.results124 rfl fun base w hb => ?_
  simp only [go_sem, Nat.reduceAdd, Nat.reduceSub, Nat.reduceMul, Nat.reduceBEq, Nat.reduceLT, Nat.reduceLeDiff, Nat.reduceEqDiff, Int.reduceToNat, Int.reduceLE, Int.reduceLT, Int.reduceAdd, Int.reduceSub, Int.reduceNeg, Int.reduceBEq, Int.reduceBNe, Nat.reduceBNe, Nat.reduceDiv, Nat.reduceMod]
  exact ⟨by decide, rfl⟩
theorem bits4 : AFn Try.prog 124 [dint 4] (Ret (du64 4294967295)) := by
  refine AFn_hxk 0 cx_ok 200 Try.func124 rfl Try.ntmps124 Try.results124 rfl fun base w hb => ?_
  simp only [go_sem, Nat.reduceAdd, Nat.reduceSub, Nat.reduceMul, Nat.reduceBEq, Nat.reduceLT, Nat.reduceLeDiff, Nat.reduceEqDiff, Int.reduceToNat, Int.reduceLE, Int.reduceLT, Int.reduceAdd, Int.reduceSub, Int.reduceNeg, Int.reduceBEq, Int.reduceBNe, Nat.reduceBNe, Nat.reduceDiv, Nat.reduceMod]
  exact ⟨by decide, rfl⟩
theorem bits8 : AFn Try.prog 124 [dint 8] (Ret (du64 18446744073709551615)) := by
  refine AFn_hxk 0 cx_ok 200 Try.func124 rfl Try.ntmps124 Try.results124 rfl fun base w hb => ?_
  simp only [go_sem, Nat.reduceAdd, Nat.reduceSub, Nat.reduceMul, Nat.reduceBEq, Nat.reduceLT, Nat.reduceLeDiff, Nat.reduceEqDiff, Int.reduceToNat, Int.reduceLE, Int.reduceLT, Int.reduceAdd, Int.reduceSub, Int.reduceNeg, Int.reduceBEq, Int.reduceBNe, Nat.reduceBNe, Nat.reduceDiv, Nat.reduceMod]
  exact ⟨by decide, rfl⟩
variable {M : Med} {s : M.σ}
theorem word_ok {v : Int} {k : Nat} {m : Int} (hbits : AFn Try.prog 124 [dint k] (Ret (du64 m))) (hi : M.inv s) (hu : M.used s + 8 ≤ 4294967296) (hk1 : 1 ≤ k) (hk8 : k ≤ 8) (hv : 0 ≤ v) (hv2 : v < 18446744073709551616) :
    MFn Try.prog 116 (M.hp s) [.ptr 1 0 0 0, du64 v, dint k] (fun d h => d = du64 (M.step s v k 0 m).2 ∧ h = M.hp (M.step s v k 0 m).1) := by
  refine MFn_hxk 4 cx_ok 200 Try.func116 rfl rfl Try.ntmps116 Try.results116 rfl fun base w pl hb => ?_
  simp only [go_sem, Nat.reduceAdd, Nat.reduceSub, Nat.reduceMul, Nat.reduceBEq, Nat.reduceLT, Nat.reduceLeDiff, Nat.reduceEqDiff, Int.reduceToNat, Int.reduceLE, Int.reduceLT, Int.reduceAdd, Int.reduceSub, Int.reduceNeg, Int.reduceBEq, Int.reduceBNe, Nat.reduceBNe, Nat.reduceDiv, Nat.reduceMod]
  refine kont_haxNC [8] cx_ok hb 200 mixed [(0, true), (1, true), (2, true), (3, true), (4, true), (5, true), (6, true), (7, false), (8, false), (9, true)] [] (by kernel_rfl) (by kernel_rfl) ?_
  simp only [go_sem, Nat.reduceAdd, Nat.reduceSub, Nat.reduceMul, Nat.reduceBEq, Nat.reduceLT, Nat.reduceLeDiff, Nat.reduceEqDiff, Int.reduceToNat, Int.reduceLE, Int.reduceLT, Int.reduceAdd, Int.reduceSub, Int.reduceNeg, Int.reduceBEq, Int.reduceBNe, Nat.reduceBNe, Nat.reduceDiv, Nat.reduceMod]
  refine AX_call hb fn124 rfl ?_ hbits (Ret.flat rfl) rfl fun d h hR => ?_
  · simp only [go_sem, Nat.reduceAdd, Nat.reduceSub, Nat.reduceMul, Nat.reduceBEq, Nat.reduceLT, Nat.reduceLeDiff, Nat.reduceEqDiff, Int.reduceToNat, Int.reduceLE, Int.reduceLT, Int.reduceAdd, Int.reduceSub, Int.reduceNeg, Int.reduceBEq, Int.reduceBNe, Nat.reduceBNe, Nat.reduceDiv, Nat.reduceMod]
  obtain ⟨rfl, rfl⟩ := hR
  refine AX_of_hax cx_ok hb ?_
  simp only [go_sem, Nat.reduceAdd, Nat.reduceSub, Nat.reduceMul, Nat.reduceBEq, Nat.reduceLT, Nat.reduceLeDiff, Nat.reduceEqDiff, Int.reduceToNat, Int.reduceLE, Int.reduceLT, Int.reduceAdd, Int.reduceSub, Int.reduceNeg, Int.reduceBEq, Int.reduceBNe, Nat.reduceBNe, Nat.reduceDiv, Nat.reduceMod]
  refine AX_callM hb [0, 1, 2, 3] M.fok rfl ?_ (M.ok s v k 0 m hi hu hk1 hk8 (by decide) hv hv2) rfl ?_
  · simp only [go_sem, Nat.reduceAdd, Nat.reduceSub, Nat.reduceMul, Nat.reduceBEq, Nat.reduceLT, Nat.reduceLeDiff, Nat.reduceEqDiff, Int.reduceToNat, Int.reduceLE, Int.reduceLT, Int.reduceAdd, Int.reduceSub, Int.reduceNeg, Int.reduceBEq, Int.reduceBNe, Nat.reduceBNe, Nat.reduceDiv, Nat.reduceMod]
  rintro d h ⟨rfl, rfl⟩
  simp only [go_sem, Nat.reduceAdd, Nat.reduceSub, Nat.reduceMul, Nat.reduceBEq, Nat.reduceLT, Nat.reduceLeDiff, Nat.reduceEqDiff, Int.reduceToNat, Int.reduceLE, Int.reduceLT, Int.reduceAdd, Int.reduceSub, Int.reduceNeg, Int.reduceBEq, Int.reduceBNe, Nat.reduceBNe, Nat.reduceDiv, Nat.reduceMod]
  refine AX_of_hax cx_ok hb ?_
  simp only [go_sem, Nat.reduceAdd, Nat.reduceSub, Nat.reduceMul, Nat.reduceBEq, Nat.reduceLT, Nat.reduceLeDiff, Nat.reduceEqDiff, Int.reduceToNat, Int.reduceLE, Int.reduceLT, Int.reduceAdd, Int.reduceSub, Int.reduceNeg, Int.reduceBEq, Int.reduceBNe, Nat.reduceBNe, Nat.reduceDiv, Nat.reduceMod]
end Go.Fg.X
