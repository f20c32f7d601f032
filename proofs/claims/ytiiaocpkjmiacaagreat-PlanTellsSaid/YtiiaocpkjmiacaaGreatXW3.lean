/- Walks of the functions that the statement reaches. No conditions: contracts and laws. -/
import Derived.Test.YtiiaocpkjmiacaaGreatFgTell
import Derived.Deep.Slices
import Derived.ChangeArms
import Derived.OpenShut
import Derived.ProofKit
import Derived.ChangeOld
import Derived.Below
import Derived.WideShapes
import Derived.Test.YtiiaocpkjmiacaaGreatXLay
import Derived.Laws.BitsAllLaws
namespace Go.Fg
set_option linter.unusedSimpArgs false
set_option linter.unusedVariables false
open Go.RowKit (Below)

/-- Whatever cells of type t are trodden, they read ens enc a, for an a that may be. -/
def Rd (P : Program) (t : TypeId) {α : Type} (ok : α → Prop) (enc : α → List D) : Prop :=
  ∀ {H : Type} {en : TypeId × Value → H} {w : World} {base : Nat} {held : Bool} (m : Nat) (cs : List Value) (x : DataW H × List MemPlace), DataW.trod en P w base (fun _ => true) held m t cs = some x →
    ∃ a, ok a ∧ (enc a).length = cs.length ∧ ∀ j, j < cs.length → Cl (fun _ => True) w (nth (enc a) j) (nthV cs j)
theorem Rd.int {P : Program} {t : TypeId} (k : IntKind) (ht : P.underlying t = some (.int k)) : Rd P t (fun n : Int => (Lit.int k n).wf = true) (fun n => [.raw (.int k n)]) := by
  intro H en w base held m cs x h
  obtain ⟨n, rfl, _, hw⟩ := DataW.trod_int ht h
  refine ⟨n, hw, rfl, fun j hj => ?_⟩
  obtain rfl : j = 0 := by simpa using hj
  exact .raw _
theorem Rd.bool {P : Program} {t : TypeId} (ht : P.underlying t = some .bool) : Rd P t (fun _ : Bool => True) (fun n => [.raw (.bool n)]) := by
  intro H en w base held m cs x h
  obtain ⟨n, rfl, _⟩ := DataW.trod_bool ht h
  refine ⟨n, trivial, rfl, fun j hj => ?_⟩
  obtain rfl : j = 0 := by simpa using hj
  exact .raw _
theorem Rd.str {P : Program} {t : TypeId} (ht : P.underlying t = some .string) : Rd P t (fun s : ByteArray => s.size ≤ maxLen) (fun n => [.raw (.string n)]) := by
  intro H en w base held m cs x h
  obtain ⟨n, rfl, _, hw⟩ := DataW.trod_string ht h
  refine ⟨n, hw, rfl, fun j hj => ?_⟩
  obtain rfl : j = 0 := by simpa using hj
  exact .raw _
theorem Rd.map {P : Program} {t : TypeId} {α β : Type} {ok : α → Prop} {enc : α → List D} (r : Rd P t ok enc) (g : α → β) {ok' : β → Prop} {enc' : β → List D} (he : ∀ a, enc' (g a) = enc a) (ho : ∀ a, ok a → ok' (g a)) : Rd P t ok' enc' := by
  intro H en w base held m cs x h
  obtain ⟨a, h1, h2, h3⟩ := r m cs x h
  exact ⟨g a, ho a h1, by rw [he]; exact h2, by rw [he]; exact h3⟩
/-- The fields of a struct, from the cell 'off' on. -/
def RdF (P : Program) (fs : List Field) (off tot : Nat) {α : Type} (ok : α → Prop) (enc : α → List D) : Prop :=
  ∀ {H : Type} {en : TypeId × Value → H} {w : World} {base : Nat} {held : Bool} (m : Nat) (cs : List Value), cs.length = tot →
    (∀ f ∈ fs, ∃ x, DataW.trod en P w base (fun _ => true) held m f.type ((cs.drop f.offset).take (P.cellsOf f.type)) = some x) →
    ∃ a, ok a ∧ off + (enc a).length = tot ∧ ∀ j, off + j < tot → Cl (fun _ => True) w (nth (enc a) j) (nthV cs (off + j))
theorem RdF.nil {P : Program} {tot : Nat} : RdF P [] tot tot (fun _ : Unit => True) (fun _ => []) := by
  intro H en w base held m cs hl h
  exact ⟨(), trivial, rfl, fun j hj => by omega⟩
theorem RdF.cons {P : Program} {f : Field} {fs : List Field} {off off' tot : Nat} {α β : Type} {ok : α → Prop} {enc : α → List D} {ok' : β → Prop} {enc' : β → List D} (r : Rd P f.type ok enc) (rs : RdF P fs off' tot ok' enc')
    (ho : f.offset = off) (hc : off + P.cellsOf f.type = off') (ht : off' ≤ tot) : RdF P (f :: fs) off tot (fun ab : α × β => ok ab.1 ∧ ok' ab.2) (fun ab => enc ab.1 ++ enc' ab.2) := by
  intro H en w base held m cs hl h
  obtain ⟨x, hx⟩ := h f (by simp)
  obtain ⟨a, a1, a2, a3⟩ := r m _ x hx
  obtain ⟨b, b1, b2, b3⟩ := rs m cs hl fun g hg => h g (by simp [hg])
  have hlen : ((cs.drop f.offset).take (P.cellsOf f.type)).length = P.cellsOf f.type := by simp; omega
  rw [hlen] at a2 a3
  refine ⟨(a, b), ⟨a1, b1⟩, by simp; omega, fun j hj => ?_⟩
  by_cases h1 : j < P.cellsOf f.type
  · have := a3 j h1
    have e1 : nth (enc a ++ enc' b) j = nth (enc a) j := nth_append_lt (by omega)
    have e2 : nthV ((cs.drop f.offset).take (P.cellsOf f.type)) j = nthV cs (off + j) := by
      simp only [nthV, List.getD_eq_getElem?_getD, List.getElem?_take, if_pos h1, List.getElem?_drop, ho]
    show Cl _ w (nth (enc a ++ enc' b) j) _
    rw [e1, ← e2]; exact this
  · have e1 : nth (enc a ++ enc' b) j = nth (enc' b) (j - P.cellsOf f.type) := by rw [nth_append_ge (by omega), a2]
    have := b3 (j - P.cellsOf f.type) (by omega)
    show Cl _ w (nth (enc a ++ enc' b) j) _
    rw [e1, show off + j = off' + (j - P.cellsOf f.type) by omega]; exact this
theorem Rd.struct {P : Program} {t : TypeId} {fs : Array Field} {tot : Nat} {α : Type} {ok : α → Prop} {enc : α → List D} (ht : P.underlying t = some (.struct fs)) (hc : P.cellsOf t = tot) (r : RdF P fs.toList 0 tot ok enc) : Rd P t ok enc := by
  intro H en w base held m cs x h
  obtain ⟨xs, m', rfl, _, hl, hxl, hf⟩ := DataW.trod_struct ht h
  obtain ⟨a, a1, a2, a3⟩ := r m' cs (by omega) fun f hf' => by
    obtain ⟨i, hi⟩ := List.getElem?_of_mem hf'
    have hi' : fs[i]? = some f := by simpa using hi
    have hlt : i < xs.length := by rw [hxl]; exact (Array.getElem?_eq_some_iff.1 hi').1
    exact ⟨xs[i], by rw [hf i f hi']; exact List.getElem?_eq_getElem hlt⟩
  exact ⟨a, a1, by omega, fun j hj => by have := a3 j (by omega); rwa [Nat.zero_add] at this⟩
/-- The elements of an array, from the i-th on. -/
def RdA (P : Program) (e : TypeId) (i n : Nat) {α : Type} (ok : α → Prop) (enc : α → List D) : Prop :=
  ∀ {H : Type} {en : TypeId × Value → H} {w : World} {base : Nat} {held : Bool} (m : Nat) (cs : List Value), cs.length = n * P.cellsOf e →
    (∀ k, k < n → ∃ x, DataW.trod en P w base (fun _ => true) held m e ((cs.drop (k * P.cellsOf e)).take (P.cellsOf e)) = some x) →
    ∃ a, ok a ∧ i * P.cellsOf e + (enc a).length = n * P.cellsOf e ∧ ∀ j, i * P.cellsOf e + j < n * P.cellsOf e → Cl (fun _ => True) w (nth (enc a) j) (nthV cs (i * P.cellsOf e + j))
theorem RdA.nil {P : Program} {e : TypeId} {n : Nat} : RdA P e n n (fun _ : Unit => True) (fun _ => []) := by
  intro H en w base held m cs hl h
  exact ⟨(), trivial, rfl, fun j hj => by omega⟩
theorem RdA.cons {P : Program} {e : TypeId} {i n : Nat} {α β : Type} {ok : α → Prop} {enc : α → List D} {ok' : β → Prop} {enc' : β → List D} (hi : i < n) (r : Rd P e ok enc) (rs : RdA P e (i + 1) n ok' enc') :
    RdA P e i n (fun ab : α × β => ok ab.1 ∧ ok' ab.2) (fun ab => enc ab.1 ++ enc' ab.2) := by
  intro H en w base held m cs hl h
  obtain ⟨x, hx⟩ := h i hi
  obtain ⟨a, a1, a2, a3⟩ := r m _ x hx
  obtain ⟨b, b1, b2, b3⟩ := rs m cs hl h
  have hm := Nat.mul_le_mul_right (P.cellsOf e) (show i + 1 ≤ n from hi)
  rw [Nat.add_mul, Nat.one_mul] at hm
  rw [Nat.add_mul, Nat.one_mul] at b2 b3
  have hlen : ((cs.drop (i * P.cellsOf e)).take (P.cellsOf e)).length = P.cellsOf e := by simp; omega
  rw [hlen] at a2 a3
  refine ⟨(a, b), ⟨a1, b1⟩, by simp; omega, fun j hj => ?_⟩
  by_cases h1 : j < P.cellsOf e
  · have := a3 j h1
    have e1 : nth (enc a ++ enc' b) j = nth (enc a) j := nth_append_lt (by omega)
    have e2 : nthV ((cs.drop (i * P.cellsOf e)).take (P.cellsOf e)) j = nthV cs (i * P.cellsOf e + j) := by
      simp only [nthV, List.getD_eq_getElem?_getD, List.getElem?_take, if_pos h1, List.getElem?_drop]
    show Cl _ w (nth (enc a ++ enc' b) j) _
    rw [e1, ← e2]; exact this
  · have e1 : nth (enc a ++ enc' b) j = nth (enc' b) (j - P.cellsOf e) := by rw [nth_append_ge (by omega), a2]
    have := b3 (j - P.cellsOf e) (by omega)
    show Cl _ w (nth (enc a ++ enc' b) j) _
    rw [e1, show i * P.cellsOf e + j = i * P.cellsOf e + P.cellsOf e + (j - P.cellsOf e) by omega]; exact this
theorem Rd.array {P : Program} {t e : TypeId} {n : Nat} {α : Type} {ok : α → Prop} {enc : α → List D} (ht : P.underlying t = some (.array n e)) (hc : P.cellsOf t = n * P.cellsOf e) (r : RdA P e 0 n ok enc) : Rd P t ok enc := by
  intro H en w base held m cs x h
  obtain ⟨xs, m', rfl, _, hl, hxl, hf⟩ := DataW.trod_array ht h
  obtain ⟨a, a1, a2, a3⟩ := r m' cs (by omega) fun k hk => by
    have hlt : k < xs.length := by omega
    exact ⟨xs[k], by rw [hf k hk]; exact List.getElem?_eq_getElem hlt⟩
  simp only [Nat.zero_mul, Nat.zero_add] at a2 a3
  exact ⟨a, a1, by omega, fun j hj => a3 j (by omega)⟩
theorem Rd.slice {P : Program} {t e : TypeId} {α : Type} [Inhabited α] {ok : α → Prop} {enc : α → List D} (sz : Nat) (ht : P.underlying t = some (.slice e)) (hc : P.cellsOf e = sz) (hpos : 0 < sz) (r : Rd P e ok enc) :
    Rd P t (fun l : List α => l.length ≤ maxLen ∧ ∀ a ∈ l, ok a) (fun l => [.imm sz l.length fun i => enc (l.getD i default)]) := by
  intro H en w base held m cs x h
  rcases Deep.open_slice ht h with ⟨rfl, _⟩ | ⟨a, len, cap, m, n', D', Pl, rfl, hb, hl, hm, hmm, _, hel⟩
  · refine ⟨[], ⟨by simp, by simp⟩, rfl, fun j hj => ?_⟩
    obtain rfl : j = 0 := by simpa using hj
    exact .imm _ _ _ _ _ 0 0 (fun _ _ => Go.undef) (fun h => by simp at h) (by simp) (fun i hi => by simp at hi) (fun i j hi => by simp at hi) (fun i j hi => by simp at hi)
  · simp only [if_true] at hmm
    have key : ∀ i, ∃ ac : α × List Value, i < len → ok ac.1 ∧ (enc ac.1).length = sz ∧ ac.2.length = sz ∧ (∀ j, j < sz → w.cell? (a.add (i * sz + j)) = some (nthV ac.2 j)) ∧ ∀ j, j < sz → Cl (fun _ => True) w (nth (enc ac.1) j) (nthV ac.2 j) := fun i => by
      by_cases hi : i < len
      · obtain ⟨cs', h1, h2⟩ := hel i (by omega)
        obtain ⟨x, hx, hxl, hxc⟩ := r n' cs' _ h2
        obtain ⟨_, hlen, hcell⟩ := World.cells?_some h1
        have hl2 : cs'.length = sz := by omega
        refine ⟨(x, cs'), fun _ => ⟨hx, (by show (enc x).length = sz; omega), hl2, fun j hj => ?_, fun j hj => hxc j (by omega)⟩⟩
        have := hcell j (by omega)
        rw [Deep.add_add, hc] at this
        rw [this]
        simp [nthV, List.getD_eq_getElem?_getD, List.getElem?_eq_getElem (show j < cs'.length by omega)]
      · exact ⟨(default, []), fun h => absurd h hi⟩
    obtain ⟨f, hf⟩ := Classical.axiomOfChoice key
    have hlen : ((List.range len).map fun i => (f i).1).length = len := by simp
    have hget : ∀ i, i < len → ((List.range len).map fun i => (f i).1).getD i default = (f i).1 := fun i hi => by simp [List.getD_eq_getElem?_getD, hi]
    refine ⟨(List.range len).map fun i => (f i).1, ⟨by rw [hlen]; omega, fun x hx => ?_⟩, rfl, fun j hj => ?_⟩
    · obtain ⟨i, hi, rfl⟩ := List.mem_map.1 hx
      exact (hf i (List.mem_range.1 hi)).1
    · obtain rfl : j = 0 := by simpa using hj
      show Cl _ w (.imm sz ((List.range len).map fun i => (f i).1).length fun i => enc (((List.range len).map fun i => (f i).1).getD i default)) (.slice (some a) len cap)
      rw [hlen]
      have hspot : 0 < len → a = ⟨a.block, a.off, none⟩ := fun h0 => by
        have h1 := (hf 0 h0).2.2.2.1 0 hpos
        have h2 := World.cell?_spot h1
        obtain ⟨b, o, sp⟩ := a
        simp [Addr.add] at h2
        subst h2; rfl
      refine .imm _ _ _ _ _ a.block a.off (fun i j => nthV (f i).2 j) (fun h0 => by rw [← hspot h0]) hl (fun i hi => ?_) (fun i j hi hj => ⟨trivial, ?_⟩) (fun i j hi hj => ?_)
      · rw [hget i hi]; exact (hf i hi).2.1
      · have h1 := (hf i hi).2.2.2.1 j hj
        rw [hspot (by omega)] at h1
        rw [← h1]
        congr 1
        simp only [Addr.add]
        split <;> simp_all
      · rw [hget i hi]; exact (hf i hi).2.2.2.2 j hj
/-- A parameter of one cell. -/
theorem Rd.one {P : Program} {t : TypeId} {α : Type} {ok : α → Prop} {enc : α → D} (r : Rd P t ok fun a => [enc a]) {H : Type} {en : TypeId × Value → H} {w : World} {base : Nat} {held : Bool} {v : Value} {d : DataW H} {ps : List MemPlace}
    (h : DataW.Trod en P w base (fun _ => true) held t v d ps) (hv : v.cells.toList = [v]) : ∃ a, ok a ∧ Cl (fun _ => True) w (enc a) v := by
  obtain ⟨m, hm⟩ := h
  rw [hv] at hm
  obtain ⟨a, h1, h2, h3⟩ := r m _ _ hm
  exact ⟨a, h1, h3 0 (by simp)⟩
/-- A parameter of several. -/
theorem Rd.many {P : Program} {t : TypeId} {α : Type} {ok : α → Prop} {enc : α → List D} (r : Rd P t ok enc) {H : Type} {en : TypeId × Value → H} {w : World} {base : Nat} {held : Bool} {cs : Array Value} {d : DataW H} {ps : List MemPlace}
    (h : DataW.Trod en P w base (fun _ => true) held t (.agg cs) d ps) : ∃ a, ok a ∧ Cl (fun _ => True) w (.agg (enc a)) (.agg cs) := by
  obtain ⟨m, hm⟩ := h
  have e : (Value.agg cs).cells.toList = cs.toList := rfl
  rw [e] at hm
  obtain ⟨a, h1, h2, h3⟩ := r m _ _ hm
  have := Cl.agg (N := fun _ => True) (w := w) (enc a) cs.toList h2.symm (fun i hi => h3 i (by omega))
  exact ⟨a, h1, by simpa using this⟩
theorem one_cell_slice (a : Option Addr) (l c : Nat) : (Value.slice a l c).cells.toList = [Value.slice a l c] := by simp [Value.cells]
theorem one_cell_int (k : IntKind) (n : Int) : (Value.int k n).cells.toList = [Value.int k n] := by simp [Value.cells]
theorem one_cell_bool (b : Bool) : (Value.bool b).cells.toList = [Value.bool b] := by simp [Value.cells]
theorem one_cell_string (s : ByteArray) : (Value.string s).cells.toList = [Value.string s] := by simp [Value.cells]
/-- A contract, ens a call's law: the result is a bool, nothing changes. -/
theorem call_true {P : Program} {f : FuncId} {ds : List D} (h : AFn P f ds fun d h => d = .raw (.bool true) ∧ h = []) (W : World) (vs : List Value) (hl : vs.length = ds.length) (hc : ∀ i, i < ds.length → Cl (fun _ => True) W (nth ds i) (nthV vs i)) :
    Calls P f vs.toArray W fun e W' => e = .returned (.bool true) ∧ Below W.heap.size W W' := by
  refine (h (fun _ => True) W.heap.size W [] vs (Nat.le_refl _) (fun _ _ => trivial) ⟨rfl, fun l l' b q q' e => by simp at e, fun l o e => by simp at e, fun l o b q e => by simp at e⟩ hl (fun i hi => .cl _ _ ((hc i hi).mono fun b _ _ => ⟨⟨trivial, fun l q e => by simp at e⟩, rfl⟩))).mono fun e W' he => ?_
  obtain ⟨v, d, h', pl', rfl, ⟨rfl, rfl⟩, _, hv, _, hb⟩ := he
  rw [inv_raw hv]; exact ⟨rfl, hb⟩
end Go.Fg
namespace Go.Fg.X
set_option linter.unusedSimpArgs false
set_option linter.unusedVariables false
open Go.Proofs Go.Fg
set_option maxRecDepth 100000
def rowsI (k : IntKind) (l : List Int) : Nat → List D := fun i => [.raw (.int k (l.getD i 0))]
@[go_sem] theorem rowsI_at (k : IntKind) (l : List Int) (i : Nat) : rowsI k l i = [.raw (.int k (l.getD i 0))] := rfl

structure Cf where
  t : Int
  lmax : Int
instance : Inhabited Cf := ⟨⟨0, 0⟩⟩
@[go_sem] def Cf.cells (x : Cf) : List D := [.raw (.int .i64 x.t), .raw (.int .i64 x.lmax)]
def Cf.rows (l : List Cf) : Nat → List D := fun i => (l.getD i default).cells
@[go_sem] theorem Cf.rows_at (l : List Cf) (i : Nat) : Cf.rows l i = (l.getD i default).cells := rfl
def Cf.Ok (x : Cf) : Prop := (Lit.int .i64 x.t).wf = true ∧ (Lit.int .i64 x.lmax).wf = true ∧ True
theorem rdCf : Rd Tryz.prog 23 Cf.Ok Cf.cells :=
  Rd.map (Rd.struct (tot := 2) Tryz.underlying23 (by kernel_rfl) (RdF.cons (Rd.int .i64 Tryz.underlying3) (RdF.cons (Rd.int .i64 Tryz.underlying3) RdF.nil rfl (by kernel_rfl) (by decide)) rfl (by kernel_rfl) (by decide))) (fun p => ⟨p.1, p.2.1⟩) (fun _ => rfl) (fun _ h => ⟨h.1, h.2.1, trivial⟩)
structure Cv where
  m1 : Int
  d : Int
  m2 : Int
instance : Inhabited Cv := ⟨⟨0, 0, 0⟩⟩
@[go_sem] def Cv.cells (x : Cv) : List D := [.raw (.int .u64 x.m1), .raw (.int .u64 x.d), .raw (.int .u64 x.m2)]
def Cv.rows (l : List Cv) : Nat → List D := fun i => (l.getD i default).cells
@[go_sem] theorem Cv.rows_at (l : List Cv) (i : Nat) : Cv.rows l i = (l.getD i default).cells := rfl
def Cv.Ok (x : Cv) : Prop := (Lit.int .u64 x.m1).wf = true ∧ (Lit.int .u64 x.d).wf = true ∧ (Lit.int .u64 x.m2).wf = true ∧ True
theorem rdCv : Rd Tryz.prog 40 Cv.Ok Cv.cells :=
  Rd.map (Rd.struct (tot := 3) Tryz.underlying40 (by kernel_rfl) (RdF.cons (Rd.int .u64 Tryz.underlying30) (RdF.cons (Rd.int .u64 Tryz.underlying30) (RdF.cons (Rd.int .u64 Tryz.underlying30) RdF.nil rfl (by kernel_rfl) (by decide)) rfl (by kernel_rfl) (by decide)) rfl (by kernel_rfl) (by decide))) (fun p => ⟨p.1, p.2.1, p.2.2.1⟩) (fun _ => rfl) (fun _ h => ⟨h.1, h.2.1, h.2.2.1, trivial⟩)
structure Pk where
  iD : Int
  len : Int
  head0 : Int
  head1 : Int
  head2 : Int
  head3 : Int
instance : Inhabited Pk := ⟨⟨0, 0, 0, 0, 0, 0⟩⟩
@[go_sem] def Pk.cells (x : Pk) : List D := [.raw (.int .u64 x.iD), .raw (.int .i64 x.len), .raw (.int .u16 x.head0), .raw (.int .u16 x.head1), .raw (.int .u16 x.head2), .raw (.int .u16 x.head3)]
def Pk.rows (l : List Pk) : Nat → List D := fun i => (l.getD i default).cells
@[go_sem] theorem Pk.rows_at (l : List Pk) (i : Nat) : Pk.rows l i = (l.getD i default).cells := rfl
def Pk.Ok (x : Pk) : Prop := (Lit.int .u64 x.iD).wf = true ∧ (Lit.int .i64 x.len).wf = true ∧ (Lit.int .u16 x.head0).wf = true ∧ (Lit.int .u16 x.head1).wf = true ∧ (Lit.int .u16 x.head2).wf = true ∧ (Lit.int .u16 x.head3).wf = true ∧ True
theorem rdPk : Rd Tryz.prog 35 Pk.Ok Pk.cells :=
  Rd.map (Rd.struct (tot := 6) Tryz.underlying35 (by kernel_rfl) (RdF.cons (Rd.int .u64 Tryz.underlying30) (RdF.cons (Rd.int .i64 Tryz.underlying3) (RdF.cons (Rd.array Tryz.underlying33 (by kernel_rfl) (RdA.cons (by decide) (Rd.int .u16 Tryz.underlying31) (RdA.cons (by decide) (Rd.int .u16 Tryz.underlying31) (RdA.cons (by decide) (Rd.int .u16 Tryz.underlying31) (RdA.cons (by decide) (Rd.int .u16 Tryz.underlying31) RdA.nil))))) RdF.nil rfl (by kernel_rfl) (by decide)) rfl (by kernel_rfl) (by decide)) rfl (by kernel_rfl) (by decide))) (fun p => ⟨p.1, p.2.1, p.2.2.1.1, p.2.2.1.2.1, p.2.2.1.2.2.1, p.2.2.1.2.2.2.1⟩) (fun _ => rfl) (fun _ h => ⟨h.1, h.2.1, h.2.2.1.1, h.2.2.1.2.1, h.2.2.1.2.2.1, h.2.2.1.2.2.2.1, trivial⟩)
structure Kls where
  iD : Int
  parent : Int
  leaf : Bool
  rt : Cv
  ls : Cv
  ul : Cv
  pkts : Int
  bytes : Int
instance : Inhabited Kls := ⟨⟨0, 0, false, default, default, default, 0, 0⟩⟩
@[go_sem] def Kls.cells (x : Kls) : List D := [.raw (.int .i64 x.iD), .raw (.int .i64 x.parent), .raw (.bool x.leaf), .raw (.int .u64 x.rt.m1), .raw (.int .u64 x.rt.d), .raw (.int .u64 x.rt.m2), .raw (.int .u64 x.ls.m1), .raw (.int .u64 x.ls.d), .raw (.int .u64 x.ls.m2), .raw (.int .u64 x.ul.m1), .raw (.int .u64 x.ul.d), .raw (.int .u64 x.ul.m2), .raw (.int .i64 x.pkts), .raw (.int .i64 x.bytes)]
def Kls.rows (l : List Kls) : Nat → List D := fun i => (l.getD i default).cells
@[go_sem] theorem Kls.rows_at (l : List Kls) (i : Nat) : Kls.rows l i = (l.getD i default).cells := rfl
def Kls.Ok (x : Kls) : Prop := (Lit.int .i64 x.iD).wf = true ∧ (Lit.int .i64 x.parent).wf = true ∧ True ∧ Cv.Ok x.rt ∧ Cv.Ok x.ls ∧ Cv.Ok x.ul ∧ (Lit.int .i64 x.pkts).wf = true ∧ (Lit.int .i64 x.bytes).wf = true ∧ True
theorem rdKls : Rd Tryz.prog 42 Kls.Ok Kls.cells :=
  Rd.map (Rd.struct (tot := 14) Tryz.underlying42 (by kernel_rfl) (RdF.cons (Rd.int .i64 Tryz.underlying3) (RdF.cons (Rd.int .i64 Tryz.underlying3) (RdF.cons (Rd.bool Tryz.underlying4) (RdF.cons rdCv (RdF.cons rdCv (RdF.cons rdCv (RdF.cons (Rd.int .i64 Tryz.underlying3) (RdF.cons (Rd.int .i64 Tryz.underlying3) RdF.nil rfl (by kernel_rfl) (by decide)) rfl (by kernel_rfl) (by decide)) rfl (by kernel_rfl) (by decide)) rfl (by kernel_rfl) (by decide)) rfl (by kernel_rfl) (by decide)) rfl (by kernel_rfl) (by decide)) rfl (by kernel_rfl) (by decide)) rfl (by kernel_rfl) (by decide))) (fun p => ⟨p.1, p.2.1, p.2.2.1, p.2.2.2.1, p.2.2.2.2.1, p.2.2.2.2.2.1, p.2.2.2.2.2.2.1, p.2.2.2.2.2.2.2.1⟩) (fun _ => rfl) (fun _ h => ⟨h.1, h.2.1, h.2.2.1, h.2.2.2.1, h.2.2.2.2.1, h.2.2.2.2.2.1, h.2.2.2.2.2.2.1, h.2.2.2.2.2.2.2.1, trivial⟩)
structure Chg where
  kind : Int
  cls : Kls
instance : Inhabited Chg := ⟨⟨0, default⟩⟩
@[go_sem] def Chg.cells (x : Chg) : List D := [.raw (.int .i64 x.kind), .raw (.int .i64 x.cls.iD), .raw (.int .i64 x.cls.parent), .raw (.bool x.cls.leaf), .raw (.int .u64 x.cls.rt.m1), .raw (.int .u64 x.cls.rt.d), .raw (.int .u64 x.cls.rt.m2), .raw (.int .u64 x.cls.ls.m1), .raw (.int .u64 x.cls.ls.d), .raw (.int .u64 x.cls.ls.m2), .raw (.int .u64 x.cls.ul.m1), .raw (.int .u64 x.cls.ul.d), .raw (.int .u64 x.cls.ul.m2), .raw (.int .i64 x.cls.pkts), .raw (.int .i64 x.cls.bytes)]
def Chg.rows (l : List Chg) : Nat → List D := fun i => (l.getD i default).cells
@[go_sem] theorem Chg.rows_at (l : List Chg) (i : Nat) : Chg.rows l i = (l.getD i default).cells := rfl
def Chg.Ok (x : Chg) : Prop := (Lit.int .i64 x.kind).wf = true ∧ Kls.Ok x.cls ∧ True
theorem rdChg : Rd Tryz.prog 44 Chg.Ok Chg.cells :=
  Rd.map (Rd.struct (tot := 15) Tryz.underlying44 (by kernel_rfl) (RdF.cons (Rd.int .i64 Tryz.underlying3) (RdF.cons rdKls RdF.nil rfl (by kernel_rfl) (by decide)) rfl (by kernel_rfl) (by decide))) (fun p => ⟨p.1, p.2.1⟩) (fun _ => rfl) (fun _ h => ⟨h.1, h.2.1, trivial⟩)
structure Rul where
  mask0 : Int
  mask1 : Int
  mask2 : Int
  mask3 : Int
  want0 : Int
  want1 : Int
  want2 : Int
  want3 : Int
  cls : Int
instance : Inhabited Rul := ⟨⟨0, 0, 0, 0, 0, 0, 0, 0, 0⟩⟩
@[go_sem] def Rul.cells (x : Rul) : List D := [.raw (.int .u16 x.mask0), .raw (.int .u16 x.mask1), .raw (.int .u16 x.mask2), .raw (.int .u16 x.mask3), .raw (.int .u16 x.want0), .raw (.int .u16 x.want1), .raw (.int .u16 x.want2), .raw (.int .u16 x.want3), .raw (.int .i64 x.cls)]
def Rul.rows (l : List Rul) : Nat → List D := fun i => (l.getD i default).cells
@[go_sem] theorem Rul.rows_at (l : List Rul) (i : Nat) : Rul.rows l i = (l.getD i default).cells := rfl
def Rul.Ok (x : Rul) : Prop := (Lit.int .u16 x.mask0).wf = true ∧ (Lit.int .u16 x.mask1).wf = true ∧ (Lit.int .u16 x.mask2).wf = true ∧ (Lit.int .u16 x.mask3).wf = true ∧ (Lit.int .u16 x.want0).wf = true ∧ (Lit.int .u16 x.want1).wf = true ∧ (Lit.int .u16 x.want2).wf = true ∧ (Lit.int .u16 x.want3).wf = true ∧ (Lit.int .i64 x.cls).wf = true ∧ True
theorem rdRul : Rd Tryz.prog 229 Rul.Ok Rul.cells :=
  Rd.map (Rd.struct (tot := 9) Tryz.underlying229 (by kernel_rfl) (RdF.cons (Rd.array Tryz.underlying33 (by kernel_rfl) (RdA.cons (by decide) (Rd.int .u16 Tryz.underlying31) (RdA.cons (by decide) (Rd.int .u16 Tryz.underlying31) (RdA.cons (by decide) (Rd.int .u16 Tryz.underlying31) (RdA.cons (by decide) (Rd.int .u16 Tryz.underlying31) RdA.nil))))) (RdF.cons (Rd.array Tryz.underlying33 (by kernel_rfl) (RdA.cons (by decide) (Rd.int .u16 Tryz.underlying31) (RdA.cons (by decide) (Rd.int .u16 Tryz.underlying31) (RdA.cons (by decide) (Rd.int .u16 Tryz.underlying31) (RdA.cons (by decide) (Rd.int .u16 Tryz.underlying31) RdA.nil))))) (RdF.cons (Rd.int .i64 Tryz.underlying3) RdF.nil rfl (by kernel_rfl) (by decide)) rfl (by kernel_rfl) (by decide)) rfl (by kernel_rfl) (by decide))) (fun p => ⟨p.1.1, p.1.2.1, p.1.2.2.1, p.1.2.2.2.1, p.2.1.1, p.2.1.2.1, p.2.1.2.2.1, p.2.1.2.2.2.1, p.2.2.1⟩) (fun _ => rfl) (fun _ h => ⟨h.1.1, h.1.2.1, h.1.2.2.1, h.1.2.2.2.1, h.2.1.1, h.2.1.2.1, h.2.1.2.2.1, h.2.1.2.2.2.1, h.2.2.1, trivial⟩)
structure Opn where
  kind : Int
  changes : (List Chg)
  rules : (List Rul)
  packet : Pk
  ticks : Int
instance : Inhabited Opn := ⟨⟨0, [], [], default, 0⟩⟩
@[go_sem] def Opn.cells (x : Opn) : List D := [.raw (.int .i64 x.kind), .imm 15 x.changes.length (Chg.rows x.changes), .imm 9 x.rules.length (Rul.rows x.rules), .raw (.int .u64 x.packet.iD), .raw (.int .i64 x.packet.len), .raw (.int .u16 x.packet.head0), .raw (.int .u16 x.packet.head1), .raw (.int .u16 x.packet.head2), .raw (.int .u16 x.packet.head3), .raw (.int .u64 x.ticks)]
def Opn.rows (l : List Opn) : Nat → List D := fun i => (l.getD i default).cells
@[go_sem] theorem Opn.rows_at (l : List Opn) (i : Nat) : Opn.rows l i = (l.getD i default).cells := rfl
def Opn.Ok (x : Opn) : Prop := (Lit.int .i64 x.kind).wf = true ∧ (x.changes.length ≤ maxLen ∧ ∀ a ∈ x.changes, Chg.Ok a) ∧ (x.rules.length ≤ maxLen ∧ ∀ a ∈ x.rules, Rul.Ok a) ∧ Pk.Ok x.packet ∧ (Lit.int .u64 x.ticks).wf = true ∧ True
theorem rdOpn : Rd Tryz.prog 37 Opn.Ok Opn.cells :=
  Rd.map (Rd.struct (tot := 10) Tryz.underlying37 (by kernel_rfl) (RdF.cons (Rd.int .i64 Tryz.underlying3) (RdF.cons (Rd.slice 15 Tryz.underlying28 (by kernel_rfl) (by decide) rdChg) (RdF.cons (Rd.slice 9 Tryz.underlying29 (by kernel_rfl) (by decide) rdRul) (RdF.cons rdPk (RdF.cons (Rd.int .u64 Tryz.underlying30) RdF.nil rfl (by kernel_rfl) (by decide)) rfl (by kernel_rfl) (by decide)) rfl (by kernel_rfl) (by decide)) rfl (by kernel_rfl) (by decide)) rfl (by kernel_rfl) (by decide))) (fun p => ⟨p.1, p.2.1, p.2.2.1, p.2.2.2.1, p.2.2.2.2.1⟩) (fun _ => rfl) (fun _ h => ⟨h.1, h.2.1, h.2.2.1, h.2.2.2.1, h.2.2.2.2.1, trivial⟩)
structure Scr where
  config : Cf
  ops : (List Opn)
instance : Inhabited Scr := ⟨⟨default, []⟩⟩
@[go_sem] def Scr.cells (x : Scr) : List D := [.raw (.int .i64 x.config.t), .raw (.int .i64 x.config.lmax), .imm 10 x.ops.length (Opn.rows x.ops)]
def Scr.rows (l : List Scr) : Nat → List D := fun i => (l.getD i default).cells
@[go_sem] theorem Scr.rows_at (l : List Scr) (i : Nat) : Scr.rows l i = (l.getD i default).cells := rfl
def Scr.Ok (x : Scr) : Prop := Cf.Ok x.config ∧ (x.ops.length ≤ maxLen ∧ ∀ a ∈ x.ops, Opn.Ok a) ∧ True
theorem rdScr : Rd Tryz.prog 26 Scr.Ok Scr.cells :=
  Rd.map (Rd.struct (tot := 3) Tryz.underlying26 (by kernel_rfl) (RdF.cons rdCf (RdF.cons (Rd.slice 10 Tryz.underlying24 (by kernel_rfl) (by decide) rdOpn) RdF.nil rfl (by kernel_rfl) (by decide)) rfl (by kernel_rfl) (by decide))) (fun p => ⟨p.1, p.2.1⟩) (fun _ => rfl) (fun _ h => ⟨h.1, h.2.1, trivial⟩)
end Go.Fg.X
namespace Go.Fg.X
open Go.Proofs Go.Fg
set_option maxRecDepth 100000
@[go_sem] def dint (n : Int) : D := .raw (.int .i64 n)
@[go_sem] def dbool (b : Bool) : D := .raw (.bool b)
@[go_sem] def ints (l : List Int) : D := .imm 1 l.length (rowsI .i64 l)
structure Ev where
  op : Int
  inn : Bool
  real : Bool
  at_ : Int
  done : Int
  cls : Int
  id : Int
  len : Int
  h0 : Int
  h1 : Int
  h2 : Int
  h3 : Int
instance : Inhabited Ev := ⟨⟨0, false, false, 0, 0, 0, 0, 0, 0, 0, 0, 0⟩⟩
@[go_sem] def Ev.cells (e : Ev) : List D := [.raw (.int .i64 e.op), .raw (.bool e.inn), .raw (.bool e.real), .raw (.int .u64 e.at_), .raw (.int .u64 e.done), .raw (.int .i64 e.cls), .raw (.int .u64 e.id), .raw (.int .i64 e.len), .raw (.int .u16 e.h0), .raw (.int .u16 e.h1), .raw (.int .u16 e.h2), .raw (.int .u16 e.h3)]
def Ev.Ok (x : Ev) : Prop := (Lit.int .i64 x.op).wf = true ∧ (Lit.int .u64 x.at_).wf = true ∧ (Lit.int .u64 x.done).wf = true ∧ (Lit.int .i64 x.cls).wf = true ∧ (Lit.int .u64 x.id).wf = true ∧ (Lit.int .i64 x.len).wf = true ∧ (Lit.int .u16 x.h0).wf = true ∧ (Lit.int .u16 x.h1).wf = true ∧ (Lit.int .u16 x.h2).wf = true ∧ (Lit.int .u16 x.h3).wf = true
theorem rdEv : Rd Tryz.prog 52 Ev.Ok Ev.cells :=
  Rd.map (Rd.struct (tot := 12) Tryz.underlying52 (by kernel_rfl) (RdF.cons (Rd.int .i64 Tryz.underlying3) (RdF.cons (Rd.bool Tryz.underlying4) (RdF.cons (Rd.bool Tryz.underlying4) (RdF.cons (Rd.int .u64 Tryz.underlying30) (RdF.cons (Rd.int .u64 Tryz.underlying30) (RdF.cons (Rd.int .i64 Tryz.underlying3) (RdF.cons rdPk RdF.nil rfl (by kernel_rfl) (by decide)) rfl (by kernel_rfl) (by decide)) rfl (by kernel_rfl) (by decide)) rfl (by kernel_rfl) (by decide)) rfl (by kernel_rfl) (by decide)) rfl (by kernel_rfl) (by decide)) rfl (by kernel_rfl) (by decide)))
    (fun p => ⟨p.1, p.2.1, p.2.2.1, p.2.2.2.1, p.2.2.2.2.1, p.2.2.2.2.2.1, p.2.2.2.2.2.2.1.iD, p.2.2.2.2.2.2.1.len, p.2.2.2.2.2.2.1.head0, p.2.2.2.2.2.2.1.head1, p.2.2.2.2.2.2.1.head2, p.2.2.2.2.2.2.1.head3⟩) (fun _ => rfl) (fun _ h => ⟨h.1, h.2.2.2.1, h.2.2.2.2.1, h.2.2.2.2.2.1, h.2.2.2.2.2.2.1.1, h.2.2.2.2.2.2.1.2.1, h.2.2.2.2.2.2.1.2.2.1, h.2.2.2.2.2.2.1.2.2.2.1, h.2.2.2.2.2.2.1.2.2.2.2.1, h.2.2.2.2.2.2.1.2.2.2.2.2.1⟩)
def Ev.rows (l : List Ev) : Nat → List D := fun i => (l.getD i default).cells
@[go_sem] theorem Ev.rows_at (l : List Ev) (i : Nat) : Ev.rows l i = (l.getD i default).cells := rfl
@[go_sem] def evs (l : List Ev) : D := .imm 12 l.length (Ev.rows l)
theorem wrap64 {n : Int} (h1 : -9223372036854775808 ≤ n) (h2 : n ≤ 9223372036854775807) : IntKind.i64.wrap n = n := by
  rw [IntKind.wrap_i64]; omega
theorem wrap_succ {k : Nat} (h : k < 4611686018427387904) : IntKind.i64.wrap ((k : Int) + 1) = ((k + 1 : Nat) : Int) := by
  rw [wrap64 (by omega) (by omega)]; rfl
theorem bz {n : Nat} (h : n = 0) : ((n : Int) == 0) = true := by simp [h]
theorem bnz {n : Nat} (h : n ≠ 0) : ((n : Int) == 0) = false := by simp [h]
theorem dp {n : Nat} (h : n ≠ 0) : decide ((0 : Int) < n) = true := by simp; omega
theorem dnp {n : Nat} (h : n = 0) : decide ((0 : Int) < n) = false := by simp [h]
theorem getD_app {α : Type} (l : List α) (x d : α) (i : Nat) (hi : i < l.length + 1) : (l ++ [x]).getD i d = bif decide (i < l.length) then l.getD i d else x := by
  by_cases h : i < l.length
  · simp [h, List.getElem?_append_left h]
  · have : i = l.length := by omega
    subst this
    simp
set_option linter.unusedSimpArgs false
set_option linter.unusedVariables false
def Ret (d : D) : D → List Ob → Prop := fun d' h => d' = d ∧ h = []
attribute [go_sem] Ret
theorem Ret.flat {d : D} (hd : d.flat = true) : ∀ d' h, Ret d d' h → d'.flat = true ∧ ∀ o ∈ h, o.flat := by
  rintro d' h ⟨rfl, rfl⟩; exact ⟨hd, by simp⟩

theorem getD_take {α : Type} (l : List α) (d : α) (k : Nat) (h : k < l.length) : l.take (k + 1) = l.take k ++ [l.getD k d] := by
  rw [List.take_add_one, List.getElem?_eq_getElem h]; simp [List.getD_eq_getElem?_getD, List.getElem?_eq_getElem h]

theorem mixed : Tryz.prog.follows .mixedOrders = true := by kernel_rfl
theorem getD_lt {α : Type} (l : List α) (x d : α) (i : Nat) (h : i < l.length) : (l ++ [x]).getD i d = l.getD i d := by simp [List.getElem?_append_left h]
theorem getD_end {α : Type} (l : List α) (x d : α) : (l ++ [x]).getD l.length d = x := by simp
theorem getD_set_eq {α : Type} (l : List α) (x d : α) (i : Nat) (h : i < l.length) : (l.set i x).getD i d = x := by simp [h]
theorem getD_set_ne' {α : Type} (l : List α) (x d : α) (i j : Nat) (h : j ≠ i) : (l.set j x).getD i d = l.getD i d := by simp [List.getElem?_set_ne h]
theorem getD_map {α β : Type} (f : α → β) (l : List α) (d : α) (e : β) (i : Nat) (h : i < l.length) : (l.map f).getD i e = f (l.getD i d) := by simp [List.getD_eq_getElem?_getD, h]
theorem getD_mem {α : Type} (l : List α) (d : α) (i : Nat) (h : i < l.length) : l.getD i d ∈ l := by simp [List.getD_eq_getElem?_getD, h]
/-- Rows of which one more is as it should be. -/
theorem wf_i64 {n : Int} (h : (Lit.int .i64 n).wf = true) : -9223372036854775808 ≤ n ∧ n ≤ 9223372036854775807 := by
  simp only [Lit.wf, Bool.and_eq_true, decide_eq_true_eq] at h
  exact h
theorem wf_u64 {n : Int} (h : (Lit.int .u64 n).wf = true) : 0 ≤ n ∧ n ≤ 18446744073709551615 := by
  simp only [Lit.wf, Bool.and_eq_true, decide_eq_true_eq] at h
  exact h
theorem wf_u16 {n : Int} (h : (Lit.int .u16 n).wf = true) : 0 ≤ n ∧ n ≤ 65535 := by
  simp only [Lit.wf, Bool.and_eq_true, decide_eq_true_eq] at h
  exact h
theorem wrapu {n : Int} (h1 : 0 ≤ n) (h2 : n ≤ 18446744073709551615) : IntKind.u64.wrap n = n := by rw [IntKind.wrap_u64]; omega
@[go_sem] theorem cast0 : ((0 : Nat) : Int) = 0 := rfl
@[go_sem] theorem cast1 : ((1 : Nat) : Int) = 1 := rfl
@[go_sem] theorem cast2 : ((2 : Nat) : Int) = 2 := rfl
@[go_sem] theorem cast3 : ((3 : Nat) : Int) = 3 := rfl
@[go_sem] theorem cast4 : ((4 : Nat) : Int) = 4 := rfl
@[go_sem] theorem cast5 : ((5 : Nat) : Int) = 5 := rfl
@[go_sem] theorem cast6 : ((6 : Nat) : Int) = 6 := rfl
@[go_sem] theorem cast7 : ((7 : Nat) : Int) = 7 := rfl
@[go_sem] theorem cast8 : ((8 : Nat) : Int) = 8 := rfl
@[go_sem] theorem cast9 : ((9 : Nat) : Int) = 9 := rfl
@[go_sem] theorem cast10 : ((10 : Nat) : Int) = 10 := rfl
theorem beqT {a b : Int} (h : a = b) : (a == b) = true := by simp [h]
theorem beqF {a b : Int} (h : a ≠ b) : (a == b) = false := by simp [h]
theorem bneF {a b : Int} (h : a = b) : (a != b) = false := by simp [h]
theorem bneT {a b : Int} (h : a ≠ b) : (a != b) = true := by simp [h]
end Go.Fg.X
namespace Go.Fg.X
set_option linter.unusedSimpArgs false
set_option linter.unusedVariables false
open Go.Proofs Go.Fg
@[go_sem] def u64 (n : Nat) : D := .raw (.int .u64 n)
attribute [go_sem] Go.undef
theorem wu_add (a b : Nat) : IntKind.u64.wrap ((a : Int) + (b : Int)) = (((a + b) % 18446744073709551616 : Nat) : Int) := by rw [IntKind.wrap_u64]; omega
theorem wu_mul (a b : Nat) : IntKind.u64.wrap ((a : Int) * (b : Int)) = ((a * b % 18446744073709551616 : Nat) : Int) := by rw [IntKind.wrap_u64, ← Int.natCast_mul]; omega
theorem wu_sub (a b : Nat) (h : b ≤ 18446744073709551616) : IntKind.u64.wrap ((a : Int) - (b : Int)) = (((a + 18446744073709551616 - b) % 18446744073709551616 : Nat) : Int) := by rw [IntKind.wrap_u64]; omega
theorem wu_sub' (a b : Nat) (h : b ≤ a) (ha : a < 18446744073709551616) : IntKind.u64.wrap ((a : Int) - (b : Int)) = ((a - b : Nat) : Int) := by rw [IntKind.wrap_u64]; omega
theorem wu_add' (a b : Nat) (h : a + b < 18446744073709551616) : IntKind.u64.wrap ((a : Int) + (b : Int)) = ((a + b : Nat) : Int) := by rw [IntKind.wrap_u64]; omega
theorem wu_mul' (a b : Nat) (h : a * b < 18446744073709551616) : IntKind.u64.wrap ((a : Int) * (b : Int)) = ((a * b : Nat) : Int) := by rw [wu_mul, Nat.mod_eq_of_lt h]
theorem shr_u (a s : Nat) : ((a : Int).fdiv (2 ^ s)) = ((a / 2 ^ s : Nat) : Int) := by
  have h : ((2 : Int) ^ s) = ((2 ^ s : Nat) : Int) := by simp
  rw [h, Int.fdiv_eq_ediv_of_nonneg _ (Int.natCast_nonneg _), Int.natCast_ediv]
theorem mask32 (a : Nat) (ha : a < 18446744073709551616) : bits .and .u64 (a : Int) 4294967295 = ((a % 4294967296 : Nat) : Int) := by
  have := u64_and_nat a 4294967295 ha (by decide)
  rw [show ((4294967295 : Nat) : Int) = 4294967295 from rfl] at this
  rw [this, show (4294967295 : Nat) = 2 ^ 32 - 1 from rfl, Nat.and_two_pow_sub_one_eq_mod]
theorem or32 (x y : Nat) (hx : x < 4294967296) (hy : y < 4294967296) : bits .or .u64 ((x * 4294967296 : Nat) : Int) (y : Int) = ((x * 4294967296 + y : Nat) : Int) := by
  rw [u64_or_nat _ _ (by omega) (by omega), nat_join 32 _ _ (by rw [show (2 : Nat) ^ 32 = 4294967296 from rfl]; omega) (by simpa using hy)]
theorem top_lt (a : Nat) (ha : a < 18446744073709551616) : a / 9223372036854775808 = 0 ∨ a / 9223372036854775808 = 1 := by omega
theorem top_and (a b : Nat) (ha : a < 18446744073709551616) (hb : b < 18446744073709551616) : (a &&& b) / 9223372036854775808 = (a / 9223372036854775808) &&& (b / 9223372036854775808) := by
  rw [show (9223372036854775808 : Nat) = 2 ^ 63 from rfl, ← Nat.shiftRight_eq_div_pow, Nat.shiftRight_and_distrib, Nat.shiftRight_eq_div_pow, Nat.shiftRight_eq_div_pow]
theorem top_or (a b : Nat) (ha : a < 18446744073709551616) (hb : b < 18446744073709551616) : (a ||| b) / 9223372036854775808 = (a / 9223372036854775808) ||| (b / 9223372036854775808) := by
  rw [show (9223372036854775808 : Nat) = 2 ^ 63 from rfl, ← Nat.shiftRight_eq_div_pow, Nat.shiftRight_or_distrib, Nat.shiftRight_eq_div_pow, Nat.shiftRight_eq_div_pow]
theorem top_xor (a b : Nat) (ha : a < 18446744073709551616) (hb : b < 18446744073709551616) : (a ^^^ b) / 9223372036854775808 = (a / 9223372036854775808) ^^^ (b / 9223372036854775808) := by
  rw [show (9223372036854775808 : Nat) = 2 ^ 63 from rfl, ← Nat.shiftRight_eq_div_pow, Nat.shiftRight_xor_distrib, Nat.shiftRight_eq_div_pow, Nat.shiftRight_eq_div_pow]
/-- The borrow of a difference of two words and a bit. -/
theorem borrow_eq (a b c x y z u v : Nat) (ha : a < 18446744073709551616) (hb : b < 18446744073709551616) (hc : c < 2) (hl : u = (a + 18446744073709551616 - b + 18446744073709551616 - c) % 18446744073709551616)
    (hx : x = a / 9223372036854775808) (hy : y = b / 9223372036854775808) (hz : z = u / 9223372036854775808) (hv : v = (1 ^^^ x) &&& y ||| ((1 ^^^ (x ^^^ y)) &&& z)) : v = if a < b + c then 1 else 0 := by
  have h1 := top_lt a ha
  have h2 := top_lt b hb
  have h3 := top_lt u (by omega)
  rw [← hx] at h1; rw [← hy] at h2; rw [← hz] at h3
  rcases h1 with h1 | h1 <;> rcases h2 with h2 | h2 <;> rcases h3 with h3 | h3 <;> (rw [h1, h2, h3] at hv; simp at hv; subst hv; split <;> omega)
theorem carry_eq (a b c x y z u v : Nat) (ha : a < 18446744073709551616) (hb : b < 18446744073709551616) (hc : c < 2) (hl : u = (a + b + c) % 18446744073709551616)
    (hx : x = a / 9223372036854775808) (hy : y = b / 9223372036854775808) (hz : z = u / 9223372036854775808) (hv : v = x &&& y ||| ((x ||| y) &&& (1 - z))) : v = if 18446744073709551616 ≤ a + b + c then 1 else 0 := by
  have h1 := top_lt a ha
  have h2 := top_lt b hb
  have h3 := top_lt u (by omega)
  rw [← hx] at h1; rw [← hy] at h2; rw [← hz] at h3
  rcases h1 with h1 | h1 <;> rcases h2 with h2 | h2 <;> rcases h3 with h3 | h3 <;> (rw [h1, h2, h3] at hv; simp at hv; subst hv; split <;> omega)
end Go.Fg.X
namespace Go.Fg.X
open Go.Proofs Go.Fg
set_option maxRecDepth 100000
set_option maxHeartbeats 4000000
set_option linter.unusedSimpArgs false
set_option linter.unusedVariables false
@[go_sem] def num (n : Nat) : D := .agg [u64 (n / 18446744073709551616), u64 (n % 18446744073709551616)]
theorem mul_parts (a b ah al bh bl : Nat) (ha : a = ah * 4294967296 + al) (hb : b = bh * 4294967296 + bl) (h1 : ah < 4294967296) (h2 : al < 4294967296) (h3 : bh < 4294967296) (h4 : bl < 4294967296) :
    ∃ P Q R S : Nat, P = ah * bh ∧ Q = ah * bl ∧ R = al * bh ∧ S = al * bl ∧ a * b = P * 18446744073709551616 + (Q + R) * 4294967296 + S ∧ P ≤ 18446744065119617025 ∧ Q ≤ 18446744065119617025 ∧ R ≤ 18446744065119617025 ∧ S ≤ 18446744065119617025 := by
  refine ⟨_, _, _, _, rfl, rfl, rfl, rfl, ?_, ?_, ?_, ?_, ?_⟩
  · subst ha hb
    have e : (ah * 4294967296 + al) * (bh * 4294967296 + bl) = ah * bh * (4294967296 * 4294967296) + (ah * bl + al * bh) * 4294967296 + al * bl := by
      simp only [Nat.add_mul, Nat.mul_add, Nat.mul_comm, Nat.mul_left_comm, Nat.mul_assoc]
      omega
    rw [e]
  all_goals (refine Nat.le_trans (Nat.mul_le_mul (Nat.le_sub_one_of_lt ‹_›) (Nat.le_sub_one_of_lt ‹_›)) (by decide))
theorem mul_ok (a b : Nat) (ha : a < 18446744073709551616) (hb : b < 18446744073709551616) : AFn Tryz.prog 22 [u64 a, u64 b] (Ret (num (a * b))) := by
  refine AFn_hxk 0 cx_ok 200 Tryz.func22 rfl Tryz.ntmps22 Tryz.results22 rfl fun base w hb => ?_
  simp only [go_sem, Nat.reduceAdd, Nat.reduceSub, Nat.reduceMul, Nat.reduceBEq, Nat.reduceLT, Nat.reduceLeDiff, Nat.reduceEqDiff, Int.reduceToNat, Int.reduceLE, Int.reduceLT, Int.reduceAdd, Int.reduceSub, Int.reduceNeg, Int.reduceBEq, Int.reduceBNe, Nat.reduceBNe, Nat.reduceDiv, Nat.reduceMod]
  have e32 : (2 : Nat) ^ min 32 64 = 4294967296 := rfl
  have i32 : (2 : Int) ^ min 32 64 = ((4294967296 : Nat) : Int) := rfl
  obtain ⟨P, Q, R, S, hP, hQ, hR, hS, hab, bP, bQ, bR, bS⟩ := mul_parts a b (a / 4294967296) (a % 4294967296) (b / 4294967296) (b % 4294967296) (by omega) (by omega) (by omega) (by omega) (by omega) (by omega)
  have s32 : ∀ x : Nat, ((x : Int)).fdiv ((4294967296 : Nat) : Int) = ((x / 4294967296 : Nat) : Int) := fun x => by have := shr_u x 32; rwa [show (2 : Int) ^ 32 = ((4294967296 : Nat) : Int) from rfl, show (2 : Nat) ^ 32 = 4294967296 from rfl] at this
  simp (disch := omega) only [s32, mask32, i32, wu_mul, wu_add, ← hP, ← hQ, ← hR, ← hS, hab]
  have k2 : ∀ X : Nat, X * 4294967296 % 18446744073709551616 = X % 4294967296 * 4294967296 := fun X => by omega
  rw [k2, or32 _ _ (by omega) (by omega)]
  have e1 : ((P % 18446744073709551616 + ((Q % 18446744073709551616 + S % 18446744073709551616 / 4294967296) % 18446744073709551616) / 4294967296) % 18446744073709551616 + ((R % 18446744073709551616 + ((Q % 18446744073709551616 + S % 18446744073709551616 / 4294967296) % 18446744073709551616) % 4294967296) % 18446744073709551616) / 4294967296) % 18446744073709551616 = (P * 18446744073709551616 + (Q + R) * 4294967296 + S) / 18446744073709551616 := by omega
  have e2 : ((R % 18446744073709551616 + ((Q % 18446744073709551616 + S % 18446744073709551616 / 4294967296) % 18446744073709551616) % 4294967296) % 18446744073709551616) % 4294967296 * 4294967296 + S % 18446744073709551616 % 4294967296 = (P * 18446744073709551616 + (Q + R) * 4294967296 + S) % 18446744073709551616 := by omega
  rw [e1, e2]
theorem cmp_ok (a b : Nat) (ha : a < 2 ^ 128) (hb : b < 2 ^ 128) : AFn Tryz.prog 50 [num a, num b] (Ret (dint (if a < b then -1 else if a = b then 0 else 1))) := by
  refine AFn_hxk 0 cx_ok 200 Tryz.func50 rfl Tryz.ntmps50 Tryz.results50 rfl fun base w hb => ?_
  simp only [go_sem, Nat.reduceAdd, Nat.reduceSub, Nat.reduceMul, Nat.reduceBEq, Nat.reduceLT, Nat.reduceLeDiff, Nat.reduceEqDiff, Int.reduceToNat, Int.reduceLE, Int.reduceLT, Int.reduceAdd, Int.reduceSub, Int.reduceNeg, Int.reduceBEq, Int.reduceBNe, Nat.reduceBNe, Nat.reduceDiv, Nat.reduceMod]
  refine hite_intro (fun h1 => ?_) (fun h1 => ?_)
  · simp only [go_sem, Nat.reduceAdd, Nat.reduceSub, Nat.reduceMul, Nat.reduceBEq, Nat.reduceLT, Nat.reduceLeDiff, Nat.reduceEqDiff, Int.reduceToNat, Int.reduceLE, Int.reduceLT, Int.reduceAdd, Int.reduceSub, Int.reduceNeg, Int.reduceBEq, Int.reduceBNe, Nat.reduceBNe, Nat.reduceDiv, Nat.reduceMod, h1]
    have := of_decide_eq_true h1
    rw [if_pos (by omega)]
  simp only [go_sem, Nat.reduceAdd, Nat.reduceSub, Nat.reduceMul, Nat.reduceBEq, Nat.reduceLT, Nat.reduceLeDiff, Nat.reduceEqDiff, Int.reduceToNat, Int.reduceLE, Int.reduceLT, Int.reduceAdd, Int.reduceSub, Int.reduceNeg, Int.reduceBEq, Int.reduceBNe, Nat.reduceBNe, Nat.reduceDiv, Nat.reduceMod, h1]
  have h1' := of_decide_eq_false h1
  refine hite_intro (fun h2 => ?_) (fun h2 => ?_)
  · have h2' : a / 18446744073709551616 = b / 18446744073709551616 := by have := eq_of_beq h2; omega
    simp only [go_sem, Nat.reduceAdd, Nat.reduceSub, Nat.reduceMul, Nat.reduceBEq, Nat.reduceLT, Nat.reduceLeDiff, Nat.reduceEqDiff, Int.reduceToNat, Int.reduceLE, Int.reduceLT, Int.reduceAdd, Int.reduceSub, Int.reduceNeg, Int.reduceBEq, Int.reduceBNe, Nat.reduceBNe, Nat.reduceDiv, Nat.reduceMod, h2]
    refine hite_intro (fun h3 => ?_) (fun h3 => ?_)
    · have := of_decide_eq_true h3
      simp only [go_sem, Nat.reduceAdd, Nat.reduceSub, Nat.reduceMul, Nat.reduceBEq, Nat.reduceLT, Nat.reduceLeDiff, Nat.reduceEqDiff, Int.reduceToNat, Int.reduceLE, Int.reduceLT, Int.reduceAdd, Int.reduceSub, Int.reduceNeg, Int.reduceBEq, Int.reduceBNe, Nat.reduceBNe, Nat.reduceDiv, Nat.reduceMod, h3]
      rw [if_pos (by omega)]
    · have h3' := of_decide_eq_false h3
      simp only [go_sem, Nat.reduceAdd, Nat.reduceSub, Nat.reduceMul, Nat.reduceBEq, Nat.reduceLT, Nat.reduceLeDiff, Nat.reduceEqDiff, Int.reduceToNat, Int.reduceLE, Int.reduceLT, Int.reduceAdd, Int.reduceSub, Int.reduceNeg, Int.reduceBEq, Int.reduceBNe, Nat.reduceBNe, Nat.reduceDiv, Nat.reduceMod, h3]
      refine hite_intro (fun h4 => ?_) (fun h4 => ?_)
      · simp only [go_sem, Nat.reduceAdd, Nat.reduceSub, Nat.reduceMul, Nat.reduceBEq, Nat.reduceLT, Nat.reduceLeDiff, Nat.reduceEqDiff, Int.reduceToNat, Int.reduceLE, Int.reduceLT, Int.reduceAdd, Int.reduceSub, Int.reduceNeg, Int.reduceBEq, Int.reduceBNe, Nat.reduceBNe, Nat.reduceDiv, Nat.reduceMod, h4]
        simp only [Bool.and_eq_true, beq_iff_eq] at h4
        rw [if_neg (by omega), if_pos (by omega)]
      · simp only [go_sem, Nat.reduceAdd, Nat.reduceSub, Nat.reduceMul, Nat.reduceBEq, Nat.reduceLT, Nat.reduceLeDiff, Nat.reduceEqDiff, Int.reduceToNat, Int.reduceLE, Int.reduceLT, Int.reduceAdd, Int.reduceSub, Int.reduceNeg, Int.reduceBEq, Int.reduceBNe, Nat.reduceBNe, Nat.reduceDiv, Nat.reduceMod, h4]
        simp only [Bool.and_eq_false_iff, beq_eq_false_iff_ne] at h4
        rw [if_neg (by omega), if_neg (by omega)]
  · have h2' := ne_of_beq_false h2
    simp only [go_sem, Nat.reduceAdd, Nat.reduceSub, Nat.reduceMul, Nat.reduceBEq, Nat.reduceLT, Nat.reduceLeDiff, Nat.reduceEqDiff, Int.reduceToNat, Int.reduceLE, Int.reduceLT, Int.reduceAdd, Int.reduceSub, Int.reduceNeg, Int.reduceBEq, Int.reduceBNe, Nat.reduceBNe, Nat.reduceDiv, Nat.reduceMod, h2, Bool.false_and]
    rw [if_neg (by omega), if_neg (by omega)]
theorem borrow_bits (a b c u : Nat) (ha : a < 18446744073709551616) (hb : b < 18446744073709551616) (hc : c < 2) (hl : u = (a + 18446744073709551616 - b + 18446744073709551616 - c) % 18446744073709551616) :
    (bits BinOp.or IntKind.u64 (bits BinOp.and IntKind.u64 (bits BinOp.xor IntKind.u64 (if IntKind.u64.signed = true then -1 else IntKind.u64.max) (a : Int)) (b : Int)) (bits BinOp.and IntKind.u64 (bits BinOp.xor IntKind.u64 (if IntKind.u64.signed = true then -1 else IntKind.u64.max) (bits BinOp.xor IntKind.u64 (a : Int) (b : Int))) (u : Int))).fdiv (2 ^ min 63 64) = ((if a < b + c then 1 else 0 : Nat) : Int) := by
  have em : (if IntKind.u64.signed = true then -1 else IntKind.u64.max) = ((18446744073709551615 : Nat) : Int) := by decide
  have hx : a ^^^ b < 2 ^ 64 := Nat.xor_lt_two_pow (by omega) (by omega)
  have hx1 : 18446744073709551615 ^^^ a < 2 ^ 64 := Nat.xor_lt_two_pow (by omega) (by omega)
  have hx2 : 18446744073709551615 ^^^ (a ^^^ b) < 2 ^ 64 := Nat.xor_lt_two_pow (by omega) (by omega)
  have hx3 : (18446744073709551615 ^^^ a) &&& b < 2 ^ 64 := Nat.and_lt_two_pow _ (by omega)
  have hx4 : (18446744073709551615 ^^^ (a ^^^ b)) &&& u < 2 ^ 64 := Nat.and_lt_two_pow _ (by omega)
  rw [em, u64_xor_nat a b ha hb, u64_xor_nat _ a (by decide) ha, u64_xor_nat _ _ (by decide) (by omega), u64_and_nat _ b (by omega) hb, u64_and_nat _ u (by omega) (by omega), u64_or_nat _ _ (by omega) (by omega), shr_u]
  rw [show (2 : Nat) ^ min 63 64 = 9223372036854775808 from rfl, top_or _ _ (by omega) (by omega), top_and _ _ (by omega) (by omega), top_and _ _ (by omega) (by omega), top_xor _ _ (by omega) (by omega), top_xor _ _ (by omega) (by omega), top_xor _ _ (by omega) (by omega)]
  rw [borrow_eq a b c _ _ _ u _ ha hb hc hl rfl rfl rfl rfl]
theorem sub1_ok (a b : Nat) (c : Nat) (ha : a < 18446744073709551616) (hb : b < 18446744073709551616) (hc : c < 2) : AFn Tryz.prog 90 [u64 a, u64 b, u64 c] (Ret (.tup [u64 ((a + 18446744073709551616 - b + 18446744073709551616 - c) % 18446744073709551616), u64 (if a < b + c then 1 else 0)])) := by
  refine AFn_hxk 0 cx_ok 200 Tryz.func90 rfl Tryz.ntmps90 Tryz.results90 rfl fun base w hb => ?_
  simp only [go_sem, Nat.reduceAdd, Nat.reduceSub, Nat.reduceMul, Nat.reduceBEq, Nat.reduceLT, Nat.reduceLeDiff, Nat.reduceEqDiff, Int.reduceToNat, Int.reduceLE, Int.reduceLT, Int.reduceAdd, Int.reduceSub, Int.reduceNeg, Int.reduceBEq, Int.reduceBNe, Nat.reduceBNe, Nat.reduceDiv, Nat.reduceMod]
  have h2 : IntKind.u64.wrap (IntKind.u64.wrap ((a : Int) - (b : Int)) - (c : Int)) = (((a + 18446744073709551616 - b + 18446744073709551616 - c) % 18446744073709551616 : Nat) : Int) := by
    rw [wu_sub a b (by omega), wu_sub _ c (by omega)]; omega
  rw [h2, borrow_bits a b c _ ha ‹_› hc rfl]
theorem sub_ok (a b : Nat) (ha : a < 2 ^ 128) (hb : b < 2 ^ 128) : AFn Tryz.prog 52 [num a, num b] (Ret (.tup [num ((a + 2 ^ 128 - b) % 2 ^ 128), dbool (decide (a < b))])) := by
  refine AFn_hxk 0 cx_ok 200 Tryz.func52 rfl Tryz.ntmps52 Tryz.results52 rfl fun base w hb => ?_
  simp only [go_sem, Nat.reduceAdd, Nat.reduceSub, Nat.reduceMul, Nat.reduceBEq, Nat.reduceLT, Nat.reduceLeDiff, Nat.reduceEqDiff, Int.reduceToNat, Int.reduceLE, Int.reduceLT, Int.reduceAdd, Int.reduceSub, Int.reduceNeg, Int.reduceBEq, Int.reduceBNe, Nat.reduceBNe, Nat.reduceDiv, Nat.reduceMod]
  refine kont_call hb fn90 rfl ?_ (sub1_ok (a % 18446744073709551616) (b % 18446744073709551616) 0 (by omega) (by omega) (by omega)) (Ret.flat rfl) rfl fun d h hR => ?_
  · simp only [go_sem, Nat.reduceAdd, Nat.reduceSub, Nat.reduceMul, Nat.reduceBEq, Nat.reduceLT, Nat.reduceLeDiff, Nat.reduceEqDiff, Int.reduceToNat, Int.reduceLE, Int.reduceLT, Int.reduceAdd, Int.reduceSub, Int.reduceNeg, Int.reduceBEq, Int.reduceBNe, Nat.reduceBNe, Nat.reduceDiv, Nat.reduceMod]
  obtain ⟨rfl, rfl⟩ := hR
  refine kont_of_hx cx_ok hb 200 ?_
  simp only [go_sem, Nat.reduceAdd, Nat.reduceSub, Nat.reduceMul, Nat.reduceBEq, Nat.reduceLT, Nat.reduceLeDiff, Nat.reduceEqDiff, Int.reduceToNat, Int.reduceLE, Int.reduceLT, Int.reduceAdd, Int.reduceSub, Int.reduceNeg, Int.reduceBEq, Int.reduceBNe, Nat.reduceBNe, Nat.reduceDiv, Nat.reduceMod]
  refine kont_call hb fn90 rfl ?_ (sub1_ok (a / 18446744073709551616) (b / 18446744073709551616) (if a % 18446744073709551616 < b % 18446744073709551616 + 0 then 1 else 0) (by omega) (by omega) (by split <;> omega)) (Ret.flat rfl) rfl fun d h hR => ?_
  · simp only [go_sem, Nat.reduceAdd, Nat.reduceSub, Nat.reduceMul, Nat.reduceBEq, Nat.reduceLT, Nat.reduceLeDiff, Nat.reduceEqDiff, Int.reduceToNat, Int.reduceLE, Int.reduceLT, Int.reduceAdd, Int.reduceSub, Int.reduceNeg, Int.reduceBEq, Int.reduceBNe, Nat.reduceBNe, Nat.reduceDiv, Nat.reduceMod]
  obtain ⟨rfl, rfl⟩ := hR
  refine kont_of_hx cx_ok hb 200 ?_
  simp only [go_sem, Nat.reduceAdd, Nat.reduceSub, Nat.reduceMul, Nat.reduceBEq, Nat.reduceLT, Nat.reduceLeDiff, Nat.reduceEqDiff, Int.reduceToNat, Int.reduceLE, Int.reduceLT, Int.reduceAdd, Int.reduceSub, Int.reduceNeg, Int.reduceBEq, Int.reduceBNe, Nat.reduceBNe, Nat.reduceDiv, Nat.reduceMod]
  have e1 : ∀ x : Nat, (((if x = 1 then (1 : Nat) else 0 : Nat) : Int) != 0) = decide (x = 1) := fun x => by by_cases h : x = 1 <;> simp [h]
  have e2 : (((if a / 18446744073709551616 < b / 18446744073709551616 + if a % 18446744073709551616 < b % 18446744073709551616 then 1 else 0 then 1 else 0 : Nat) : Int) != 0) = decide (a < b) := by
    by_cases h1 : a % 18446744073709551616 < b % 18446744073709551616
    · rw [if_pos h1]
      by_cases h2 : a / 18446744073709551616 < b / 18446744073709551616 + 1
      · rw [if_pos h2]; simp; omega
      · rw [if_neg h2]; simp; omega
    · rw [if_neg h1]
      by_cases h2 : a / 18446744073709551616 < b / 18446744073709551616 + 0
      · rw [if_pos h2]; simp; omega
      · rw [if_neg h2]; simp; omega
  have e3 : (a / 18446744073709551616 + 18446744073709551616 - b / 18446744073709551616 + 18446744073709551616 - if a % 18446744073709551616 < b % 18446744073709551616 then 1 else 0) % 18446744073709551616 = (a + 2 ^ 128 - b) % 2 ^ 128 / 18446744073709551616 := by
    split <;> omega
  have e4 : (a % 18446744073709551616 + 18446744073709551616 - b % 18446744073709551616 + 18446744073709551616 - 0) % 18446744073709551616 = (a + 2 ^ 128 - b) % 2 ^ 128 % 18446744073709551616 := by omega
  rw [e2, e3, e4]
theorem carry_bits (a b c u : Nat) (ha : a < 18446744073709551616) (hb : b < 18446744073709551616) (hc : c < 2) (hl : u = (a + b + c) % 18446744073709551616) :
    (bits BinOp.or IntKind.u64 (bits BinOp.and IntKind.u64 (a : Int) (b : Int)) (bits BinOp.andNot IntKind.u64 (bits BinOp.or IntKind.u64 (a : Int) (b : Int)) (u : Int))).fdiv (2 ^ min 63 64) = ((if 18446744073709551616 ≤ a + b + c then 1 else 0 : Nat) : Int) := by
  have hx : a ||| b < 2 ^ 64 := Nat.or_lt_two_pow (by omega) (by omega)
  have hx3 : a &&& b < 2 ^ 64 := Nat.and_lt_two_pow _ (by omega)
  have hx4 : (a ||| b) &&& (18446744073709551615 - u) < 2 ^ 64 := Nat.and_lt_two_pow _ (by omega)
  rw [u64_and_nat a b ha hb, u64_or_nat a b ha hb, u64_andNot_nat _ u (by omega) (by omega), u64_or_nat _ _ (by omega) (by omega), shr_u]
  rw [show (2 : Nat) ^ min 63 64 = 9223372036854775808 from rfl, top_or _ _ (by omega) (by omega), top_and _ _ (by omega) (by omega), top_and _ _ (by omega) (by omega), top_or _ _ (by omega) (by omega)]
  rw [show (18446744073709551615 - u) / 9223372036854775808 = 1 - u / 9223372036854775808 by omega]
  rw [carry_eq a b c _ _ _ u _ ha hb hc hl rfl rfl rfl rfl]
theorem add1_ok (a b : Nat) (c : Nat) (ha : a < 18446744073709551616) (hb : b < 18446744073709551616) (hc : c < 2) : AFn Tryz.prog 112 [u64 a, u64 b, u64 c] (Ret (.tup [u64 ((a + b + c) % 18446744073709551616), u64 (if 18446744073709551616 ≤ a + b + c then 1 else 0)])) := by
  refine AFn_hxk 0 cx_ok 200 Tryz.func112 rfl Tryz.ntmps112 Tryz.results112 rfl fun base w hb => ?_
  simp only [go_sem, Nat.reduceAdd, Nat.reduceSub, Nat.reduceMul, Nat.reduceBEq, Nat.reduceLT, Nat.reduceLeDiff, Nat.reduceEqDiff, Int.reduceToNat, Int.reduceLE, Int.reduceLT, Int.reduceAdd, Int.reduceSub, Int.reduceNeg, Int.reduceBEq, Int.reduceBNe, Nat.reduceBNe, Nat.reduceDiv, Nat.reduceMod]
  have h2 : IntKind.u64.wrap (IntKind.u64.wrap ((a : Int) + (b : Int)) + (c : Int)) = (((a + b + c) % 18446744073709551616 : Nat) : Int) := by
    rw [wu_add, wu_add]; omega
  rw [h2, carry_bits a b c _ ha ‹_› hc rfl]
theorem add_ok (a b : Nat) (ha : a < 2 ^ 128) (hb : b < 2 ^ 128) : AFn Tryz.prog 88 [num a, num b] (Ret (.tup [num ((a + b) % 2 ^ 128), dbool (decide (2 ^ 128 ≤ a + b))])) := by
  refine AFn_hxk 0 cx_ok 200 Tryz.func88 rfl Tryz.ntmps88 Tryz.results88 rfl fun base w hb => ?_
  simp only [go_sem, Nat.reduceAdd, Nat.reduceSub, Nat.reduceMul, Nat.reduceBEq, Nat.reduceLT, Nat.reduceLeDiff, Nat.reduceEqDiff, Int.reduceToNat, Int.reduceLE, Int.reduceLT, Int.reduceAdd, Int.reduceSub, Int.reduceNeg, Int.reduceBEq, Int.reduceBNe, Nat.reduceBNe, Nat.reduceDiv, Nat.reduceMod]
  refine kont_call hb fn112 rfl ?_ (add1_ok (a % 18446744073709551616) (b % 18446744073709551616) 0 (by omega) (by omega) (by omega)) (Ret.flat rfl) rfl fun d h hR => ?_
  · simp only [go_sem, Nat.reduceAdd, Nat.reduceSub, Nat.reduceMul, Nat.reduceBEq, Nat.reduceLT, Nat.reduceLeDiff, Nat.reduceEqDiff, Int.reduceToNat, Int.reduceLE, Int.reduceLT, Int.reduceAdd, Int.reduceSub, Int.reduceNeg, Int.reduceBEq, Int.reduceBNe, Nat.reduceBNe, Nat.reduceDiv, Nat.reduceMod]
  obtain ⟨rfl, rfl⟩ := hR
  refine kont_of_hx cx_ok hb 200 ?_
  simp only [go_sem, Nat.reduceAdd, Nat.reduceSub, Nat.reduceMul, Nat.reduceBEq, Nat.reduceLT, Nat.reduceLeDiff, Nat.reduceEqDiff, Int.reduceToNat, Int.reduceLE, Int.reduceLT, Int.reduceAdd, Int.reduceSub, Int.reduceNeg, Int.reduceBEq, Int.reduceBNe, Nat.reduceBNe, Nat.reduceDiv, Nat.reduceMod]
  refine kont_call hb fn112 rfl ?_ (add1_ok (a / 18446744073709551616) (b / 18446744073709551616) (if 18446744073709551616 ≤ a % 18446744073709551616 + b % 18446744073709551616 + 0 then 1 else 0) (by omega) (by omega) (by split <;> omega)) (Ret.flat rfl) rfl fun d h hR => ?_
  · simp only [go_sem, Nat.reduceAdd, Nat.reduceSub, Nat.reduceMul, Nat.reduceBEq, Nat.reduceLT, Nat.reduceLeDiff, Nat.reduceEqDiff, Int.reduceToNat, Int.reduceLE, Int.reduceLT, Int.reduceAdd, Int.reduceSub, Int.reduceNeg, Int.reduceBEq, Int.reduceBNe, Nat.reduceBNe, Nat.reduceDiv, Nat.reduceMod]
  obtain ⟨rfl, rfl⟩ := hR
  refine kont_of_hx cx_ok hb 200 ?_
  simp only [go_sem, Nat.reduceAdd, Nat.reduceSub, Nat.reduceMul, Nat.reduceBEq, Nat.reduceLT, Nat.reduceLeDiff, Nat.reduceEqDiff, Int.reduceToNat, Int.reduceLE, Int.reduceLT, Int.reduceAdd, Int.reduceSub, Int.reduceNeg, Int.reduceBEq, Int.reduceBNe, Nat.reduceBNe, Nat.reduceDiv, Nat.reduceMod]
  have e2 : (((if 18446744073709551616 ≤ a / 18446744073709551616 + b / 18446744073709551616 + (if 18446744073709551616 ≤ a % 18446744073709551616 + b % 18446744073709551616 then 1 else 0) then 1 else 0 : Nat) : Int) != 0) = decide (2 ^ 128 ≤ a + b) := by
    by_cases h1 : 18446744073709551616 ≤ a % 18446744073709551616 + b % 18446744073709551616
    · rw [if_pos h1]
      by_cases h2 : 18446744073709551616 ≤ a / 18446744073709551616 + b / 18446744073709551616 + 1
      · rw [if_pos h2]; simp; omega
      · rw [if_neg h2]; simp; omega
    · rw [if_neg h1]
      by_cases h2 : 18446744073709551616 ≤ a / 18446744073709551616 + b / 18446744073709551616 + 0
      · rw [if_pos h2]; simp; omega
      · rw [if_neg h2]; simp; omega
  have e3 : (a / 18446744073709551616 + b / 18446744073709551616 + if 18446744073709551616 ≤ a % 18446744073709551616 + b % 18446744073709551616 then 1 else 0) % 18446744073709551616 = (a + b) % 2 ^ 128 / 18446744073709551616 := by
    split <;> omega
  have e4 : (a % 18446744073709551616 + b % 18446744073709551616) % 18446744073709551616 = (a + b) % 2 ^ 128 % 18446744073709551616 := by omega

  rw [e2, e3, e4]
theorem of_ok (a : Nat) (ha : a < 18446744073709551616) : AFn Tryz.prog 102 [u64 a] (Ret (num a)) := by
  refine AFn_hxk 0 cx_ok 200 Tryz.func102 rfl Tryz.ntmps102 Tryz.results102 rfl fun base w hb => ?_
  simp only [go_sem, Nat.reduceAdd, Nat.reduceSub, Nat.reduceMul, Nat.reduceBEq, Nat.reduceLT, Nat.reduceLeDiff, Nat.reduceEqDiff, Int.reduceToNat, Int.reduceLE, Int.reduceLT, Int.reduceAdd, Int.reduceSub, Int.reduceNeg, Int.reduceBEq, Int.reduceBNe, Nat.reduceBNe, Nat.reduceDiv, Nat.reduceMod]
  have e1 : a / 18446744073709551616 = 0 := by omega
  have e2 : a % 18446744073709551616 = a := by omega
  rw [e1, e2]; rfl
end Go.Fg.X
namespace Go.Fg.X
open Go.Proofs Go.Fg
set_option maxRecDepth 100000
set_option maxHeartbeats 4000000
set_option linter.unusedSimpArgs false
set_option linter.unusedVariables false
theorem or1 (x y : Nat) (hx : x < 9223372036854775808) (hy : y < 2) : bits .or .u64 ((x * 2 : Nat) : Int) (y : Int) = ((x * 2 + y : Nat) : Int) := by
  rw [u64_or_nat _ _ (by omega) (by omega), nat_join 1 _ _ (by omega) (by omega)]
theorem shr63 (x : Nat) : (x : Int).fdiv (2 ^ min 63 64) = ((x / 9223372036854775808 : Nat) : Int) := by
  have := shr_u x 63
  rwa [show (2 : Int) ^ 63 = 2 ^ min 63 64 from rfl, show (2 : Nat) ^ 63 = 9223372036854775808 from rfl] at this
theorem shl1 (x : Nat) : IntKind.u64.wrap ((x : Int) * 2 ^ min 1 64) = ((x % 9223372036854775808 * 2 : Nat) : Int) := by
  rw [show (2 : Int) ^ min 1 64 = ((2 : Nat) : Int) from rfl, wu_mul]; omega
theorem shl_r (r A : Nat) (hA : A < 2 ^ 128) : bits .or .u64 (IntKind.u64.wrap ((r : Int) * 2 ^ min 1 64)) ((A / 18446744073709551616 / 9223372036854775808 : Nat) : Int) = (((2 * r + A / 2 ^ 127) % 18446744073709551616 : Nat) : Int) := by
  rw [shl1, or1 _ _ (by omega) (by omega)]; congr 1; omega
theorem shl_hi (A : Nat) (hA : A < 2 ^ 128) : bits .or .u64 (IntKind.u64.wrap (((A / 18446744073709551616 : Nat) : Int) * 2 ^ min 1 64)) ((A % 18446744073709551616 / 9223372036854775808 : Nat) : Int) = (((A * 2 % 2 ^ 128) / 18446744073709551616 : Nat) : Int) := by
  rw [shl1, or1 _ _ (by omega) (by omega)]; congr 1; omega
theorem shl_lo (A : Nat) : IntKind.u64.wrap (((A % 18446744073709551616 : Nat) : Int) * 2 ^ min 1 64) = (((A * 2 % 2 ^ 128) % 18446744073709551616 : Nat) : Int) := by
  rw [shl1]; congr 1; omega
theorem or_one (x : Nat) : bits .or .u64 (((x * 2 % 2 ^ 128) % 18446744073709551616 : Nat) : Int) 1 = ((((x * 2 + 1) % 2 ^ 128) % 18446744073709551616 : Nat) : Int) := by
  have := or1 ((x * 2 % 2 ^ 128) % 18446744073709551616 / 2) 1 (by omega) (by omega)
  rw [show (x * 2 % 2 ^ 128) % 18446744073709551616 / 2 * 2 = (x * 2 % 2 ^ 128) % 18446744073709551616 by omega] at this
  rw [show ((1 : Nat) : Int) = 1 from rfl] at this
  rw [this]; congr 1; omega
theorem bnT {n : Nat} (h : n ≠ 0) : ((n : Int) != 0) = true := by simp [h]
theorem bnF {n : Nat} (h : n = 0) : ((n : Int) != 0) = false := by simp [h]
theorem top_step (a k : Nat) (hk : k < 128) : a / 2 ^ (128 - (k + 1)) = 2 * (a / 2 ^ (128 - k)) + (a * 2 ^ k % 2 ^ 128) / 2 ^ 127 := by
  obtain ⟨m, hm⟩ : ∃ m, m = 127 - k := ⟨_, rfl⟩
  have e1 : 128 - (k + 1) = m := by omega
  have e2 : 128 - k = m + 1 := by omega
  have e3 : (2 : Nat) ^ 128 = 2 ^ (m + 1) * 2 ^ k := by rw [← Nat.pow_add]; congr 1; omega
  have e4 : (2 : Nat) ^ 127 = 2 ^ m * 2 ^ k := by rw [← Nat.pow_add]; congr 1; omega
  rw [e1, e2, e3, e4, Nat.mul_mod_mul_right, Nat.mul_div_mul_right _ _ (Nat.two_pow_pos k), Nat.pow_succ]
  have hM := Nat.two_pow_pos m
  generalize 2 ^ m = M at *
  have h1 := Nat.div_add_mod a (M * 2)
  have h2 : a = M * (2 * (a / (M * 2))) + a % (M * 2) := by rw [← Nat.mul_assoc]; omega
  conv => lhs; rw [h2]
  rw [Nat.mul_add_div hM]
theorem shift_step (a k : Nat) : a * 2 ^ k % 2 ^ 128 * 2 % 2 ^ 128 = a * 2 ^ (k + 1) % 2 ^ 128 := by
  have : a * 2 ^ (k + 1) = a * 2 ^ k * 2 := by rw [Nat.pow_succ, Nat.mul_assoc]
  rw [this]; omega
theorem div_step (t b β : Nat) (hb : 0 < b) (hβ : β < 2) :
    (b ≤ 2 * (t % b) + β → (2 * t + β) / b = 2 * (t / b) + 1 ∧ (2 * t + β) % b = 2 * (t % b) + β - b) ∧ (2 * (t % b) + β < b → (2 * t + β) / b = 2 * (t / b) ∧ (2 * t + β) % b = 2 * (t % b) + β) := by
  have h1 := Nat.div_add_mod t b
  have h2 := Nat.mod_lt t hb
  constructor
  · intro h
    refine (Nat.div_mod_unique hb).2 ⟨?_, by omega⟩
    rw [Nat.mul_add, Nat.mul_left_comm]
    omega
  · intro h
    refine (Nat.div_mod_unique hb).2 ⟨?_, by omega⟩
    rw [Nat.mul_left_comm]
    omega
def dA (a k : Nat) : Nat := a * 2 ^ k % 2 ^ 128
def dT (a k : Nat) : Nat := a / 2 ^ (128 - k)
theorem dT_lt (a k : Nat) (h : a < 2 ^ 128) : dT a k < 2 ^ 128 := Nat.lt_of_le_of_lt (Nat.div_le_self _ _) h
theorem dA_lt (a k : Nat) : dA a k < 2 ^ 128 := Nat.mod_lt _ (by decide)
theorem div_ok (a b : Nat) (ha : a < 2 ^ 128) (hb : b < 18446744073709551616) : AFn Tryz.prog 113 [num a, u64 b] (Ret (.tup [num (if b = 0 then 0 else a / b), u64 (if b = 0 then 0 else a % b), dint (if b = 0 then 1 else 0)])) := by
  refine AFn_hxk 0 cx_ok 200 Tryz.func113 rfl Tryz.ntmps113 Tryz.results113 rfl fun base w hb => ?_
  simp only [go_sem, Nat.reduceAdd, Nat.reduceSub, Nat.reduceMul, Nat.reduceBEq, Nat.reduceLT, Nat.reduceLeDiff, Nat.reduceEqDiff, Int.reduceToNat, Int.reduceLE, Int.reduceLT, Int.reduceAdd, Int.reduceSub, Int.reduceNeg, Int.reduceBEq, Int.reduceBNe, Nat.reduceBNe, Nat.reduceDiv, Nat.reduceMod]
  by_cases hb0 : b = 0
  · subst hb0
    simp only [go_sem, Nat.reduceAdd, Nat.reduceSub, Nat.reduceMul, Nat.reduceBEq, Nat.reduceLT, Nat.reduceLeDiff, Nat.reduceEqDiff, Int.reduceToNat, Int.reduceLE, Int.reduceLT, Int.reduceAdd, Int.reduceSub, Int.reduceNeg, Int.reduceBEq, Int.reduceBNe, Nat.reduceBNe, Nat.reduceDiv, Nat.reduceMod, if_true]
    try rfl
  have hbz := bnz hb0
  simp only [go_sem, Nat.reduceAdd, Nat.reduceSub, Nat.reduceMul, Nat.reduceBEq, Nat.reduceLT, Nat.reduceLeDiff, Nat.reduceEqDiff, Int.reduceToNat, Int.reduceLE, Int.reduceLT, Int.reduceAdd, Int.reduceSub, Int.reduceNeg, Int.reduceBEq, Int.reduceBNe, Nat.reduceBNe, Nat.reduceDiv, Nat.reduceMod, hbz]
  have i1 : dA a 0 = a := by show a * 2 ^ 0 % 2 ^ 128 = a; rw [Nat.pow_zero, Nat.mul_one]; exact Nat.mod_eq_of_lt ha
  have i2 : dT a 0 = 0 := Nat.div_eq_of_lt ha
  refine kont_forF (G := Nat) [1, 2, 4, 7] (fun k => True) (fun k γ => [(8, u64 (dT a k % b)), (13, dint k)]) (fun k γ => [⟨.one, 0, 2, 1, fun _ => [u64 (dA a k / 18446744073709551616), u64 (dA a k % 18446744073709551616)]⟩, ⟨.one, 0, 2, 1, fun _ => [u64 0, u64 0]⟩, ⟨.one, 0, 2, 1, fun _ => [u64 (dT a k / b / 18446744073709551616), u64 (dT a k / b % 18446744073709551616)]⟩]) (128) (0) rfl (Weak.to 3 (by (simp only [go_sem, Nat.reduceAdd, Nat.reduceSub, Nat.reduceMul, Nat.reduceBEq, Nat.reduceLT, Nat.reduceLeDiff, Nat.reduceEqDiff, Int.reduceToNat, Int.reduceLE, Int.reduceLT, Int.reduceAdd, Int.reduceSub, Int.reduceNeg, Int.reduceBEq, Int.reduceBNe, Nat.reduceBNe, Nat.reduceDiv, Nat.reduceMod, i1, i2, Nat.zero_div, Nat.zero_mod]) <;> simp)) trivial ?_
  intro k γ hk _
  replace hk : k ≤ 128 := hk
  refine kont_of_hx cx_ok hb 200 ?_
  simp only [go_sem, Nat.reduceAdd, Nat.reduceSub, Nat.reduceMul, Nat.reduceBEq, Nat.reduceLT, Nat.reduceLeDiff, Nat.reduceEqDiff, Int.reduceToNat, Int.reduceLE, Int.reduceLT, Int.reduceAdd, Int.reduceSub, Int.reduceNeg, Int.reduceBEq, Int.reduceBNe, Nat.reduceBNe, Nat.reduceDiv, Nat.reduceMod]
  have hwr := wrap_succ (show k < 4611686018427387904 by omega)
  first | refine hite_lt hk (fun hk1 => ?_) (fun hk1 => ?_) | refine hite_ltI hk (fun hk1 => ?_) (fun hk1 => ?_)
  · replace hk1 : k < 128 := hk1
    have hlt : decide ((k : Int) < 128) = true := by simp; omega
    have hb1 : 0 < b := by omega
    have t1 : dT a (k + 1) = 2 * dT a k + dA a k / 2 ^ 127 := top_step a k hk1
    have t2 : dA a k * 2 % 2 ^ 128 = dA a (k + 1) := shift_step a k
    have t3 := div_step (dT a k) b (dA a k / 2 ^ 127) hb1 (by have := dA_lt a k; omega)
    have t4 := Nat.mod_lt (dT a k) hb1
    have t5 := dA_lt a k
    have t6 := dT_lt a (k + 1) ha
    rw [← t1] at t3
    have t7 : dT a (k + 1) / b < 2 ^ 128 := Nat.lt_of_le_of_lt (Nat.div_le_self _ _) t6
    have t8 : dT a k / b < 2 ^ 128 := Nat.lt_of_le_of_lt (Nat.div_le_self _ _) (dT_lt a k ha)
    by_cases hge : b ≤ 2 * (dT a k % b) + dA a k / 2 ^ 127
    · obtain ⟨q1, q2⟩ := t3.1 hge
      have e1 : IntKind.u64.wrap ((((2 * (dT a k % b) + dA a k / 2 ^ 127) % 18446744073709551616 : Nat) : Int) - (b : Int)) = ((dT a (k + 1) % b : Nat) : Int) := by
        rw [wu_sub _ b (by omega), q2]; congr 1; omega
      have e2 : dT a k / b * 2 % 2 ^ 128 = dT a k / b * 2 := by omega
      have e3 : ((dT a k / b * 2 + 1) % 2 ^ 128) = dT a (k + 1) / b := by omega
      have e4 : dT a k / b * 2 % 2 ^ 128 / 18446744073709551616 = dT a (k + 1) / b / 18446744073709551616 := by omega
      by_cases ho : dT a k % b / 9223372036854775808 = 0
      · have hcmp : decide (b ≤ (2 * (dT a k % b) + dA a k / 2 ^ 127) % 18446744073709551616) = true := by simp; omega
        have hout : ((((dT a k % b / 9223372036854775808 : Nat)) : Int) != 0) = false := bnF ho
        simp only [go_sem, Nat.reduceAdd, Nat.reduceSub, Nat.reduceMul, Nat.reduceBEq, Nat.reduceLT, Nat.reduceLeDiff, Nat.reduceEqDiff, Int.reduceToNat, Int.reduceLE, Int.reduceLT, Int.reduceAdd, Int.reduceSub, Int.reduceNeg, Int.reduceBEq, Int.reduceBNe, Nat.reduceBNe, Nat.reduceDiv, Nat.reduceMod, hlt, shl_r _ _ (dA_lt a k), shl_hi _ (dA_lt a k), shl_hi _ t8, shl_lo, shr63, hout, hcmp, e1, t2, or_one, e3, e4]
        repeat (refine And.intro (by first | assumption | omega) ?_)
        refine ⟨_, Weak.to 3 (by (simp only [go_sem, Nat.reduceAdd, Nat.reduceSub, Nat.reduceMul, Nat.reduceBEq, Nat.reduceLT, Nat.reduceLeDiff, Nat.reduceEqDiff, Int.reduceToNat, Int.reduceLE, Int.reduceLT, Int.reduceAdd, Int.reduceSub, Int.reduceNeg, Int.reduceBEq, Int.reduceBNe, Nat.reduceBNe, Nat.reduceDiv, Nat.reduceMod, hwr, e1, t2, or_one, e3, e4]) <;> simp), ForS.mk (γ) (trivial)⟩
      · have hout : ((((dT a k % b / 9223372036854775808 : Nat)) : Int) != 0) = true := bnT ho
        simp only [go_sem, Nat.reduceAdd, Nat.reduceSub, Nat.reduceMul, Nat.reduceBEq, Nat.reduceLT, Nat.reduceLeDiff, Nat.reduceEqDiff, Int.reduceToNat, Int.reduceLE, Int.reduceLT, Int.reduceAdd, Int.reduceSub, Int.reduceNeg, Int.reduceBEq, Int.reduceBNe, Nat.reduceBNe, Nat.reduceDiv, Nat.reduceMod, hlt, shl_r _ _ (dA_lt a k), shl_hi _ (dA_lt a k), shl_hi _ t8, shl_lo, shr63, hout, e1, t2, or_one, e3, e4]
        repeat (refine And.intro (by first | assumption | omega) ?_)
        refine ⟨_, Weak.to 3 (by (simp only [go_sem, Nat.reduceAdd, Nat.reduceSub, Nat.reduceMul, Nat.reduceBEq, Nat.reduceLT, Nat.reduceLeDiff, Nat.reduceEqDiff, Int.reduceToNat, Int.reduceLE, Int.reduceLT, Int.reduceAdd, Int.reduceSub, Int.reduceNeg, Int.reduceBEq, Int.reduceBNe, Nat.reduceBNe, Nat.reduceDiv, Nat.reduceMod, hwr, e1, t2, or_one, e3, e4]) <;> simp), ForS.mk (γ) (trivial)⟩
    · obtain ⟨q1, q2⟩ := t3.2 (by omega)
      have e1 : (2 * (dT a k % b) + dA a k / 2 ^ 127) % 18446744073709551616 = dT a (k + 1) % b := by omega
      have e3 : dT a k / b * 2 % 2 ^ 128 = dT a (k + 1) / b := by omega
      have ho : dT a k % b / 9223372036854775808 = 0 := by omega
      have hcmp : decide (b ≤ dT a (k + 1) % b) = false := by simp; omega
      have hout := bnF ho
      simp only [go_sem, Nat.reduceAdd, Nat.reduceSub, Nat.reduceMul, Nat.reduceBEq, Nat.reduceLT, Nat.reduceLeDiff, Nat.reduceEqDiff, Int.reduceToNat, Int.reduceLE, Int.reduceLT, Int.reduceAdd, Int.reduceSub, Int.reduceNeg, Int.reduceBEq, Int.reduceBNe, Nat.reduceBNe, Nat.reduceDiv, Nat.reduceMod, hlt, shl_r _ _ (dA_lt a k), shl_hi _ (dA_lt a k), shl_hi _ t8, shl_lo, shr63, hout, e1, hcmp, t2, e3]
      repeat (refine And.intro (by first | assumption | omega) ?_)
      refine ⟨_, Weak.to 3 (by (simp only [go_sem, Nat.reduceAdd, Nat.reduceSub, Nat.reduceMul, Nat.reduceBEq, Nat.reduceLT, Nat.reduceLeDiff, Nat.reduceEqDiff, Int.reduceToNat, Int.reduceLE, Int.reduceLT, Int.reduceAdd, Int.reduceSub, Int.reduceNeg, Int.reduceBEq, Int.reduceBNe, Nat.reduceBNe, Nat.reduceDiv, Nat.reduceMod, hwr, e1, t2, e3]) <;> simp), ForS.mk (γ) (trivial)⟩
  · have hlt : decide ((k : Int) < 128) = false := by rw [hk1]; rfl
    have e1 : dT a k = a := by rw [hk1]; show a / 2 ^ 0 = a; rw [Nat.pow_zero, Nat.div_one]
    simp only [go_sem, Nat.reduceAdd, Nat.reduceSub, Nat.reduceMul, Nat.reduceBEq, Nat.reduceLT, Nat.reduceLeDiff, Nat.reduceEqDiff, Int.reduceToNat, Int.reduceLE, Int.reduceLT, Int.reduceAdd, Int.reduceSub, Int.reduceNeg, Int.reduceBEq, Int.reduceBNe, Nat.reduceBNe, Nat.reduceDiv, Nat.reduceMod, hlt, e1]
    refine kont_of_hx cx_ok hb 200 ?_
    simp only [go_sem, Nat.reduceAdd, Nat.reduceSub, Nat.reduceMul, Nat.reduceBEq, Nat.reduceLT, Nat.reduceLeDiff, Nat.reduceEqDiff, Int.reduceToNat, Int.reduceLE, Int.reduceLT, Int.reduceAdd, Int.reduceSub, Int.reduceNeg, Int.reduceBEq, Int.reduceBNe, Nat.reduceBNe, Nat.reduceDiv, Nat.reduceMod]
    rw [if_neg hb0, if_neg hb0, if_neg hb0]
end Go.Fg.X
namespace Go.Fg.X
open Go.Proofs Go.Fg
set_option maxRecDepth 100000
set_option maxHeartbeats 4000000
set_option linter.unusedSimpArgs false
set_option linter.unusedVariables false
def d0 (n : Nat) : Nat := n % 4294967296
def d1 (n : Nat) : Nat := n / 4294967296 % 4294967296
def d2 (n : Nat) : Nat := n / 18446744073709551616 % 4294967296
def d3 (n : Nat) : Nat := n / 79228162514264337593543950336 % 4294967296
theorem d0_lt (n : Nat) : d0 n < 4294967296 := Nat.mod_lt _ (by decide)
theorem d1_lt (n : Nat) : d1 n < 4294967296 := Nat.mod_lt _ (by decide)
theorem d2_lt (n : Nat) : d2 n < 4294967296 := Nat.mod_lt _ (by decide)
theorem d3_lt (n : Nat) : d3 n < 4294967296 := Nat.mod_lt _ (by decide)
@[go_sem] def dg (n : Nat) : D := .agg [u64 (d0 n), u64 (d1 n), u64 (d2 n), u64 (d3 n)]
theorem tmodB (s : Nat) : ((s : Int)).tmod 4294967296 = ((s % 4294967296 : Nat) : Int) := by
  rw [show (4294967296 : Int) = ((4294967296 : Nat) : Int) from rfl, ← Int.ofNat_tmod]
theorem tdivB (s : Nat) (h : s < 18446744073709551616) : IntKind.u64.wrap (((s : Int)).tdiv 4294967296) = ((s / 4294967296 : Nat) : Int) := by
  rw [show (4294967296 : Int) = ((4294967296 : Nat) : Int) from rfl, ← Int.ofNat_tdiv, IntKind.wrap_u64]; omega
theorem ci0 : ((0 : Nat) : Int) = 0 := rfl
theorem ci1 : ((1 : Nat) : Int) = 1 := rfl
theorem ci2 : ((2 : Nat) : Int) = 2 := rfl
theorem ci3 : ((3 : Nat) : Int) = 3 := rfl
theorem ci4 : ((4 : Nat) : Int) = 4 := rfl
theorem wi0 : IntKind.i64.wrap 0 = 0 := by decide
theorem wi1 : IntKind.i64.wrap 1 = 1 := by decide
theorem wi2 : IntKind.i64.wrap 2 = 2 := by decide
theorem wi3 : IntKind.i64.wrap 3 = 3 := by decide
theorem wi4 : IntKind.i64.wrap 4 = 4 := by decide
theorem le4 {k : Nat} (h : k ≤ 4) : k = 0 ∨ k = 1 ∨ k = 2 ∨ k = 3 ∨ k = 4 := by omega
theorem nneT {x y : Nat} (h : x ≠ y) : ((x : Int) != (y : Int)) = true := by simp; omega
theorem nneF {x y : Nat} (h : x = y) : ((x : Int) != (y : Int)) = false := by simp [h]
theorem rof_ok (v : Nat) (hv : v < 18446744073709551616) : AFn Tryz.prog 94 [u64 v] (Ret (dg v)) := by
  refine AFn_hxk 0 cx_ok 200 Tryz.func94 rfl Tryz.ntmps94 Tryz.results94 rfl fun base w hb => ?_
  simp only [go_sem, Nat.reduceAdd, Nat.reduceSub, Nat.reduceMul, Nat.reduceBEq, Nat.reduceLT, Nat.reduceLeDiff, Nat.reduceEqDiff, Int.reduceToNat, Int.reduceLE, Int.reduceLT, Int.reduceAdd, Int.reduceSub, Int.reduceNeg, Int.reduceBEq, Int.reduceBNe, Nat.reduceBNe, Nat.reduceDiv, Nat.reduceMod]
  simp only [tmodB, tdivB v hv]
  have e0 : v % 4294967296 = d0 v := rfl
  have e1 : v / 4294967296 = d1 v := by unfold d1; omega
  have e2 : d2 v = 0 := by unfold d2; omega
  have e3 : d3 v = 0 := by unfold d3; omega
  rw [e0, e1, e2, e3]
  exact ⟨by decide, by decide, rfl⟩
theorem rtwo_ok (hi lo : Nat) (h1 : hi < 18446744073709551616) (h2 : lo < 18446744073709551616) : AFn Tryz.prog 124 [u64 hi, u64 lo] (Ret (dg (hi * 18446744073709551616 + lo))) := by
  refine AFn_hxk 0 cx_ok 200 Tryz.func124 rfl Tryz.ntmps124 Tryz.results124 rfl fun base w hb => ?_
  simp only [go_sem, Nat.reduceAdd, Nat.reduceSub, Nat.reduceMul, Nat.reduceBEq, Nat.reduceLT, Nat.reduceLeDiff, Nat.reduceEqDiff, Int.reduceToNat, Int.reduceLE, Int.reduceLT, Int.reduceAdd, Int.reduceSub, Int.reduceNeg, Int.reduceBEq, Int.reduceBNe, Nat.reduceBNe, Nat.reduceDiv, Nat.reduceMod]
  simp only [tmodB, tdivB hi h1, tdivB lo h2]
  have e0 : lo % 4294967296 = d0 (hi * 18446744073709551616 + lo) := by unfold d0; omega
  have e1 : lo / 4294967296 = d1 (hi * 18446744073709551616 + lo) := by unfold d1; omega
  have e2 : hi % 4294967296 = d2 (hi * 18446744073709551616 + lo) := by unfold d2; omega
  have e3 : hi / 4294967296 = d3 (hi * 18446744073709551616 + lo) := by unfold d3; omega
  rw [e0, e1, e2, e3]
  exact ⟨by decide, by decide, by decide, by decide, rfl⟩
theorem rhi_ok (n : Nat) (h : n < 2 ^ 128) : AFn Tryz.prog 118 [dg n] (Ret (u64 (n / 18446744073709551616))) := by
  refine AFn_hxk 0 cx_ok 200 Tryz.func118 rfl Tryz.ntmps118 Tryz.results118 rfl fun base w hb => ?_
  simp only [go_sem, Nat.reduceAdd, Nat.reduceSub, Nat.reduceMul, Nat.reduceBEq, Nat.reduceLT, Nat.reduceLeDiff, Nat.reduceEqDiff, Int.reduceToNat, Int.reduceLE, Int.reduceLT, Int.reduceAdd, Int.reduceSub, Int.reduceNeg, Int.reduceBEq, Int.reduceBNe, Nat.reduceBNe, Nat.reduceDiv, Nat.reduceMod]
  rw [show (4294967296 : Int) = ((4294967296 : Nat) : Int) from rfl, wu_mul, wu_add]
  congr 3; unfold d3 d2; omega
theorem rlo_ok (n : Nat) (h : n < 2 ^ 128) : AFn Tryz.prog 119 [dg n] (Ret (u64 (n % 18446744073709551616))) := by
  refine AFn_hxk 0 cx_ok 200 Tryz.func119 rfl Tryz.ntmps119 Tryz.results119 rfl fun base w hb => ?_
  simp only [go_sem, Nat.reduceAdd, Nat.reduceSub, Nat.reduceMul, Nat.reduceBEq, Nat.reduceLT, Nat.reduceLeDiff, Nat.reduceEqDiff, Int.reduceToNat, Int.reduceLE, Int.reduceLT, Int.reduceAdd, Int.reduceSub, Int.reduceNeg, Int.reduceBEq, Int.reduceBNe, Nat.reduceBNe, Nat.reduceDiv, Nat.reduceMod]
  rw [show (4294967296 : Int) = ((4294967296 : Nat) : Int) from rfl, wu_mul, wu_add]
  congr 3; unfold d0 d1; omega
theorem less_ok (a b : Nat) (ha : a < 2 ^ 128) (hb : b < 2 ^ 128) : AFn Tryz.prog 57 [dg a, dg b] (Ret (dbool (decide (a < b)))) := by
  refine AFn_hxk 0 cx_ok 200 Tryz.func57 rfl Tryz.ntmps57 Tryz.results57 rfl fun base w hb => ?_
  simp only [go_sem, Nat.reduceAdd, Nat.reduceSub, Nat.reduceMul, Nat.reduceBEq, Nat.reduceLT, Nat.reduceLeDiff, Nat.reduceEqDiff, Int.reduceToNat, Int.reduceLE, Int.reduceLT, Int.reduceAdd, Int.reduceSub, Int.reduceNeg, Int.reduceBEq, Int.reduceBNe, Nat.reduceBNe, Nat.reduceDiv, Nat.reduceMod]
  refine kont_forF (G := Nat) [2, 3] (fun k => (1 ≤ k → d3 a = d3 b) ∧ (2 ≤ k → d2 a = d2 b) ∧ (3 ≤ k → d1 a = d1 b) ∧ (4 ≤ k → d0 a = d0 b)) (fun k γ => [(6, dint k)]) (fun k γ => [⟨.one, 0, 4, 1, fun _ => [u64 (d0 a), u64 (d1 a), u64 (d2 a), u64 (d3 a)]⟩, ⟨.one, 0, 4, 1, fun _ => [u64 (d0 b), u64 (d1 b), u64 (d2 b), u64 (d3 b)]⟩]) (4) (0) rfl (Weak.to 2 (by (simp only [go_sem, Nat.reduceAdd, Nat.reduceSub, Nat.reduceMul, Nat.reduceBEq, Nat.reduceLT, Nat.reduceLeDiff, Nat.reduceEqDiff, Int.reduceToNat, Int.reduceLE, Int.reduceLT, Int.reduceAdd, Int.reduceSub, Int.reduceNeg, Int.reduceBEq, Int.reduceBNe, Nat.reduceBNe, Nat.reduceDiv, Nat.reduceMod]) <;> simp)) ?_ ?_
  · exact ⟨fun h => by omega, fun h => by omega, fun h => by omega, fun h => by omega⟩
  rintro k γ hk ⟨r1, r2, r3, r4⟩
  obtain rfl | rfl | rfl | rfl | rfl := le4 hk
  · refine kont_of_hx cx_ok hb 200 ?_
    simp only [go_sem, Nat.reduceAdd, Nat.reduceSub, Nat.reduceMul, Nat.reduceBEq, Nat.reduceLT, Nat.reduceLeDiff, Nat.reduceEqDiff, Int.reduceToNat, Int.reduceLE, Int.reduceLT, Int.reduceAdd, Int.reduceSub, Int.reduceNeg, Int.reduceBEq, Int.reduceBNe, Nat.reduceBNe, Nat.reduceDiv, Nat.reduceMod, wi3, ci0, ci1]
    refine kont_hax cx_ok hb 200 mixed [(0, true), (1, true), (2, true), (3, true), (4, true), (5, true), (6, true), (7, true), (8, true)] (by kernel_rfl) (by kernel_rfl) ?_
    simp only [go_sem, Nat.reduceAdd, Nat.reduceSub, Nat.reduceMul, Nat.reduceBEq, Nat.reduceLT, Nat.reduceLeDiff, Nat.reduceEqDiff, Int.reduceToNat, Int.reduceLE, Int.reduceLT, Int.reduceAdd, Int.reduceSub, Int.reduceNeg, Int.reduceBEq, Int.reduceBNe, Nat.reduceBNe, Nat.reduceDiv, Nat.reduceMod, wi3, ci0, ci1]
    by_cases h : d3 a = d3 b
    · simp only [go_sem, Nat.reduceAdd, Nat.reduceSub, Nat.reduceMul, Nat.reduceBEq, Nat.reduceLT, Nat.reduceLeDiff, Nat.reduceEqDiff, Int.reduceToNat, Int.reduceLE, Int.reduceLT, Int.reduceAdd, Int.reduceSub, Int.reduceNeg, Int.reduceBEq, Int.reduceBNe, Nat.reduceBNe, Nat.reduceDiv, Nat.reduceMod, nneF h]
      repeat (refine And.intro (by first | assumption | omega) ?_)
      refine ⟨_, Weak.to 2 (by (simp only [go_sem, Nat.reduceAdd, Nat.reduceSub, Nat.reduceMul, Nat.reduceBEq, Nat.reduceLT, Nat.reduceLeDiff, Nat.reduceEqDiff, Int.reduceToNat, Int.reduceLE, Int.reduceLT, Int.reduceAdd, Int.reduceSub, Int.reduceNeg, Int.reduceBEq, Int.reduceBNe, Nat.reduceBNe, Nat.reduceDiv, Nat.reduceMod, wi3, ci0, ci1, Int.reduceAdd, wi1]) <;> simp), ForS.mk (γ) (⟨fun _ => h, fun _ => by omega, fun _ => by omega, fun _ => by omega⟩)⟩
    · simp only [go_sem, Nat.reduceAdd, Nat.reduceSub, Nat.reduceMul, Nat.reduceBEq, Nat.reduceLT, Nat.reduceLeDiff, Nat.reduceEqDiff, Int.reduceToNat, Int.reduceLE, Int.reduceLT, Int.reduceAdd, Int.reduceSub, Int.reduceNeg, Int.reduceBEq, Int.reduceBNe, Nat.reduceBNe, Nat.reduceDiv, Nat.reduceMod, nneT h]
      refine kont_hax cx_ok hb 200 mixed [(0, true), (1, true), (2, true), (3, true), (4, true), (5, true), (6, true), (7, true), (8, true), (9, true)] (by kernel_rfl) (by kernel_rfl) ?_
      simp only [go_sem, Nat.reduceAdd, Nat.reduceSub, Nat.reduceMul, Nat.reduceBEq, Nat.reduceLT, Nat.reduceLeDiff, Nat.reduceEqDiff, Int.reduceToNat, Int.reduceLE, Int.reduceLT, Int.reduceAdd, Int.reduceSub, Int.reduceNeg, Int.reduceBEq, Int.reduceBNe, Nat.reduceBNe, Nat.reduceDiv, Nat.reduceMod, wi3, ci0, ci1]
      have q : decide (d3 a < d3 b) = decide (a < b) := by
        simp only [decide_eq_decide]
        simp only [d0, d1, d2, d3] at *
        omega
      rw [q]
  · refine kont_of_hx cx_ok hb 200 ?_
    simp only [go_sem, Nat.reduceAdd, Nat.reduceSub, Nat.reduceMul, Nat.reduceBEq, Nat.reduceLT, Nat.reduceLeDiff, Nat.reduceEqDiff, Int.reduceToNat, Int.reduceLE, Int.reduceLT, Int.reduceAdd, Int.reduceSub, Int.reduceNeg, Int.reduceBEq, Int.reduceBNe, Nat.reduceBNe, Nat.reduceDiv, Nat.reduceMod, wi2, ci1, ci2]
    have p1 := r1 (by omega)
    refine kont_hax cx_ok hb 200 mixed [(0, true), (1, true), (2, true), (3, true), (4, true), (5, true), (6, true), (7, true), (8, true)] (by kernel_rfl) (by kernel_rfl) ?_
    simp only [go_sem, Nat.reduceAdd, Nat.reduceSub, Nat.reduceMul, Nat.reduceBEq, Nat.reduceLT, Nat.reduceLeDiff, Nat.reduceEqDiff, Int.reduceToNat, Int.reduceLE, Int.reduceLT, Int.reduceAdd, Int.reduceSub, Int.reduceNeg, Int.reduceBEq, Int.reduceBNe, Nat.reduceBNe, Nat.reduceDiv, Nat.reduceMod, wi2, ci1, ci2]
    by_cases h : d2 a = d2 b
    · simp only [go_sem, Nat.reduceAdd, Nat.reduceSub, Nat.reduceMul, Nat.reduceBEq, Nat.reduceLT, Nat.reduceLeDiff, Nat.reduceEqDiff, Int.reduceToNat, Int.reduceLE, Int.reduceLT, Int.reduceAdd, Int.reduceSub, Int.reduceNeg, Int.reduceBEq, Int.reduceBNe, Nat.reduceBNe, Nat.reduceDiv, Nat.reduceMod, nneF h]
      repeat (refine And.intro (by first | assumption | omega) ?_)
      refine ⟨_, Weak.to 2 (by (simp only [go_sem, Nat.reduceAdd, Nat.reduceSub, Nat.reduceMul, Nat.reduceBEq, Nat.reduceLT, Nat.reduceLeDiff, Nat.reduceEqDiff, Int.reduceToNat, Int.reduceLE, Int.reduceLT, Int.reduceAdd, Int.reduceSub, Int.reduceNeg, Int.reduceBEq, Int.reduceBNe, Nat.reduceBNe, Nat.reduceDiv, Nat.reduceMod, wi2, ci1, ci2, Int.reduceAdd, wi2]) <;> simp), ForS.mk (γ) (⟨fun _ => p1, fun _ => h, fun _ => by omega, fun _ => by omega⟩)⟩
    · simp only [go_sem, Nat.reduceAdd, Nat.reduceSub, Nat.reduceMul, Nat.reduceBEq, Nat.reduceLT, Nat.reduceLeDiff, Nat.reduceEqDiff, Int.reduceToNat, Int.reduceLE, Int.reduceLT, Int.reduceAdd, Int.reduceSub, Int.reduceNeg, Int.reduceBEq, Int.reduceBNe, Nat.reduceBNe, Nat.reduceDiv, Nat.reduceMod, nneT h]
      refine kont_hax cx_ok hb 200 mixed [(0, true), (1, true), (2, true), (3, true), (4, true), (5, true), (6, true), (7, true), (8, true), (9, true)] (by kernel_rfl) (by kernel_rfl) ?_
      simp only [go_sem, Nat.reduceAdd, Nat.reduceSub, Nat.reduceMul, Nat.reduceBEq, Nat.reduceLT, Nat.reduceLeDiff, Nat.reduceEqDiff, Int.reduceToNat, Int.reduceLE, Int.reduceLT, Int.reduceAdd, Int.reduceSub, Int.reduceNeg, Int.reduceBEq, Int.reduceBNe, Nat.reduceBNe, Nat.reduceDiv, Nat.reduceMod, wi2, ci1, ci2]
      have q : decide (d2 a < d2 b) = decide (a < b) := by
        simp only [decide_eq_decide]
        simp only [d0, d1, d2, d3] at *
        omega
      rw [q]
  · refine kont_of_hx cx_ok hb 200 ?_
    simp only [go_sem, Nat.reduceAdd, Nat.reduceSub, Nat.reduceMul, Nat.reduceBEq, Nat.reduceLT, Nat.reduceLeDiff, Nat.reduceEqDiff, Int.reduceToNat, Int.reduceLE, Int.reduceLT, Int.reduceAdd, Int.reduceSub, Int.reduceNeg, Int.reduceBEq, Int.reduceBNe, Nat.reduceBNe, Nat.reduceDiv, Nat.reduceMod, wi1, ci2, ci3]
    have p1 := r1 (by omega)
    have p2 := r2 (by omega)
    refine kont_hax cx_ok hb 200 mixed [(0, true), (1, true), (2, true), (3, true), (4, true), (5, true), (6, true), (7, true), (8, true)] (by kernel_rfl) (by kernel_rfl) ?_
    simp only [go_sem, Nat.reduceAdd, Nat.reduceSub, Nat.reduceMul, Nat.reduceBEq, Nat.reduceLT, Nat.reduceLeDiff, Nat.reduceEqDiff, Int.reduceToNat, Int.reduceLE, Int.reduceLT, Int.reduceAdd, Int.reduceSub, Int.reduceNeg, Int.reduceBEq, Int.reduceBNe, Nat.reduceBNe, Nat.reduceDiv, Nat.reduceMod, wi1, ci2, ci3]
    by_cases h : d1 a = d1 b
    · simp only [go_sem, Nat.reduceAdd, Nat.reduceSub, Nat.reduceMul, Nat.reduceBEq, Nat.reduceLT, Nat.reduceLeDiff, Nat.reduceEqDiff, Int.reduceToNat, Int.reduceLE, Int.reduceLT, Int.reduceAdd, Int.reduceSub, Int.reduceNeg, Int.reduceBEq, Int.reduceBNe, Nat.reduceBNe, Nat.reduceDiv, Nat.reduceMod, nneF h]
      repeat (refine And.intro (by first | assumption | omega) ?_)
      refine ⟨_, Weak.to 2 (by (simp only [go_sem, Nat.reduceAdd, Nat.reduceSub, Nat.reduceMul, Nat.reduceBEq, Nat.reduceLT, Nat.reduceLeDiff, Nat.reduceEqDiff, Int.reduceToNat, Int.reduceLE, Int.reduceLT, Int.reduceAdd, Int.reduceSub, Int.reduceNeg, Int.reduceBEq, Int.reduceBNe, Nat.reduceBNe, Nat.reduceDiv, Nat.reduceMod, wi1, ci2, ci3, Int.reduceAdd, wi3]) <;> simp), ForS.mk (γ) (⟨fun _ => p1, fun _ => p2, fun _ => h, fun _ => by omega⟩)⟩
    · simp only [go_sem, Nat.reduceAdd, Nat.reduceSub, Nat.reduceMul, Nat.reduceBEq, Nat.reduceLT, Nat.reduceLeDiff, Nat.reduceEqDiff, Int.reduceToNat, Int.reduceLE, Int.reduceLT, Int.reduceAdd, Int.reduceSub, Int.reduceNeg, Int.reduceBEq, Int.reduceBNe, Nat.reduceBNe, Nat.reduceDiv, Nat.reduceMod, nneT h]
      refine kont_hax cx_ok hb 200 mixed [(0, true), (1, true), (2, true), (3, true), (4, true), (5, true), (6, true), (7, true), (8, true), (9, true)] (by kernel_rfl) (by kernel_rfl) ?_
      simp only [go_sem, Nat.reduceAdd, Nat.reduceSub, Nat.reduceMul, Nat.reduceBEq, Nat.reduceLT, Nat.reduceLeDiff, Nat.reduceEqDiff, Int.reduceToNat, Int.reduceLE, Int.reduceLT, Int.reduceAdd, Int.reduceSub, Int.reduceNeg, Int.reduceBEq, Int.reduceBNe, Nat.reduceBNe, Nat.reduceDiv, Nat.reduceMod, wi1, ci2, ci3]
      have q : decide (d1 a < d1 b) = decide (a < b) := by
        simp only [decide_eq_decide]
        simp only [d0, d1, d2, d3] at *
        omega
      rw [q]
  · refine kont_of_hx cx_ok hb 200 ?_
    simp only [go_sem, Nat.reduceAdd, Nat.reduceSub, Nat.reduceMul, Nat.reduceBEq, Nat.reduceLT, Nat.reduceLeDiff, Nat.reduceEqDiff, Int.reduceToNat, Int.reduceLE, Int.reduceLT, Int.reduceAdd, Int.reduceSub, Int.reduceNeg, Int.reduceBEq, Int.reduceBNe, Nat.reduceBNe, Nat.reduceDiv, Nat.reduceMod, wi0, ci3, ci4]
    have p1 := r1 (by omega)
    have p2 := r2 (by omega)
    have p3 := r3 (by omega)
    refine kont_hax cx_ok hb 200 mixed [(0, true), (1, true), (2, true), (3, true), (4, true), (5, true), (6, true), (7, true), (8, true)] (by kernel_rfl) (by kernel_rfl) ?_
    simp only [go_sem, Nat.reduceAdd, Nat.reduceSub, Nat.reduceMul, Nat.reduceBEq, Nat.reduceLT, Nat.reduceLeDiff, Nat.reduceEqDiff, Int.reduceToNat, Int.reduceLE, Int.reduceLT, Int.reduceAdd, Int.reduceSub, Int.reduceNeg, Int.reduceBEq, Int.reduceBNe, Nat.reduceBNe, Nat.reduceDiv, Nat.reduceMod, wi0, ci3, ci4]
    by_cases h : d0 a = d0 b
    · simp only [go_sem, Nat.reduceAdd, Nat.reduceSub, Nat.reduceMul, Nat.reduceBEq, Nat.reduceLT, Nat.reduceLeDiff, Nat.reduceEqDiff, Int.reduceToNat, Int.reduceLE, Int.reduceLT, Int.reduceAdd, Int.reduceSub, Int.reduceNeg, Int.reduceBEq, Int.reduceBNe, Nat.reduceBNe, Nat.reduceDiv, Nat.reduceMod, nneF h]
      repeat (refine And.intro (by first | assumption | omega) ?_)
      refine ⟨_, Weak.to 2 (by (simp only [go_sem, Nat.reduceAdd, Nat.reduceSub, Nat.reduceMul, Nat.reduceBEq, Nat.reduceLT, Nat.reduceLeDiff, Nat.reduceEqDiff, Int.reduceToNat, Int.reduceLE, Int.reduceLT, Int.reduceAdd, Int.reduceSub, Int.reduceNeg, Int.reduceBEq, Int.reduceBNe, Nat.reduceBNe, Nat.reduceDiv, Nat.reduceMod, wi0, ci3, ci4, Int.reduceAdd, wi4]) <;> simp), ForS.mk (γ) (⟨fun _ => p1, fun _ => p2, fun _ => p3, fun _ => h⟩)⟩
    · simp only [go_sem, Nat.reduceAdd, Nat.reduceSub, Nat.reduceMul, Nat.reduceBEq, Nat.reduceLT, Nat.reduceLeDiff, Nat.reduceEqDiff, Int.reduceToNat, Int.reduceLE, Int.reduceLT, Int.reduceAdd, Int.reduceSub, Int.reduceNeg, Int.reduceBEq, Int.reduceBNe, Nat.reduceBNe, Nat.reduceDiv, Nat.reduceMod, nneT h]
      refine kont_hax cx_ok hb 200 mixed [(0, true), (1, true), (2, true), (3, true), (4, true), (5, true), (6, true), (7, true), (8, true), (9, true)] (by kernel_rfl) (by kernel_rfl) ?_
      simp only [go_sem, Nat.reduceAdd, Nat.reduceSub, Nat.reduceMul, Nat.reduceBEq, Nat.reduceLT, Nat.reduceLeDiff, Nat.reduceEqDiff, Int.reduceToNat, Int.reduceLE, Int.reduceLT, Int.reduceAdd, Int.reduceSub, Int.reduceNeg, Int.reduceBEq, Int.reduceBNe, Nat.reduceBNe, Nat.reduceDiv, Nat.reduceMod, wi0, ci3, ci4]
      have q : decide (d0 a < d0 b) = decide (a < b) := by
        simp only [decide_eq_decide]
        simp only [d0, d1, d2, d3] at *
        omega
      rw [q]
  · refine kont_of_hx cx_ok hb 200 ?_
    simp only [go_sem, Nat.reduceAdd, Nat.reduceSub, Nat.reduceMul, Nat.reduceBEq, Nat.reduceLT, Nat.reduceLeDiff, Nat.reduceEqDiff, Int.reduceToNat, Int.reduceLE, Int.reduceLT, Int.reduceAdd, Int.reduceSub, Int.reduceNeg, Int.reduceBEq, Int.reduceBNe, Nat.reduceBNe, Nat.reduceDiv, Nat.reduceMod, ci4]
    have p1 := r1 (by omega)
    have p2 := r2 (by omega)
    have p3 := r3 (by omega)
    have p4 := r4 (by omega)
    have q : decide (a < b) = false := by
      simp only [decide_eq_false_iff_not]
      simp only [d0, d1, d2, d3] at *
      omega
    rw [q]
    refine kont_of_hx cx_ok hb 200 ?_
    simp only [go_sem, Nat.reduceAdd, Nat.reduceSub, Nat.reduceMul, Nat.reduceBEq, Nat.reduceLT, Nat.reduceLeDiff, Nat.reduceEqDiff, Int.reduceToNat, Int.reduceLE, Int.reduceLT, Int.reduceAdd, Int.reduceSub, Int.reduceNeg, Int.reduceBEq, Int.reduceBNe, Nat.reduceBNe, Nat.reduceDiv, Nat.reduceMod]
end Go.Fg.X
