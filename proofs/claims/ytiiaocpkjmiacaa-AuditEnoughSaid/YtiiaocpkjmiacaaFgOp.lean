/- Operations that only reckon and read, over abstract values: an evaluator, and that the run of the operation agrees with it. Conditions: each result comes with the proposition under which it holds. -/
import Derived.Test.YtiiaocpkjmiacaaFgD
import Derived.WalkLawsBesides
import Derived.WalkSpells
namespace Go.Fg
set_option linter.unusedSimpArgs false
set_option linter.unusedVariables false
open Go.RowKit (Below)
variable {Z : Nat → Prop}

/-! Types as the evaluator knows them. -/
inductive TK where
  | int (k : IntKind) | bool | str | slice (e : TypeId) | array (n : Nat) (e : TypeId) | struct (fs : List (Nat × TypeId)) | ptr (e : TypeId) | map (k e : TypeId) | fn | iface | other
def TK.of : TypeDesc → TK
  | .int k => .int k
  | .bool => .bool
  | .string => .str
  | .slice e => .slice e
  | .array n e => .array n e
  | .struct fs => .struct (fs.toList.map fun f => (f.offset, f.type))
  | .pointer e => .ptr e
  | .map k e => .map k e
  | .func _ _ _ => .fn
  | .interface _ => .iface
  | _ => .other
structure Ty where
  k : TK
  size : Nat
  bytes : Nat
  zero : List Value
def TK.agg : TK → Bool
  | .struct _ | .array _ _ => true
  | _ => false
def vAgg : Value → Bool
  | .agg _ => true
  | _ => false
structure TyOk (P : Program) (t : TypeId) (y : Ty) : Prop where
  k : (P.underlying t).map TK.of = some y.k
  info : (P.info? t).map (fun i => (i.size, i.bytes, i.zero.map fun z => z.cells.toList)) = some (y.size, y.bytes, some y.zero)
  zag : ((P.info? t).bind (·.zero)).map vAgg = some y.k.agg
abbrev Lay := List (TypeId × Ty)
def ty : Lay → TypeId → Option Ty
  | [], _ => none
  | (u, y) :: r, t => bif Nat.beq u t then some y else ty r t
def LayOk (P : Program) (L : Lay) : Prop := ∀ t y, ty L t = some y → TyOk P t y
theorem LayOk.nil (P : Program) : LayOk P [] := fun _ _ h => by simp [ty] at h
theorem LayOk.cons {P : Program} {L : Lay} {t : TypeId} {y : Ty} (h : TyOk P t y) (r : LayOk P L) : LayOk P ((t, y) :: L) := fun u z e => by
  simp only [ty] at e
  by_cases hu : t = u
  · subst hu; simp at e; subst e; exact h
  · have : Nat.beq t u = false := by rw [← Bool.not_eq_true, Nat.beq_eq]; exact hu
    rw [this] at e; exact r u z e

section
variable {P : Program} {t : TypeId} {y : Ty} (h : TyOk P t y)
include h
theorem TyOk.under : ∃ d, P.underlying t = some d ∧ TK.of d = y.k := by
  have := h.k
  cases hd : P.underlying t with
  | none => rw [hd] at this; cases this
  | some d => rw [hd] at this; exact ⟨d, rfl, by simpa using this⟩
theorem TyOk.sizeOf (w : World) : (Go.sizeOf t).run P w = .ok y.size w := by
  have := h.info
  cases hi : P.info? t with
  | none => rw [hi] at this; cases this
  | some i =>
    rw [hi] at this
    simp at this
    simp [Go.sizeOf, typeInfo, hi, this.1]
theorem TyOk.typeInfo (w : World) : ∃ i, (Go.typeInfo t).run P w = .ok i w ∧ i.size = y.size ∧ i.bytes = y.bytes := by
  have := h.info
  cases hi : P.info? t with
  | none => rw [hi] at this; cases this
  | some i =>
    rw [hi] at this
    simp at this
    exact ⟨i, by simp [Go.typeInfo, hi], this.1, this.2.1⟩
theorem TyOk.zeroValue : ∃ z, z.cells.toList = y.zero ∧ ∀ w, (Go.zeroValue t).run P w = .ok z w := by
  have := h.info
  cases hi : P.info? t with
  | none => rw [hi] at this; cases this
  | some i =>
    rw [hi] at this
    simp at this
    obtain ⟨_, _, z, hz, hz'⟩ := this
    exact ⟨z, hz', fun w => by simp [Go.zeroValue, Go.typeInfo, hi, hz]⟩
theorem TyOk.isAgg (w : World) : (Go.isAgg t).run P w = .ok y.k.agg w := by
  obtain ⟨d, hd, he⟩ := h.under
  rw [← he]
  cases d <;> simp [Go.isAgg, run_underlying hd, TK.of, TK.agg]
end

theorem TK.of_slice {d : TypeDesc} {e : TypeId} (h : TK.of d = .slice e) : d = .slice e := by cases d <;> simp [TK.of] at h; rw [h]
theorem TK.of_array {d : TypeDesc} {n : Nat} {e : TypeId} (h : TK.of d = .array n e) : d = .array n e := by cases d <;> simp [TK.of] at h; rw [h.1, h.2]
theorem TK.of_struct {d : TypeDesc} {fs : List (Nat × TypeId)} (h : TK.of d = .struct fs) : ∃ g, d = .struct g ∧ g.toList.map (fun f => (f.offset, f.type)) = fs := by cases d <;> simp [TK.of] at h; exact ⟨_, rfl, by simpa using h⟩
theorem TK.of_int {d : TypeDesc} {k : IntKind} (h : TK.of d = .int k) : d = .int k := by cases d <;> simp [TK.of] at h; rw [h]
theorem TK.of_bool {d : TypeDesc} (h : TK.of d = .bool) : d = .bool := by cases d <;> simp [TK.of] at h; rfl
theorem TK.of_str {d : TypeDesc} (h : TK.of d = .str) : d = .string := by cases d <;> simp [TK.of] at h; rfl
theorem TK.of_ptr {d : TypeDesc} {e : TypeId} (h : TK.of d = .ptr e) : d = .pointer e := by cases d <;> simp [TK.of] at h; rw [h]
theorem TK.of_map {d : TypeDesc} {k e : TypeId} (h : TK.of d = .map k e) : d = .map k e := by cases d <;> simp [TK.of] at h; rw [h.1, h.2]

theorem under_slice {P : Program} {t e : TypeId} {y : Ty} (h : TyOk P t y) (hk : y.k = .slice e) : P.underlying t = some (.slice e) := by
  obtain ⟨d, hd, he⟩ := h.under; rw [hk] at he; rw [hd, TK.of_slice he]
theorem under_array {P : Program} {t e : TypeId} {n : Nat} {y : Ty} (h : TyOk P t y) (hk : y.k = .array n e) : P.underlying t = some (.array n e) := by
  obtain ⟨d, hd, he⟩ := h.under; rw [hk] at he; rw [hd, TK.of_array he]
theorem under_struct {P : Program} {t : TypeId} {fs : List (Nat × TypeId)} {y : Ty} (h : TyOk P t y) (hk : y.k = .struct fs) : ∃ g, P.underlying t = some (.struct g) ∧ g.toList.map (fun f => (f.offset, f.type)) = fs := by
  obtain ⟨d, hd, he⟩ := h.under; rw [hk] at he; obtain ⟨g, hg, hm⟩ := TK.of_struct he; exact ⟨g, by rw [hd, hg], hm⟩
theorem under_int {P : Program} {t : TypeId} {k : IntKind} {y : Ty} (h : TyOk P t y) (hk : y.k = .int k) : P.underlying t = some (.int k) := by
  obtain ⟨d, hd, he⟩ := h.under; rw [hk] at he; rw [hd, TK.of_int he]
theorem under_bool {P : Program} {t : TypeId} {y : Ty} (h : TyOk P t y) (hk : y.k = .bool) : P.underlying t = some .bool := by
  obtain ⟨d, hd, he⟩ := h.under; rw [hk] at he; rw [hd, TK.of_bool he]
theorem under_str {P : Program} {t : TypeId} {y : Ty} (h : TyOk P t y) (hk : y.k = .str) : P.underlying t = some .string := by
  obtain ⟨d, hd, he⟩ := h.under; rw [hk] at he; rw [hd, TK.of_str he]
theorem under_ptr {P : Program} {t e : TypeId} {y : Ty} (h : TyOk P t y) (hk : y.k = .ptr e) : P.underlying t = some (.pointer e) := by
  obtain ⟨d, hd, he⟩ := h.under; rw [hk] at he; rw [hd, TK.of_ptr he]
theorem under_map {P : Program} {t k e : TypeId} {y : Ty} (h : TyOk P t y) (hk : y.k = .map k e) : P.underlying t = some (.map k e) := by
  obtain ⟨d, hd, he⟩ := h.under; rw [hk] at he; rw [hd, TK.of_map he]

/-! Operands. -/
def ofCell : Value → D
  | .slice none 0 0 => .nil
  | v => .raw v
def ofC : Value → D
  | .agg cs => .agg (cs.toList.map ofCell)
  | v => ofCell v
def evalO (fr : List (Nat × D)) : Operand → D
  | .tmp t => get fr t
  | .const v => ofC v
  | .global _ => .undef
  | .func f => .raw (.func (.func f) #[] #[])

theorem cl_ofCell (N : Nat → Prop) (w : World) (v : Value) : Cl N w (ofCell v) v := by
  unfold ofCell
  split
  · exact .nil none
  · exact .raw _
theorem cl_ofC (N : Nat → Prop) (w : World) (v : Value) : Cl N w (ofC v) v := by
  unfold ofC
  split
  · rename_i cs
    have := Cl.agg (N := N) (w := w) (cs.toList.map ofCell) cs.toList (by simp) (fun i hi => by
      have hi' : i < cs.size := by simpa using hi
      simp only [nth, nthV, List.getD_eq_getElem?_getD, List.getElem?_map]
      rw [List.getElem?_eq_getElem (by simpa using hi')]
      exact cl_ofCell N w _)
    simpa using this
  · exact cl_ofCell N w _

theorem Rel.eval {base nt : Nat} {s : St} {pl : List Pl} {a : Act} {w : World} (r : Rel Z base nt s pl a w) (x : Operand) : RelV Z s.h pl w (evalO s.fr x) (a.eval x) := by
  cases x with
  | tmp t => exact r.fr t
  | const v => exact .cl _ _ (cl_ofC _ _ v)
  | global g => exact .cl _ _ (.undef _)
  | func f => exact .cl _ _ (.raw _)

/-! What an abstract value says of the value. -/
section
variable {h : List Ob} {pl : List Pl} {w : World} {v : Value}
theorem inv_raw {u : Value} (r : RelV Z h pl w (.raw u) v) : v = u := by
  cases r with | cl _ _ hc => cases hc; rfl
theorem inv_nil (r : RelV Z h pl w .nil v) : ∃ a, v = .slice a 0 0 := by
  cases r with | cl _ _ hc => cases hc; exact ⟨_, rfl⟩
theorem inv_ref {l g off len : Nat} (r : RelV Z h pl w (.ref l g off len) v) : ∃ o p a cap, v = .slice a len cap ∧ h[l]? = some o ∧ pl[l]? = some p ∧ o.kd.ty = 0 ∧ g ≤ o.gen ∧ (g = o.gen → SliceAt w o.sz p off len a cap) := by
  cases r with
  | cl _ _ hc => cases hc
  | ref _ _ _ _ o p a cap ho hp hk hg hs => exact ⟨o, p, a, cap, rfl, ho, hp, hk, hg, hs⟩
theorem inv_ptr {l g i j : Nat} (r : RelV Z h pl w (.ptr l g i j) v) : ∃ o p a, v = .pointer (some a) ∧ h[l]? = some o ∧ pl[l]? = some p ∧ o.kd.ty = 0 ∧ g ≤ o.gen ∧ (g = o.gen → ∃ b q, p = some (b, q) ∧ a = ⟨b, q + (i * o.sz + j), none⟩) := by
  cases r with
  | cl _ _ hc => cases hc
  | ptr _ _ _ _ o p a ho hp hk hg hs => exact ⟨o, p, a, rfl, ho, hp, hk, hg, hs⟩
theorem inv_mref {l g : Nat} (r : RelV Z h pl w (.mref l g) v) : ∃ o p b, h[l]? = some o ∧ pl[l]? = some p ∧ MOk o.kd.ty b v ∧ g ≤ o.gen ∧ (g = o.gen → p = some (b, 0)) := by
  cases r with
  | cl _ _ hc => cases hc
  | mref _ _ o p b ho hp hk hg hs => exact ⟨o, p, b, ho, hp, hk, hg, hs⟩
theorem inv_agg {cs : List D} (r : RelV Z h pl w (.agg cs) v) : ∃ vs : List Value, v = .agg vs.toArray ∧ vs.length = cs.length ∧ ∀ i, i < cs.length → RelV Z h pl w (nth cs i) (nthV vs i) := by
  cases r with
  | cl _ _ hc => cases hc with | agg _ vs hl hr => exact ⟨vs, rfl, hl, fun i hi => .cl _ _ (hr i hi)⟩
  | agg _ vs hl hr => exact ⟨vs, rfl, hl, hr⟩
theorem inv_tup {cs : List D} (r : RelV Z h pl w (.tup cs) v) : ∃ vs : List Value, v = .tuple vs.toArray ∧ vs.length = cs.length ∧ ∀ i, i < cs.length → RelV Z h pl w (nth cs i) (nthV vs i) := by
  cases r with
  | cl _ _ hc => cases hc with | tup _ vs hl hr => exact ⟨vs, rfl, hl, fun i hi => .cl _ _ (hr i hi)⟩
  | tup _ vs hl hr => exact ⟨vs, rfl, hl, hr⟩
theorem inv_clo {f : FuncId} {nf : Nat} {cs : List D} (r : RelV Z h pl w (.clo f nf cs) v) : ∃ vs : List Value, v = .func (.func f) (vs.take nf).toArray (vs.drop nf).toArray ∧ vs.length = cs.length ∧ ∀ i, i < cs.length → RelV Z h pl w (nth cs i) (nthV vs i) := by
  cases r with
  | cl _ _ hc => cases hc with | clo _ _ _ vs hl hr => exact ⟨vs, rfl, hl, fun i hi => .cl _ _ (hr i hi)⟩
  | clo _ _ _ vs hl hr => exact ⟨vs, rfl, hl, hr⟩
theorem inv_ip {cs : List D} (r : RelV Z h pl w (.ip cs) v) : ∃ b o, ∃ vs : Nat → Value, v = .pointer (some ⟨b, o, none⟩) ∧ ∀ j, j < cs.length → (free Z pl b ∧ w.cell? ⟨b, o + j, none⟩ = some (vs j)) ∧ Cl (free Z pl) w (nth cs j) (vs j) := by
  cases r with
  | cl _ _ hc => cases hc with | ip _ b o vs hc hr => exact ⟨b, o, vs, rfl, fun j hj => ⟨hc j hj, hr j hj⟩⟩
theorem inv_imm {sz n : Nat} {row : Nat → List D} (r : RelV Z h pl w (.imm sz n row) v) : ∃ a cap b o, ∃ vs : Nat → Nat → Value, v = .slice a n cap ∧ (0 < n → a = some ⟨b, o, none⟩) ∧ n ≤ cap ∧ (∀ i, i < n → (row i).length = sz) ∧
    ∀ i j, i < n → j < sz → (free Z pl b ∧ w.cell? ⟨b, o + (i * sz + j), none⟩ = some (vs i j)) ∧ Cl (free Z pl) w (nth (row i) j) (vs i j) := by
  cases r with
  | cl _ _ hc => cases hc with | imm _ _ _ a cap b o vs ha hl hs hc hr => exact ⟨a, cap, b, o, vs, rfl, ha, hl, hs, fun i j hi hj => ⟨hc i j hi hj, hr i j hi hj⟩⟩
end

/-- What a pure or reading operation yields: in the world at hand and in every one that only has more. -/
def PureOk (P : Program) (base nt : Nat) (o : Oper) (s : St) (d : D) : Prop :=
  ∀ (Z : Nat → Prop) pl a w, Rel Z base nt s pl a w → ∃ v, RelV Z s.h pl w d v ∧ ∀ w' : World, (∀ b, b < w.heap.size → w'.heap[b]? = w.heap[b]?) → (execOp a.eval o).run P w' = .ok (.value v) w'

theorem cell_ext {w w' : World} (e : ∀ b, b < w.heap.size → w'.heap[b]? = w.heap[b]?) {a : Addr} {v : Value} (h : w.cell? a = some v) : w'.cell? a = some v := by
  rw [World.cell?_of_block (w := w) (e a.block (block_lt_of_cell h))]; exact h

/-! The evaluator. 'none': not its part. The proposition: under what the value holds. -/
abbrev Ev := Option (Prop × D)
def pbinI (op : BinOp) (k : IntKind) (a b : Int) : Ev :=
  match op with
  | .add => some (True, .raw (.int k (k.wrap (a + b))))
  | .sub => some (True, .raw (.int k (k.wrap (a - b))))
  | .mul => some (True, .raw (.int k (k.wrap (a * b))))
  | .quo => some (b ≠ 0, .raw (.int k (k.wrap (a.tdiv b))))
  | .rem => some (b ≠ 0, .raw (.int k (a.tmod b)))
  | .and => some (True, .raw (.int k (bits .and k a b)))
  | .or => some (True, .raw (.int k (bits .or k a b)))
  | .xor => some (True, .raw (.int k (bits .xor k a b)))
  | .andNot => some (True, .raw (.int k (bits .andNot k a b)))
  | .eql => some (True, .raw (.bool (a == b)))
  | .neq => some (True, .raw (.bool (a != b)))
  | .lss => some (True, .raw (.bool (decide (a < b))))
  | .leq => some (True, .raw (.bool (decide (a ≤ b))))
  | .gtr => some (True, .raw (.bool (decide (b < a))))
  | .geq => some (True, .raw (.bool (decide (b ≤ a))))
  | _ => none
def pshift (op : BinOp) (k : IntKind) (a b : Int) : Ev :=
  match op with
  | .shl => some (0 ≤ b, .raw (.int k (k.wrap (a * 2 ^ (min b.toNat k.bits)))))
  | .shr => some (0 ≤ b, .raw (.int k (a.fdiv (2 ^ (min b.toNat k.bits)))))
  | _ => none
def IntKind.same : IntKind → IntKind → Bool
  | .i8, .i8 | .i16, .i16 | .i32, .i32 | .i64, .i64 | .u8, .u8 | .u16, .u16 | .u32, .u32 | .u64, .u64 => true
  | _, _ => false
theorem IntKind.same_eq {k k' : IntKind} (h : IntKind.same k k' = true) : k = k' := by cases k <;> cases k' <;> first | rfl | cases h
def isShift : BinOp → Bool
  | .shl | .shr => true
  | _ => false
def pbinB (op : BinOp) (a b : Bool) : Ev :=
  match op with
  | .eql => some (True, .raw (.bool (a == b)))
  | .neq => some (True, .raw (.bool (a != b)))
  | _ => none
def pbinS (op : BinOp) (a b : ByteArray) : Ev :=
  match op with
  | .add => some (a.size + b.size ≤ 9223372036854775807, .raw (.string (a ++ b)))
  | .eql => some (True, .raw (.bool (a.toList == b.toList)))
  | .neq => some (True, .raw (.bool (!(a.toList == b.toList))))
  | .lss => some (True, .raw (.bool (Op.bytesLess a.toList b.toList)))
  | _ => none
/-- One pointer is nil. -/
def pbinP (op : BinOp) (both : Bool) : Ev :=
  match op with
  | .eql => some (True, .raw (.bool both))
  | .neq => some (True, .raw (.bool (!both)))
  | _ => none
def isPtrTy (L : Lay) (t : TypeId) : Bool := match ty L t with | some ⟨.ptr _, _, _, _⟩ => true | _ => false
def isBoolTy (L : Lay) (t : TypeId) : Bool := match ty L t with | some ⟨.bool, _, _, _⟩ => true | _ => false
def pbin (L : Lay) (op : BinOp) (t : TypeId) : D → D → Ev
  | .raw (.int k a), .raw (.int k' b) => bif isShift op then pshift op k a b else bif IntKind.same k k' then pbinI op k a b else none
  | .raw (.bool a), .raw (.bool b) => bif isBoolTy L t then pbinB op a b else none
  | .raw (.string a), .raw (.string b) => pbinS op a b
  | .raw (.pointer none), .raw (.pointer none) => bif isPtrTy L t then pbinP op true else none
  | .ptr _ _ _ _, .raw (.pointer none) => bif isPtrTy L t then pbinP op false else none
  | .ip _, .raw (.pointer none) => bif isPtrTy L t then pbinP op false else none
  | .raw (.pointer none), .ptr _ _ _ _ => bif isPtrTy L t then pbinP op false else none
  | .raw (.pointer none), .ip _ => bif isPtrTy L t then pbinP op false else none
  | _, _ => none

theorem run_v (P : Program) (w : World) {s : Sem Value} {v : Value} (h : s.run P w = .ok v w) : (do pure (Next.value (← s)) : Sem Next).run P w = .ok (.value v) w := by
  simp [h]

theorem pbinI_ok {P : Program} {op : BinOp} {k : IntKind} {a b : Int} {p : Prop} {d : D} (t : TypeId) (h : pbinI op k a b = some (p, d)) (hp : p) : ∃ v, d = .raw v ∧ ∀ w, (Go.binOp op t (.int k a) (.int k b)).run P w = .ok v w := by
  cases op <;> simp only [pbinI, Option.some.injEq, Prod.mk.injEq, reduceCtorEq] at h <;> obtain ⟨rfl, rfl⟩ := h <;> refine ⟨_, rfl, fun w => ?_⟩ <;>
    simp_all [Go.binOp, Op.intArith, Op.intDiv, Op.intBits, Op.intCmp, bits]
theorem pshift_ok {P : Program} {op : BinOp} {k k' : IntKind} {a b : Int} {p : Prop} {d : D} (t : TypeId) (h : pshift op k a b = some (p, d)) (hp : p) : ∃ v, d = .raw v ∧ ∀ w, (Go.binOp op t (.int k a) (.int k' b)).run P w = .ok v w := by
  cases op <;> simp only [pshift, Option.some.injEq, Prod.mk.injEq, reduceCtorEq] at h <;> obtain ⟨rfl, rfl⟩ := h <;> refine ⟨_, rfl, fun w => ?_⟩ <;>
    (have : ¬ b < 0 := by omega
     simp [Go.binOp, Op.shift, this])
theorem pbinS_ok {P : Program} {op : BinOp} {a b : ByteArray} {p : Prop} {d : D} (t : TypeId) (h : pbinS op a b = some (p, d)) (hp : p) : ∃ v, d = .raw v ∧ ∀ w, (Go.binOp op t (.string a) (.string b)).run P w = .ok v w := by
  cases op <;> simp only [pbinS, Option.some.injEq, Prod.mk.injEq, reduceCtorEq] at h <;> obtain ⟨rfl, rfl⟩ := h <;> refine ⟨_, rfl, fun w => ?_⟩ <;>
    simp [Go.binOp, Op.stringOp]
  omega
theorem eqIn_ptr {P : Program} {t e : TypeId} (ht : P.underlying t = some (.pointer e)) (n : Nat) {x y : Option Addr} (hxy : x = none ∨ y = none) (w : World) : (Op.equalIn (n + 1) t (.pointer x) (.pointer y)).run P w = .ok (x.isNone && y.isNone) w := by
  rcases hxy with rfl | rfl
  · simp [Op.equalIn, run_underlying ht]
  · cases x <;> simp [Op.equalIn, run_underlying ht]
theorem run_eql_of {P : Program} {t : TypeId} {x y : Value} {b : Bool} {w : World} (hb : ∀ n, (Op.equalIn (n + 1) t x y).run P w = .ok b w) : (Op.equal t x y).run P w = .ok b w := hb 9999
theorem pbinB_ok {P : Program} {op : BinOp} {a b : Bool} {p : Prop} {d : D} (t : TypeId) (ht : P.underlying t = some .bool) (h : pbinB op a b = some (p, d)) : ∃ v, d = .raw v ∧ ∀ w, (Go.binOp op t (.bool a) (.bool b)).run P w = .ok v w := by
  have he : ∀ w, (Op.equal t (.bool a) (.bool b)).run P w = .ok (a == b) w := fun w => run_eql_of fun n => run_equalIn_bool' w n t a b ht
  cases op <;> simp only [pbinB, Option.some.injEq, Prod.mk.injEq, reduceCtorEq] at h <;> obtain ⟨rfl, rfl⟩ := h <;> refine ⟨_, rfl, fun w => ?_⟩ <;> simp only [Go.binOp]
  · simp [he]
  · simp [he, bne]
theorem pbinP_ok {P : Program} {op : BinOp} {x y : Option Addr} (hxy : x = none ∨ y = none) {p : Prop} {d : D} {t e : TypeId} (ht : P.underlying t = some (.pointer e)) (h : pbinP op (x.isNone && y.isNone) = some (p, d)) : ∃ v, d = .raw v ∧ ∀ w, (Go.binOp op t (.pointer x) (.pointer y)).run P w = .ok v w := by
  have he : ∀ w, (Op.equal t (.pointer x) (.pointer y)).run P w = .ok (x.isNone && y.isNone) w := fun w => run_eql_of fun n => eqIn_ptr ht n hxy w
  cases op <;> simp only [pbinP, Option.some.injEq, Prod.mk.injEq, reduceCtorEq] at h <;> obtain ⟨rfl, rfl⟩ := h <;> refine ⟨_, rfl, fun w => ?_⟩ <;> simp only [Go.binOp]
  · simp [he]
  · simp [he]
theorem isPtrTy_ok {P : Program} {L : Lay} (hL : LayOk P L) {t : TypeId} (h : isPtrTy L t = true) : ∃ e, P.underlying t = some (.pointer e) := by
  unfold isPtrTy at h
  split at h
  · rename_i e _ _ _ he; exact ⟨e, under_ptr (hL _ _ he) rfl⟩
  · cases h
theorem isBoolTy_ok {P : Program} {L : Lay} (hL : LayOk P L) {t : TypeId} (h : isBoolTy L t = true) : P.underlying t = some .bool := by
  unfold isBoolTy at h
  split at h
  · rename_i he; exact under_bool (hL _ _ he) rfl
  · cases h
theorem cond_none {α : Type} {c : Bool} {x : Option α} {y : α} (h : (bif c then x else none) = some y) : c = true ∧ x = some y := by cases c <;> simp at h; exact ⟨rfl, h⟩

theorem pbin_ok {P : Program} {L : Lay} (hL : LayOk P L) {base nt : Nat} {s : St} {o : Oper} {op : BinOp} {t yt : TypeId} {x y : Operand} (ho : o.op = .binOp op t x y yt) {p : Prop} {d : D}
    (h : pbin L op t (evalO s.fr x) (evalO s.fr y) = some (p, d)) (hp : p) : PureOk P base nt o s d := by
  intro Z pl a w r
  have hx := r.eval x
  have hy := r.eval y
  generalize evalO s.fr x = dx at *
  generalize evalO s.fr y = dy at *
  have fin : ∀ (vx vy : Value), a.eval x = vx → a.eval y = vy → (∀ w, (eqGuard op t x y vx vy).run P w = .ok () w) → (∃ v, d = .raw v ∧ ∀ w, (Go.binOp op t vx vy).run P w = .ok v w) →
      ∃ v, RelV Z s.h pl w d v ∧ ∀ w' : World, (∀ b, b < w.heap.size → w'.heap[b]? = w.heap[b]?) → (execOp a.eval o).run P w' = .ok (.value v) w' := by
    intro vx vy e1 e2 hg ⟨v, hd, hv⟩
    refine ⟨v, hd ▸ .cl _ _ (.raw v), fun w' _ => ?_⟩
    simp only [execOp, ho, e1, e2]
    refine run_v P w' ?_
    simp [hg, hv]
  unfold pbin at h
  split at h
  · rename_i k i k' j
    have e1 := inv_raw hx; have e2 := inv_raw hy
    refine fin _ _ e1 e2 (fun w => by cases op <;> simp [eqGuard]) ?_
    cases hs : isShift op
    · rw [hs] at h
      simp only [cond_false] at h
      obtain ⟨hk, h1⟩ := cond_none h
      have := IntKind.same_eq hk; subst this
      exact pbinI_ok t h1 hp
    · rw [hs] at h
      exact pshift_ok t h hp
  · obtain ⟨ht, h⟩ := cond_none h
    exact fin _ _ (inv_raw hx) (inv_raw hy) (fun w => by cases op <;> simp [eqGuard]) (pbinB_ok t (isBoolTy_ok hL ht) h)
  · exact fin _ _ (inv_raw hx) (inv_raw hy) (fun w => by cases op <;> simp [eqGuard]) (pbinS_ok t h hp)
  · obtain ⟨ht, h⟩ := cond_none h
    obtain ⟨e, he⟩ := isPtrTy_ok hL ht
    exact fin _ _ (inv_raw hx) (inv_raw hy) (fun w => by cases op <;> simp [eqGuard]) (pbinP_ok (.inl rfl) he h)
  · obtain ⟨ht, h⟩ := cond_none h
    obtain ⟨e, he⟩ := isPtrTy_ok hL ht
    obtain ⟨_, _, aa, hv, _⟩ := inv_ptr hx
    exact fin _ _ hv (inv_raw hy) (fun w => by cases op <;> simp [eqGuard]) (pbinP_ok (.inr rfl) he h)
  · obtain ⟨ht, h⟩ := cond_none h
    obtain ⟨e, he⟩ := isPtrTy_ok hL ht
    obtain ⟨_, _, _, hv, _⟩ := inv_ip hx
    exact fin _ _ hv (inv_raw hy) (fun w => by cases op <;> simp [eqGuard]) (pbinP_ok (.inr rfl) he h)
  · obtain ⟨ht, h⟩ := cond_none h
    obtain ⟨e, he⟩ := isPtrTy_ok hL ht
    obtain ⟨_, _, aa, hv, _⟩ := inv_ptr hy
    exact fin _ _ (inv_raw hx) hv (fun w => by cases op <;> simp [eqGuard]) (pbinP_ok (.inl rfl) he h)
  · obtain ⟨ht, h⟩ := cond_none h
    obtain ⟨e, he⟩ := isPtrTy_ok hL ht
    obtain ⟨_, _, _, hv, _⟩ := inv_ip hy
    exact fin _ _ (inv_raw hx) hv (fun w => by cases op <;> simp [eqGuard]) (pbinP_ok (.inl rfl) he h)
  · cases h
end Go.Fg
