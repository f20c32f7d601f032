/- The program's types as structures, and how they are read. Written by a program (types.py). No conditions. -/
import Derived.Test.YtiiaocpkjmiacaaXLay
import Derived.Test.YtiiaocpkjmiacaaFgLaw
namespace Go.Fg.X
set_option linter.unusedSimpArgs false
set_option linter.unusedVariables false
open Go.Proofs Go.Fg
set_option maxRecDepth 100000
def rowsI (k : IntKind) (l : List Int) : Nat → List D := fun i => [.raw (.int k (l.getD i 0))]
@[go_sem] theorem rowsI_at (k : IntKind) (l : List Int) (i : Nat) : rowsI k l i = [.raw (.int k (l.getD i 0))] := rfl

structure Cf where
  t : Int
  lmax : Int
instance : Inhabited Cf := ⟨⟨0, 0⟩⟩
@[go_sem] def Cf.cells (x : Cf) : List D := [.raw (.int .i64 x.t), .raw (.int .i64 x.lmax)]
def Cf.rows (l : List Cf) : Nat → List D := fun i => (l.getD i default).cells
@[go_sem] theorem Cf.rows_at (l : List Cf) (i : Nat) : Cf.rows l i = (l.getD i default).cells := rfl
def Cf.Ok (x : Cf) : Prop := (Lit.int .i64 x.t).wf = true ∧ (Lit.int .i64 x.lmax).wf = true ∧ True
theorem rdCf : Rd Try.prog 23 Cf.Ok Cf.cells :=
  Rd.map (Rd.struct (tot := 2) Try.underlying23 (by kernel_rfl) (RdF.cons (Rd.int .i64 Try.underlying3) (RdF.cons (Rd.int .i64 Try.underlying3) RdF.nil rfl (by kernel_rfl) (by decide)) rfl (by kernel_rfl) (by decide))) (fun p => ⟨p.1, p.2.1⟩) (fun _ => rfl) (fun _ h => ⟨h.1, h.2.1, trivial⟩)
structure Cv where
  m1 : Int
  d : Int
  m2 : Int
instance : Inhabited Cv := ⟨⟨0, 0, 0⟩⟩
@[go_sem] def Cv.cells (x : Cv) : List D := [.raw (.int .u64 x.m1), .raw (.int .u64 x.d), .raw (.int .u64 x.m2)]
def Cv.rows (l : List Cv) : Nat → List D := fun i => (l.getD i default).cells
@[go_sem] theorem Cv.rows_at (l : List Cv) (i : Nat) : Cv.rows l i = (l.getD i default).cells := rfl
def Cv.Ok (x : Cv) : Prop := (Lit.int .u64 x.m1).wf = true ∧ (Lit.int .u64 x.d).wf = true ∧ (Lit.int .u64 x.m2).wf = true ∧ True
theorem rdCv : Rd Try.prog 75 Cv.Ok Cv.cells :=
  Rd.map (Rd.struct (tot := 3) Try.underlying75 (by kernel_rfl) (RdF.cons (Rd.int .u64 Try.underlying38) (RdF.cons (Rd.int .u64 Try.underlying38) (RdF.cons (Rd.int .u64 Try.underlying38) RdF.nil rfl (by kernel_rfl) (by decide)) rfl (by kernel_rfl) (by decide)) rfl (by kernel_rfl) (by decide))) (fun p => ⟨p.1, p.2.1, p.2.2.1⟩) (fun _ => rfl) (fun _ h => ⟨h.1, h.2.1, h.2.2.1, trivial⟩)
structure Pk where
  iD : Int
  len : Int
  head0 : Int
  head1 : Int
  head2 : Int
  head3 : Int
instance : Inhabited Pk := ⟨⟨0, 0, 0, 0, 0, 0⟩⟩
@[go_sem] def Pk.cells (x : Pk) : List D := [.raw (.int .u64 x.iD), .raw (.int .i64 x.len), .raw (.int .u16 x.head0), .raw (.int .u16 x.head1), .raw (.int .u16 x.head2), .raw (.int .u16 x.head3)]
def Pk.rows (l : List Pk) : Nat → List D := fun i => (l.getD i default).cells
@[go_sem] theorem Pk.rows_at (l : List Pk) (i : Nat) : Pk.rows l i = (l.getD i default).cells := rfl
def Pk.Ok (x : Pk) : Prop := (Lit.int .u64 x.iD).wf = true ∧ (Lit.int .i64 x.len).wf = true ∧ (Lit.int .u16 x.head0).wf = true ∧ (Lit.int .u16 x.head1).wf = true ∧ (Lit.int .u16 x.head2).wf = true ∧ (Lit.int .u16 x.head3).wf = true ∧ True
theorem rdPk : Rd Try.prog 43 Pk.Ok Pk.cells :=
  Rd.map (Rd.struct (tot := 6) Try.underlying43 (by kernel_rfl) (RdF.cons (Rd.int .u64 Try.underlying38) (RdF.cons (Rd.int .i64 Try.underlying3) (RdF.cons (Rd.array Try.underlying41 (by kernel_rfl) (RdA.cons (by decide) (Rd.int .u16 Try.underlying39) (RdA.cons (by decide) (Rd.int .u16 Try.underlying39) (RdA.cons (by decide) (Rd.int .u16 Try.underlying39) (RdA.cons (by decide) (Rd.int .u16 Try.underlying39) RdA.nil))))) RdF.nil rfl (by kernel_rfl) (by decide)) rfl (by kernel_rfl) (by decide)) rfl (by kernel_rfl) (by decide))) (fun p => ⟨p.1, p.2.1, p.2.2.1.1, p.2.2.1.2.1, p.2.2.1.2.2.1, p.2.2.1.2.2.2.1⟩) (fun _ => rfl) (fun _ h => ⟨h.1, h.2.1, h.2.2.1.1, h.2.2.1.2.1, h.2.2.1.2.2.1, h.2.2.1.2.2.2.1, trivial⟩)
structure Kls where
  iD : Int
  parent : Int
  leaf : Bool
  rt : Cv
  ls : Cv
  ul : Cv
  pkts : Int
  bytes : Int
instance : Inhabited Kls := ⟨⟨0, 0, false, default, default, default, 0, 0⟩⟩
@[go_sem] def Kls.cells (x : Kls) : List D := [.raw (.int .i64 x.iD), .raw (.int .i64 x.parent), .raw (.bool x.leaf), .raw (.int .u64 x.rt.m1), .raw (.int .u64 x.rt.d), .raw (.int .u64 x.rt.m2), .raw (.int .u64 x.ls.m1), .raw (.int .u64 x.ls.d), .raw (.int .u64 x.ls.m2), .raw (.int .u64 x.ul.m1), .raw (.int .u64 x.ul.d), .raw (.int .u64 x.ul.m2), .raw (.int .i64 x.pkts), .raw (.int .i64 x.bytes)]
def Kls.rows (l : List Kls) : Nat → List D := fun i => (l.getD i default).cells
@[go_sem] theorem Kls.rows_at (l : List Kls) (i : Nat) : Kls.rows l i = (l.getD i default).cells := rfl
def Kls.Ok (x : Kls) : Prop := (Lit.int .i64 x.iD).wf = true ∧ (Lit.int .i64 x.parent).wf = true ∧ True ∧ Cv.Ok x.rt ∧ Cv.Ok x.ls ∧ Cv.Ok x.ul ∧ (Lit.int .i64 x.pkts).wf = true ∧ (Lit.int .i64 x.bytes).wf = true ∧ True
theorem rdKls : Rd Try.prog 77 Kls.Ok Kls.cells :=
  Rd.map (Rd.struct (tot := 14) Try.underlying77 (by kernel_rfl) (RdF.cons (Rd.int .i64 Try.underlying3) (RdF.cons (Rd.int .i64 Try.underlying3) (RdF.cons (Rd.bool Try.underlying4) (RdF.cons rdCv (RdF.cons rdCv (RdF.cons rdCv (RdF.cons (Rd.int .i64 Try.underlying3) (RdF.cons (Rd.int .i64 Try.underlying3) RdF.nil rfl (by kernel_rfl) (by decide)) rfl (by kernel_rfl) (by decide)) rfl (by kernel_rfl) (by decide)) rfl (by kernel_rfl) (by decide)) rfl (by kernel_rfl) (by decide)) rfl (by kernel_rfl) (by decide)) rfl (by kernel_rfl) (by decide)) rfl (by kernel_rfl) (by decide))) (fun p => ⟨p.1, p.2.1, p.2.2.1, p.2.2.2.1, p.2.2.2.2.1, p.2.2.2.2.2.1, p.2.2.2.2.2.2.1, p.2.2.2.2.2.2.2.1⟩) (fun _ => rfl) (fun _ h => ⟨h.1, h.2.1, h.2.2.1, h.2.2.2.1, h.2.2.2.2.1, h.2.2.2.2.2.1, h.2.2.2.2.2.2.1, h.2.2.2.2.2.2.2.1, trivial⟩)
structure Chg where
  kind : Int
  cls : Kls
instance : Inhabited Chg := ⟨⟨0, default⟩⟩
@[go_sem] def Chg.cells (x : Chg) : List D := [.raw (.int .i64 x.kind), .raw (.int .i64 x.cls.iD), .raw (.int .i64 x.cls.parent), .raw (.bool x.cls.leaf), .raw (.int .u64 x.cls.rt.m1), .raw (.int .u64 x.cls.rt.d), .raw (.int .u64 x.cls.rt.m2), .raw (.int .u64 x.cls.ls.m1), .raw (.int .u64 x.cls.ls.d), .raw (.int .u64 x.cls.ls.m2), .raw (.int .u64 x.cls.ul.m1), .raw (.int .u64 x.cls.ul.d), .raw (.int .u64 x.cls.ul.m2), .raw (.int .i64 x.cls.pkts), .raw (.int .i64 x.cls.bytes)]
def Chg.rows (l : List Chg) : Nat → List D := fun i => (l.getD i default).cells
@[go_sem] theorem Chg.rows_at (l : List Chg) (i : Nat) : Chg.rows l i = (l.getD i default).cells := rfl
def Chg.Ok (x : Chg) : Prop := (Lit.int .i64 x.kind).wf = true ∧ Kls.Ok x.cls ∧ True
theorem rdChg : Rd Try.prog 79 Chg.Ok Chg.cells :=
  Rd.map (Rd.struct (tot := 15) Try.underlying79 (by kernel_rfl) (RdF.cons (Rd.int .i64 Try.underlying3) (RdF.cons rdKls RdF.nil rfl (by kernel_rfl) (by decide)) rfl (by kernel_rfl) (by decide))) (fun p => ⟨p.1, p.2.1⟩) (fun _ => rfl) (fun _ h => ⟨h.1, h.2.1, trivial⟩)
structure Rul where
  mask0 : Int
  mask1 : Int
  mask2 : Int
  mask3 : Int
  want0 : Int
  want1 : Int
  want2 : Int
  want3 : Int
  cls : Int
instance : Inhabited Rul := ⟨⟨0, 0, 0, 0, 0, 0, 0, 0, 0⟩⟩
@[go_sem] def Rul.cells (x : Rul) : List D := [.raw (.int .u16 x.mask0), .raw (.int .u16 x.mask1), .raw (.int .u16 x.mask2), .raw (.int .u16 x.mask3), .raw (.int .u16 x.want0), .raw (.int .u16 x.want1), .raw (.int .u16 x.want2), .raw (.int .u16 x.want3), .raw (.int .i64 x.cls)]
def Rul.rows (l : List Rul) : Nat → List D := fun i => (l.getD i default).cells
@[go_sem] theorem Rul.rows_at (l : List Rul) (i : Nat) : Rul.rows l i = (l.getD i default).cells := rfl
def Rul.Ok (x : Rul) : Prop := (Lit.int .u16 x.mask0).wf = true ∧ (Lit.int .u16 x.mask1).wf = true ∧ (Lit.int .u16 x.mask2).wf = true ∧ (Lit.int .u16 x.mask3).wf = true ∧ (Lit.int .u16 x.want0).wf = true ∧ (Lit.int .u16 x.want1).wf = true ∧ (Lit.int .u16 x.want2).wf = true ∧ (Lit.int .u16 x.want3).wf = true ∧ (Lit.int .i64 x.cls).wf = true ∧ True
theorem rdRul : Rd Try.prog 119 Rul.Ok Rul.cells :=
  Rd.map (Rd.struct (tot := 9) Try.underlying119 (by kernel_rfl) (RdF.cons (Rd.array Try.underlying41 (by kernel_rfl) (RdA.cons (by decide) (Rd.int .u16 Try.underlying39) (RdA.cons (by decide) (Rd.int .u16 Try.underlying39) (RdA.cons (by decide) (Rd.int .u16 Try.underlying39) (RdA.cons (by decide) (Rd.int .u16 Try.underlying39) RdA.nil))))) (RdF.cons (Rd.array Try.underlying41 (by kernel_rfl) (RdA.cons (by decide) (Rd.int .u16 Try.underlying39) (RdA.cons (by decide) (Rd.int .u16 Try.underlying39) (RdA.cons (by decide) (Rd.int .u16 Try.underlying39) (RdA.cons (by decide) (Rd.int .u16 Try.underlying39) RdA.nil))))) (RdF.cons (Rd.int .i64 Try.underlying3) RdF.nil rfl (by kernel_rfl) (by decide)) rfl (by kernel_rfl) (by decide)) rfl (by kernel_rfl) (by decide))) (fun p => ⟨p.1.1, p.1.2.1, p.1.2.2.1, p.1.2.2.2.1, p.2.1.1, p.2.1.2.1, p.2.1.2.2.1, p.2.1.2.2.2.1, p.2.2.1⟩) (fun _ => rfl) (fun _ h => ⟨h.1.1, h.1.2.1, h.1.2.2.1, h.1.2.2.2.1, h.2.1.1, h.2.1.2.1, h.2.1.2.2.1, h.2.1.2.2.2.1, h.2.2.1, trivial⟩)
structure Opn where
  kind : Int
  changes : (List Chg)
  rules : (List Rul)
  packet : Pk
  ticks : Int
instance : Inhabited Opn := ⟨⟨0, [], [], default, 0⟩⟩
@[go_sem] def Opn.cells (x : Opn) : List D := [.raw (.int .i64 x.kind), .imm 15 x.changes.length (Chg.rows x.changes), .imm 9 x.rules.length (Rul.rows x.rules), .raw (.int .u64 x.packet.iD), .raw (.int .i64 x.packet.len), .raw (.int .u16 x.packet.head0), .raw (.int .u16 x.packet.head1), .raw (.int .u16 x.packet.head2), .raw (.int .u16 x.packet.head3), .raw (.int .u64 x.ticks)]
def Opn.rows (l : List Opn) : Nat → List D := fun i => (l.getD i default).cells
@[go_sem] theorem Opn.rows_at (l : List Opn) (i : Nat) : Opn.rows l i = (l.getD i default).cells := rfl
def Opn.Ok (x : Opn) : Prop := (Lit.int .i64 x.kind).wf = true ∧ (x.changes.length ≤ maxLen ∧ ∀ a ∈ x.changes, Chg.Ok a) ∧ (x.rules.length ≤ maxLen ∧ ∀ a ∈ x.rules, Rul.Ok a) ∧ Pk.Ok x.packet ∧ (Lit.int .u64 x.ticks).wf = true ∧ True
theorem rdOpn : Rd Try.prog 67 Opn.Ok Opn.cells :=
  Rd.map (Rd.struct (tot := 10) Try.underlying67 (by kernel_rfl) (RdF.cons (Rd.int .i64 Try.underlying3) (RdF.cons (Rd.slice 15 Try.underlying64 (by kernel_rfl) (by decide) rdChg) (RdF.cons (Rd.slice 9 Try.underlying65 (by kernel_rfl) (by decide) rdRul) (RdF.cons rdPk (RdF.cons (Rd.int .u64 Try.underlying38) RdF.nil rfl (by kernel_rfl) (by decide)) rfl (by kernel_rfl) (by decide)) rfl (by kernel_rfl) (by decide)) rfl (by kernel_rfl) (by decide)) rfl (by kernel_rfl) (by decide))) (fun p => ⟨p.1, p.2.1, p.2.2.1, p.2.2.2.1, p.2.2.2.2.1⟩) (fun _ => rfl) (fun _ h => ⟨h.1, h.2.1, h.2.2.1, h.2.2.2.1, h.2.2.2.2.1, trivial⟩)
structure Scr where
  config : Cf
  ops : (List Opn)
instance : Inhabited Scr := ⟨⟨default, []⟩⟩
@[go_sem] def Scr.cells (x : Scr) : List D := [.raw (.int .i64 x.config.t), .raw (.int .i64 x.config.lmax), .imm 10 x.ops.length (Opn.rows x.ops)]
def Scr.rows (l : List Scr) : Nat → List D := fun i => (l.getD i default).cells
@[go_sem] theorem Scr.rows_at (l : List Scr) (i : Nat) : Scr.rows l i = (l.getD i default).cells := rfl
def Scr.Ok (x : Scr) : Prop := Cf.Ok x.config ∧ (x.ops.length ≤ maxLen ∧ ∀ a ∈ x.ops, Opn.Ok a) ∧ True
theorem rdScr : Rd Try.prog 49 Scr.Ok Scr.cells :=
  Rd.map (Rd.struct (tot := 3) Try.underlying49 (by kernel_rfl) (RdF.cons rdCf (RdF.cons (Rd.slice 10 Try.underlying47 (by kernel_rfl) (by decide) rdOpn) RdF.nil rfl (by kernel_rfl) (by decide)) rfl (by kernel_rfl) (by decide))) (fun p => ⟨p.1, p.2.1⟩) (fun _ => rfl) (fun _ h => ⟨h.1, h.2.1, trivial⟩)
end Go.Fg.X
