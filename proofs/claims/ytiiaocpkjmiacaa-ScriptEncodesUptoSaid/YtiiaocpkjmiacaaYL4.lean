/- Walks of the functions that the statement reaches. No conditions: contracts and laws. -/
import Derived.Test.YtiiaocpkjmiacaaYK1
/- The coder's methods for numbers, curves, headers, walked. No conditions. -/
namespace Go.Fg.X
set_option linter.unusedSimpArgs false
set_option linter.unusedVariables false
open Go.Proofs Go.Fg
set_option maxRecDepth 100000
variable {M : Med} {s : M.σ}
theorem wrapu_lo (n : Int) : 0 ≤ IntKind.u64.wrap n := by rw [IntKind.wrap_u64]; omega
theorem wrapu_hi (n : Int) : IntKind.u64.wrap n < 18446744073709551616 := by rw [IntKind.wrap_u64]; omega
theorem wrapu_id {n : Int} (h : 0 ≤ n) (h2 : n < 18446744073709551616) : IntKind.u64.wrap n = n := by rw [IntKind.wrap_u64]; omega
theorem rng_i {v : Int} {k : Nat} {l m : Int} (hl : 0 ≤ l) (hm : m < 9223372036854775808) : IntKind.i64.wrap (M.step s v k l m).2 = (M.step s v k l m).2 := by
  have h := M.rng s v k l m
  rw [IntKind.wrap_i64]; omega
theorem num_ok {v : Int} {k : Nat} {l m : Int} (hi : M.inv s) (hu : M.used s + 8 ≤ 4294967296) (hk1 : 1 ≤ k) (hk8 : k ≤ 8) (hl : 0 ≤ l) (hl2 : l < 9223372036854775808) (hm0 : 0 ≤ m) (hm : m < 9223372036854775808) :
    MFn Try.prog 82 (M.hp s) [.ptr 1 0 0 0, dint v, dint k, dint l, dint m] (fun d h => d = dint (M.step s (IntKind.u64.wrap v) k l m).2 ∧ h = M.hp (M.step s (IntKind.u64.wrap v) k l m).1) := by
  have e1 : IntKind.u64.wrap l = l := wrapu_id hl (by omega)
  have e2 : IntKind.u64.wrap m = m := wrapu_id hm0 (by omega)
  have e3 : IntKind.i64.wrap (M.step s (IntKind.u64.wrap v) k l m).2 = (M.step s (IntKind.u64.wrap v) k l m).2 := rng_i hl hm
  refine MFn_hxk 4 cx_ok 200 Try.func82 rfl rfl Try.ntmps82 Try.results82 rfl fun base w pl hb => ?_
  simp only [go_sem, simprocAttr]
  simp only [e1, e2]
  refine kont_callM hb [0, 1, 2, 3] M.fok rfl ?_ (M.ok s (IntKind.u64.wrap v) k l m hi hu hk1 hk8 hl (wrapu_lo v) (wrapu_hi v)) rfl ?_
  · simp only [go_sem, simprocAttr, e3]
  rintro d h ⟨rfl, rfl⟩
  simp only [go_sem, simprocAttr, e3]
  refine kont_of_hx cx_ok hb 200 ?_
  simp only [go_sem, simprocAttr, e3]
def pcurve (x : Cv) : Prog Cv := .fld x.m1 4 0 4294967295 fun a => .fld x.d 4 0 1048576 fun b => .fld x.m2 4 0 4294967295 fun c => .ret ⟨a, b, c⟩
theorem pcurve_fits (x : Cv) : (pcurve x).Fits 24 := by simp [pcurve, Prog.Fits]
theorem u64_wf {n : Int} (h : (Lit.int .u64 n).wf = true) : 0 ≤ n ∧ n < 18446744073709551616 := by
  have := (by simpa [Lit.wf] using h : IntKind.u64.min ≤ n ∧ n ≤ IntKind.u64.max)
  simp only [show IntKind.u64.min = 0 from by decide, show IntKind.u64.max = 18446744073709551615 from by decide] at this
  omega
theorem curve_ok {x : Cv} (hx : Cv.Ok x) (hi : M.inv s) (hu : M.used s + 24 ≤ 4294967296) :
    MFn Try.prog 122 (M.hp s) [.ptr 1 0 0 0, .agg x.cells] (fun d h => d = .agg (((pcurve x).run M s).2).cells ∧ h = M.hp ((pcurve x).run M s).1) := by
  obtain ⟨a1, a2⟩ := u64_wf hx.1
  obtain ⟨b1, b2⟩ := u64_wf hx.2.1
  obtain ⟨c1, c2⟩ := u64_wf hx.2.2.1
  have u1 := M.use s x.m1 4 0 4294967295
  have u2 := M.use (M.step s x.m1 4 0 4294967295).1 x.d 4 0 1048576
  have i1 := M.kept s x.m1 4 0 4294967295 hi
  have i2 := M.kept (M.step s x.m1 4 0 4294967295).1 x.d 4 0 1048576 i1
  simp only [pcurve, Prog.run]
  refine MFn_hxk 4 cx_ok 200 Try.func122 rfl rfl Try.ntmps122 Try.results122 rfl fun base w pl hb => ?_
  simp only [go_sem, simprocAttr]
  refine kont_callM hb [0, 1, 2, 3] fn116 rfl ?_ (word_ok (v := x.m1) (k := 4) bits4 hi (by omega) (by decide) (by decide) a1 a2) rfl ?_
  · simp only [go_sem, simprocAttr]
  rintro d h ⟨rfl, rfl⟩
  simp only [go_sem, simprocAttr]
  refine kont_of_hx cx_ok hb 200 ?_
  simp only [go_sem, simprocAttr]
  refine kont_haxNC [6] cx_ok hb 200 mixed [(0, true), (1, true), (2, true), (3, true), (4, true), (5, true), (6, false), (7, true), (8, false)] [] (by kernel_rfl) (by kernel_rfl) ?_
  simp only [go_sem, simprocAttr]
  refine AX_callM hb [0, 1, 2, 3] M.fok rfl ?_ (M.ok _ x.d 4 0 1048576 i1 (by omega) (by decide) (by decide) (by decide) b1 b2) rfl ?_
  · simp only [go_sem, simprocAttr]
  rintro d h ⟨rfl, rfl⟩
  simp only [go_sem, simprocAttr]
  refine AX_of_hax cx_ok hb ?_
  simp only [go_sem, simprocAttr]
  refine kont_callM hb [0, 1, 2, 3] fn116 rfl ?_ (word_ok (v := x.m2) (k := 4) bits4 i2 (by omega) (by decide) (by decide) c1 c2) rfl ?_
  · simp only [go_sem, simprocAttr]
  rintro d h ⟨rfl, rfl⟩
  simp only [go_sem, simprocAttr]
  refine kont_of_hx cx_ok hb 200 ?_
  simp only [go_sem, simprocAttr]
end Go.Fg.X
/- The coder's method for headers, walked. No conditions. -/
namespace Go.Fg.X
set_option linter.unusedSimpArgs false
set_option linter.unusedVariables false
open Go.Proofs Go.Fg
set_option maxRecDepth 100000
variable {M : Med} {s : M.σ}
structure Hd where
  a : Int
  b : Int
  c : Int
  d : Int
@[go_sem] def Hd.cells (h : Hd) : List D := [.raw (.int .u16 h.a), .raw (.int .u16 h.b), .raw (.int .u16 h.c), .raw (.int .u16 h.d)]
def Hd.Ok (h : Hd) : Prop := (Lit.int .u16 h.a).wf = true ∧ (Lit.int .u16 h.b).wf = true ∧ (Lit.int .u16 h.c).wf = true ∧ (Lit.int .u16 h.d).wf = true
theorem u16_wf {n : Int} (h : (Lit.int .u16 n).wf = true) : 0 ≤ n ∧ n < 65536 := by
  have := (by simpa [Lit.wf] using h : IntKind.u16.min ≤ n ∧ n ≤ IntKind.u16.max)
  simp only [show IntKind.u16.min = 0 from by decide, show IntKind.u16.max = 65535 from by decide] at this
  omega
def phead (h : Hd) : Prog Hd := .fld h.a 2 0 65535 fun a => .fld h.b 2 0 65535 fun b => .fld h.c 2 0 65535 fun c => .fld h.d 2 0 65535 fun d => .ret ⟨a, b, c, d⟩
theorem phead_fits (h : Hd) : (phead h).Fits 32 := by simp [phead, Prog.Fits]
theorem rng_h {v : Int} {k : Nat} : IntKind.u16.wrap (M.step s v k 0 65535).2 = (M.step s v k 0 65535).2 := by
  have h := M.rng s v k 0 65535
  rw [IntKind.wrap_u16]; omega
theorem header_ok {x : Hd} (hx : Hd.Ok x) (hi : M.inv s) (hu : M.used s + 32 ≤ 4294967296) :
    MFn Try.prog 123 (M.hp s) [.ptr 1 0 0 0, .agg x.cells] (fun d h => d = .agg (((phead x).run M s).2).cells ∧ h = M.hp ((phead x).run M s).1) := by
  obtain ⟨a1, a2⟩ := u16_wf hx.1
  obtain ⟨b1, b2⟩ := u16_wf hx.2.1
  obtain ⟨c1, c2⟩ := u16_wf hx.2.2.1
  obtain ⟨d1, d2⟩ := u16_wf hx.2.2.2
  have u1 := M.use s x.a 2 0 65535
  have i1 := M.kept s x.a 2 0 65535 hi
  simp only [phead, Prog.run]
  have u2 := M.use (M.step s x.a 2 0 65535).1 x.b 2 0 65535
  have i2 := M.kept (M.step s x.a 2 0 65535).1 x.b 2 0 65535 i1
  have u3 := M.use (M.step (M.step s x.a 2 0 65535).1 x.b 2 0 65535).1 x.c 2 0 65535
  have i3 := M.kept (M.step (M.step s x.a 2 0 65535).1 x.b 2 0 65535).1 x.c 2 0 65535 i2
  have e1 := wrapu_id a1 (by omega)
  have e2 := wrapu_id b1 (by omega)
  have e3 := wrapu_id c1 (by omega)
  have e4 := wrapu_id d1 (by omega)
  refine MFn_hxk 4 cx_ok 200 Try.func123 rfl rfl Try.ntmps123 Try.results123 rfl fun base w pl hb => ?_
  simp only [go_sem, simprocAttr]
  refine kont_turns 4 ?_
  refine kont_of_hx cx_ok hb 200 ?_
  simp only [go_sem, simprocAttr, e1]
  refine kont_callM hb [0, 1, 2, 3] fn116 rfl ?_ (word_ok (v := x.a) (k := 2) bits2 hi (by omega) (by decide) (by decide) a1 (by omega)) rfl ?_
  · simp only [go_sem, simprocAttr, e1, e2, rng_h]
  rintro d h ⟨rfl, rfl⟩
  simp only [go_sem, simprocAttr, e1, e2, rng_h]
  refine kont_of_hx cx_ok hb 200 ?_
  simp only [go_sem, simprocAttr, e1, e2, rng_h]
  refine kont_of_hx cx_ok hb 200 ?_
  simp only [go_sem, simprocAttr, e2]
  refine kont_callM hb [0, 1, 2, 3] fn116 rfl ?_ (word_ok (v := x.b) (k := 2) bits2 i1 (by omega) (by decide) (by decide) b1 (by omega)) rfl ?_
  · simp only [go_sem, simprocAttr, e2, e3, rng_h]
  rintro d h ⟨rfl, rfl⟩
  simp only [go_sem, simprocAttr, e2, e3, rng_h]
  refine kont_of_hx cx_ok hb 200 ?_
  simp only [go_sem, simprocAttr, e2, e3, rng_h]
  refine kont_of_hx cx_ok hb 200 ?_
  simp only [go_sem, simprocAttr, e3]
  refine kont_callM hb [0, 1, 2, 3] fn116 rfl ?_ (word_ok (v := x.c) (k := 2) bits2 i2 (by omega) (by decide) (by decide) c1 (by omega)) rfl ?_
  · simp only [go_sem, simprocAttr, e3, e4, rng_h]
  rintro d h ⟨rfl, rfl⟩
  simp only [go_sem, simprocAttr, e3, e4, rng_h]
  refine kont_of_hx cx_ok hb 200 ?_
  simp only [go_sem, simprocAttr, e3, e4, rng_h]
  refine kont_of_hx cx_ok hb 200 ?_
  simp only [go_sem, simprocAttr, e4]
  refine kont_callM hb [0, 1, 2, 3] fn116 rfl ?_ (word_ok (v := x.d) (k := 2) bits2 i3 (by omega) (by decide) (by decide) d1 (by omega)) rfl ?_
  · simp only [go_sem, simprocAttr, e4, rng_h]
  rintro d h ⟨rfl, rfl⟩
  simp only [go_sem, simprocAttr, e4, rng_h]
  refine kont_of_hx cx_ok hb 200 ?_
  simp only [go_sem, simprocAttr, e4, rng_h]
  refine kont_of_hx cx_ok hb 200 ?_
  simp only [go_sem, simprocAttr]
  refine kont_of_hx cx_ok hb 200 ?_
  simp only [go_sem, simprocAttr]
end Go.Fg.X
/- The coder's methods for packets, rules, classes, walked. No conditions. -/
namespace Go.Fg.X
set_option linter.unusedSimpArgs false
set_option linter.unusedVariables false
open Go.Proofs Go.Fg
set_option maxRecDepth 100000
variable {M : Med} {s : M.σ}
def pnum (v : Int) (k : Nat) (l m : Int) : Prog Int := .fld (IntKind.u64.wrap v) k l m .ret
def ppacket (x : Pk) : Prog Pk := .fld x.iD 8 0 18446744073709551615 fun a => .fld (IntKind.u64.wrap x.len) 2 1 16384 fun b => (phead ⟨x.head0, x.head1, x.head2, x.head3⟩).bind fun h => .ret ⟨a, b, h.a, h.b, h.c, h.d⟩
theorem ppacket_fits (x : Pk) : (ppacket x).Fits 48 := by
  refine ⟨by decide, by decide, fun _ _ => ⟨by decide, by decide, fun _ _ => ?_⟩⟩
  refine Prog.fits_bind _ 0 ?_ _ 32 (phead_fits _)
  intro _; trivial
theorem packet_ok {x : Pk} (hx : Pk.Ok x) (hi : M.inv s) (hu : M.used s + 48 ≤ 4294967296) :
    MFn Try.prog 115 (M.hp s) [.ptr 1 0 0 0, .agg x.cells] (fun d h => d = .agg (((ppacket x).run M s).2).cells ∧ h = M.hp ((ppacket x).run M s).1) := by
  obtain ⟨a1, a2⟩ := u64_wf hx.1
  have hh : Hd.Ok ⟨x.head0, x.head1, x.head2, x.head3⟩ := ⟨hx.2.2.1, hx.2.2.2.1, hx.2.2.2.2.1, hx.2.2.2.2.2.1⟩
  simp only [ppacket, Prog.run, Prog.run_bind]
  have u1 := M.use s x.iD 8 0 18446744073709551615
  have i1 := M.kept s x.iD 8 0 18446744073709551615 hi
  generalize hs1 : (M.step s x.iD 8 0 18446744073709551615).1 = s1 at *
  have u2 := M.use s1 (IntKind.u64.wrap x.len) 2 1 16384
  have i2 := M.kept s1 (IntKind.u64.wrap x.len) 2 1 16384 i1
  refine MFn_hxk 4 cx_ok 200 Try.func115 rfl rfl Try.ntmps115 Try.results115 rfl fun base w pl hb => ?_
  simp only [go_sem, simprocAttr]
  refine kont_callM hb [0, 1, 2, 3] fn116 rfl ?_ (word_ok (v := x.iD) (k := 8) bits8 hi (by omega) (by decide) (by decide) a1 a2) rfl ?_
  · simp only [go_sem, simprocAttr, hs1]
  rintro d h ⟨rfl, rfl⟩
  simp only [go_sem, simprocAttr, hs1]
  refine kont_of_hx cx_ok hb 200 ?_
  simp only [go_sem, simprocAttr, hs1]
  refine kont_callM hb [0, 1, 2, 3] fn82 rfl ?_ (num_ok (v := x.len) (k := 2) (l := 1) (m := 16384) i1 (by omega) (by decide) (by decide) (by decide) (by decide) (by decide) (by decide)) rfl ?_
  · simp only [go_sem, simprocAttr]
  rintro d h ⟨rfl, rfl⟩
  simp only [go_sem, simprocAttr]
  refine kont_of_hx cx_ok hb 200 ?_
  simp only [go_sem, simprocAttr]
  refine kont_callM hb [0, 1, 2, 3] fn123 rfl ?_ (header_ok hh i2 (by omega)) rfl ?_
  · simp only [go_sem, simprocAttr]
  rintro d h ⟨rfl, rfl⟩
  simp only [go_sem, simprocAttr]
  refine kont_of_hx cx_ok hb 200 ?_
  simp only [go_sem, simprocAttr]
def rmask (x : Rul) : Hd := ⟨x.mask0, x.mask1, x.mask2, x.mask3⟩
def rwant (x : Rul) : Hd := ⟨x.want0, x.want1, x.want2, x.want3⟩
def prule (x : Rul) : Prog Rul := (phead ⟨x.mask0, x.mask1, x.mask2, x.mask3⟩).bind fun a => (phead ⟨x.want0, x.want1, x.want2, x.want3⟩).bind fun b => .fld (IntKind.u64.wrap x.cls) 4 0 65536 fun c => .ret ⟨a.a, a.b, a.c, a.d, b.a, b.b, b.c, b.d, c⟩
theorem prule_fits (x : Rul) : (prule x).Fits 72 := by
  refine Prog.fits_bind _ 40 ?_ _ 32 (phead_fits _)
  intro _
  refine Prog.fits_bind _ 8 ?_ _ 32 (phead_fits _)
  intro _
  exact ⟨by decide, by decide, fun _ _ => trivial⟩
theorem rule_ok {x : Rul} (hx : Rul.Ok x) (hi : M.inv s) (hu : M.used s + 72 ≤ 4294967296) :
    MFn Try.prog 114 (M.hp s) [.ptr 1 0 0 0, .agg x.cells] (fun d h => d = .agg (((prule x).run M s).2).cells ∧ h = M.hp ((prule x).run M s).1) := by
  have h1 : Hd.Ok ⟨x.mask0, x.mask1, x.mask2, x.mask3⟩ := ⟨hx.1, hx.2.1, hx.2.2.1, hx.2.2.2.1⟩
  have h2 : Hd.Ok ⟨x.want0, x.want1, x.want2, x.want3⟩ := ⟨hx.2.2.2.2.1, hx.2.2.2.2.2.1, hx.2.2.2.2.2.2.1, hx.2.2.2.2.2.2.2.1⟩
  simp only [prule, Prog.run, Prog.run_bind]
  have u1 := Prog.use M (phead ⟨x.mask0, x.mask1, x.mask2, x.mask3⟩) 32 s (phead_fits _)
  have i1 := Prog.kept M (phead ⟨x.mask0, x.mask1, x.mask2, x.mask3⟩) s hi
  generalize hs1 : ((phead ⟨x.mask0, x.mask1, x.mask2, x.mask3⟩).run M s).1 = s1 at *
  have u2 := Prog.use M (phead ⟨x.want0, x.want1, x.want2, x.want3⟩) 32 s1 (phead_fits _)
  have i2 := Prog.kept M (phead ⟨x.want0, x.want1, x.want2, x.want3⟩) s1 i1
  refine MFn_hxk 4 cx_ok 200 Try.func114 rfl rfl Try.ntmps114 Try.results114 rfl fun base w pl hb => ?_
  simp only [go_sem, simprocAttr]
  refine kont_callM hb [0, 1, 2, 3] fn123 rfl ?_ (header_ok h1 hi (by omega)) rfl ?_
  · simp only [go_sem, simprocAttr, hs1]
  rintro d h ⟨rfl, rfl⟩
  simp only [go_sem, simprocAttr, hs1]
  refine kont_of_hx cx_ok hb 200 ?_
  simp only [go_sem, simprocAttr, hs1]
  refine kont_callM hb [0, 1, 2, 3] fn123 rfl ?_ (header_ok h2 i1 (by omega)) rfl ?_
  · simp only [go_sem, simprocAttr]
  rintro d h ⟨rfl, rfl⟩
  simp only [go_sem, simprocAttr]
  refine kont_of_hx cx_ok hb 200 ?_
  simp only [go_sem, simprocAttr]
  refine kont_callM hb [0, 1, 2, 3] fn82 rfl ?_ (num_ok (v := x.cls) (k := 4) (l := 0) (m := 65536) i2 (by omega) (by decide) (by decide) (by decide) (by decide) (by decide) (by decide)) rfl ?_
  · simp only [go_sem, simprocAttr]
  rintro d h ⟨rfl, rfl⟩
  simp only [go_sem, simprocAttr]
  refine kont_of_hx cx_ok hb 200 ?_
  simp only [go_sem, simprocAttr]
end Go.Fg.X
/- The coder's methods for classes and changes, walked. No conditions. -/
namespace Go.Fg.X
set_option linter.unusedSimpArgs false
set_option linter.unusedVariables false
open Go.Proofs Go.Fg
set_option maxRecDepth 100000
variable {M : Med} {s : M.σ}
def leafI (b : Bool) : Int := bif b then 1 else 0
def pclass (x : Kls) : Prog Kls :=
  .fld (IntKind.u64.wrap x.iD) 4 0 65536 fun a => .fld (IntKind.u64.wrap x.parent) 4 0 65536 fun b => .fld (leafI x.leaf) 1 0 1 fun c =>
  (pcurve x.rt).bind fun r => (pcurve x.ls).bind fun l => (pcurve x.ul).bind fun u =>
  .fld (IntKind.u64.wrap x.pkts) 1 0 64 fun p => .fld (IntKind.u64.wrap x.bytes) 4 0 1048576 fun q => .ret ⟨a, b, c == 1, r, l, u, p, q⟩
theorem pclass_fits (x : Kls) : (pclass x).Fits 112 := by
  refine ⟨by decide, by decide, fun _ _ => ⟨by decide, by decide, fun _ _ => ⟨by decide, by decide, fun _ _ => ?_⟩⟩⟩
  refine Prog.fits_bind _ 64 ?_ _ 24 (pcurve_fits _)
  intro _
  refine Prog.fits_bind _ 40 ?_ _ 24 (pcurve_fits _)
  intro _
  refine Prog.fits_bind _ 16 ?_ _ 24 (pcurve_fits _)
  intro _
  exact ⟨by decide, by decide, fun _ _ => ⟨by decide, by decide, fun _ _ => trivial⟩⟩
theorem class_ok {x : Kls} (hx : Kls.Ok x) (hi : M.inv s) (hu : M.used s + 112 ≤ 4294967296) :
    MFn Try.prog 112 (M.hp s) [.ptr 1 0 0 0, .agg x.cells] (fun d h => d = .agg (((pclass x).run M s).2).cells ∧ h = M.hp ((pclass x).run M s).1) := by
  have h1 := hx.2.2.2.1
  have h2 := hx.2.2.2.2.1
  have h3 := hx.2.2.2.2.2.1
  simp only [pclass, Prog.run, Prog.run_bind]
  have u1 := M.use s (IntKind.u64.wrap x.iD) 4 0 65536
  have i1 := M.kept s (IntKind.u64.wrap x.iD) 4 0 65536 hi
  generalize hs1 : M.step s (IntKind.u64.wrap x.iD) 4 0 65536 = r1 at *
  have u2 := M.use r1.1 (IntKind.u64.wrap x.parent) 4 0 65536
  have i2 := M.kept r1.1 (IntKind.u64.wrap x.parent) 4 0 65536 i1
  generalize hs2 : M.step r1.1 (IntKind.u64.wrap x.parent) 4 0 65536 = r2 at *
  have u3 := M.use r2.1 (leafI x.leaf) 1 0 1
  have i3 := M.kept r2.1 (leafI x.leaf) 1 0 1 i2
  generalize hs3 : M.step r2.1 (leafI x.leaf) 1 0 1 = r3 at *
  have u4 := Prog.use M (pcurve x.rt) 24 r3.1 (pcurve_fits _)
  have i4 := Prog.kept M (pcurve x.rt) r3.1 i3
  generalize hs4 : (pcurve x.rt).run M r3.1 = r4 at *
  have u5 := Prog.use M (pcurve x.ls) 24 r4.1 (pcurve_fits _)
  have i5 := Prog.kept M (pcurve x.ls) r4.1 i4
  generalize hs5 : (pcurve x.ls).run M r4.1 = r5 at *
  have u6 := Prog.use M (pcurve x.ul) 24 r5.1 (pcurve_fits _)
  have i6 := Prog.kept M (pcurve x.ul) r5.1 i5
  generalize hs6 : (pcurve x.ul).run M r5.1 = r6 at *
  have u7 := M.use r6.1 (IntKind.u64.wrap x.pkts) 1 0 64
  have i7 := M.kept r6.1 (IntKind.u64.wrap x.pkts) 1 0 64 i6
  generalize hs7 : M.step r6.1 (IntKind.u64.wrap x.pkts) 1 0 64 = r7 at *
  have n1 := num_ok (s := s) (v := x.iD) (k := 4) (l := 0) (m := 65536) hi (by omega) (by decide) (by decide) (by decide) (by decide) (by decide) (by decide)
  have n2 := num_ok (s := r1.1) (v := x.parent) (k := 4) (l := 0) (m := 65536) i1 (by omega) (by decide) (by decide) (by decide) (by decide) (by decide) (by decide)
  have n3 := num_ok (s := r2.1) (v := leafI x.leaf) (k := 1) (l := 0) (m := 1) i2 (by omega) (by decide) (by decide) (by decide) (by decide) (by decide) (by decide)
  have n7 := num_ok (s := r6.1) (v := x.pkts) (k := 1) (l := 0) (m := 64) i6 (by omega) (by decide) (by decide) (by decide) (by decide) (by decide) (by decide)
  have n8 := num_ok (s := r7.1) (v := x.bytes) (k := 4) (l := 0) (m := 1048576) i7 (by omega) (by decide) (by decide) (by decide) (by decide) (by decide) (by decide)
  have e3 : IntKind.u64.wrap (leafI x.leaf) = leafI x.leaf := by cases x.leaf <;> decide
  have c4 := curve_ok (s := r3.1) h1 i3 (by omega)
  have c5 := curve_ok (s := r4.1) h2 i4 (by omega)
  have c6 := curve_ok (s := r5.1) h3 i5 (by omega)
  rw [hs1] at n1; rw [hs2] at n2; rw [e3, hs3] at n3; rw [hs7] at n7; rw [hs4] at c4; rw [hs5] at c5; rw [hs6] at c6
  clear hs1 hs2 hs3 hs4 hs5 hs6 hs7
  refine MFn_hxk 4 cx_ok 200 Try.func112 rfl rfl Try.ntmps112 Try.results112 rfl fun base w pl hb => ?_
  simp only [go_sem, simprocAttr]
  refine kont_callM hb [0, 1, 2, 3] fn82 rfl ?_ (n1) rfl ?_
  · simp only [go_sem, simprocAttr]
  rintro d h ⟨rfl, rfl⟩
  simp only [go_sem, simprocAttr]
  refine kont_of_hx cx_ok hb 200 ?_
  simp only [go_sem, simprocAttr]
  refine kont_callM hb [0, 1, 2, 3] fn82 rfl ?_ (n2) rfl ?_
  · simp only [go_sem, simprocAttr]
  rintro d h ⟨rfl, rfl⟩
  simp only [go_sem, simprocAttr]
  refine kont_of_hx cx_ok hb 200 ?_
  simp only [go_sem, simprocAttr]
  refine hite_intro (fun hl => ?_) (fun hl => ?_)
  all_goals simp only [go_sem, simprocAttr]
  · simp only [hl, leafI, cond_true] at n3
    refine kont_callM hb [0, 1, 2, 3] fn82 rfl ?_ (n3) rfl ?_
    · simp only [go_sem, simprocAttr]
    rintro d h ⟨rfl, rfl⟩
    simp only [go_sem, simprocAttr]
    refine kont_of_hx cx_ok hb 200 ?_
    simp only [go_sem, simprocAttr]
    refine kont_callM hb [0, 1, 2, 3] fn122 rfl ?_ (c4) rfl ?_
    · simp only [go_sem, simprocAttr]
    rintro d h ⟨rfl, rfl⟩
    simp only [go_sem, simprocAttr]
    refine kont_of_hx cx_ok hb 200 ?_
    simp only [go_sem, simprocAttr]
    refine kont_callM hb [0, 1, 2, 3] fn122 rfl ?_ (c5) rfl ?_
    · simp only [go_sem, simprocAttr]
    rintro d h ⟨rfl, rfl⟩
    simp only [go_sem, simprocAttr]
    refine kont_of_hx cx_ok hb 200 ?_
    simp only [go_sem, simprocAttr]
    refine kont_callM hb [0, 1, 2, 3] fn122 rfl ?_ (c6) rfl ?_
    · simp only [go_sem, simprocAttr]
    rintro d h ⟨rfl, rfl⟩
    simp only [go_sem, simprocAttr]
    refine kont_of_hx cx_ok hb 200 ?_
    simp only [go_sem, simprocAttr]
    refine kont_callM hb [0, 1, 2, 3] fn82 rfl ?_ (n7) rfl ?_
    · simp only [go_sem, simprocAttr]
    rintro d h ⟨rfl, rfl⟩
    simp only [go_sem, simprocAttr]
    refine kont_of_hx cx_ok hb 200 ?_
    simp only [go_sem, simprocAttr]
    refine kont_callM hb [0, 1, 2, 3] fn82 rfl ?_ (n8) rfl ?_
    · simp only [go_sem, simprocAttr]
    rintro d h ⟨rfl, rfl⟩
    simp only [go_sem, simprocAttr]
    refine kont_of_hx cx_ok hb 200 ?_
    simp only [go_sem, simprocAttr]
  · simp only [hl, leafI, cond_false] at n3
    refine kont_callM hb [0, 1, 2, 3] fn82 rfl ?_ (n3) rfl ?_
    · simp only [go_sem, simprocAttr]
    rintro d h ⟨rfl, rfl⟩
    simp only [go_sem, simprocAttr]
    refine kont_of_hx cx_ok hb 200 ?_
    simp only [go_sem, simprocAttr]
    refine kont_callM hb [0, 1, 2, 3] fn122 rfl ?_ (c4) rfl ?_
    · simp only [go_sem, simprocAttr]
    rintro d h ⟨rfl, rfl⟩
    simp only [go_sem, simprocAttr]
    refine kont_of_hx cx_ok hb 200 ?_
    simp only [go_sem, simprocAttr]
    refine kont_callM hb [0, 1, 2, 3] fn122 rfl ?_ (c5) rfl ?_
    · simp only [go_sem, simprocAttr]
    rintro d h ⟨rfl, rfl⟩
    simp only [go_sem, simprocAttr]
    refine kont_of_hx cx_ok hb 200 ?_
    simp only [go_sem, simprocAttr]
    refine kont_callM hb [0, 1, 2, 3] fn122 rfl ?_ (c6) rfl ?_
    · simp only [go_sem, simprocAttr]
    rintro d h ⟨rfl, rfl⟩
    simp only [go_sem, simprocAttr]
    refine kont_of_hx cx_ok hb 200 ?_
    simp only [go_sem, simprocAttr]
    refine kont_callM hb [0, 1, 2, 3] fn82 rfl ?_ (n7) rfl ?_
    · simp only [go_sem, simprocAttr]
    rintro d h ⟨rfl, rfl⟩
    simp only [go_sem, simprocAttr]
    refine kont_of_hx cx_ok hb 200 ?_
    simp only [go_sem, simprocAttr]
    refine kont_callM hb [0, 1, 2, 3] fn82 rfl ?_ (n8) rfl ?_
    · simp only [go_sem, simprocAttr]
    rintro d h ⟨rfl, rfl⟩
    simp only [go_sem, simprocAttr]
    refine kont_of_hx cx_ok hb 200 ?_
    simp only [go_sem, simprocAttr]
end Go.Fg.X
/- The coder's method for lists, walked for changes. No conditions. -/
namespace Go.Fg.X
set_option linter.unusedSimpArgs false
set_option linter.unusedVariables false
open Go.Proofs Go.Fg
set_option maxRecDepth 100000
variable {M : Med} {s : M.σ}
def pchange (x : Chg) : Prog Chg := .fld (IntKind.u64.wrap x.kind) 1 1 3 fun k => (pclass x.cls).bind fun c => .ret ⟨k, c⟩
theorem pchange_fits (x : Chg) : (pchange x).Fits 120 := by
  refine ⟨by decide, by decide, fun _ _ => ?_⟩
  refine Prog.fits_bind _ 0 ?_ _ 112 (pclass_fits _)
  intro _; trivial
@[go_sem] def bx : Ob := ⟨.one, 0, 1, 1, fun _ => [.ptr 1 0 0 0]⟩
theorem change_ok {x : Chg} (hx : Chg.Ok x) (hi : M.inv s) (hu : M.used s + 120 ≤ 4294967296) :
    MFn Try.prog 111 (M.hp s ++ [bx]) [.agg x.cells, .ptr 4 0 0 0] (fun d h => d = .agg (((pchange x).run M s).2).cells ∧ h = M.hp ((pchange x).run M s).1 ++ [bx]) := by
  simp only [pchange, Prog.run, Prog.run_bind]
  have u1 := M.use s (IntKind.u64.wrap x.kind) 1 1 3
  have i1 := M.kept s (IntKind.u64.wrap x.kind) 1 1 3 hi
  refine MFn_hxk 5 cx_ok 200 Try.func111 rfl rfl Try.ntmps111 Try.results111 rfl fun base w pl hb => ?_
  simp only [go_sem, simprocAttr]
  refine kont_callM hb [0, 1, 2, 3] fn82 rfl ?_ (num_ok (v := x.kind) (k := 1) (l := 1) (m := 3) hi (by omega) (by decide) (by decide) (by decide) (by decide) (by decide) (by decide)) rfl ?_
  · simp only [go_sem, simprocAttr]
  rintro d h ⟨rfl, rfl⟩
  simp only [go_sem, simprocAttr]
  refine kont_of_hx cx_ok hb 200 ?_
  simp only [go_sem, simprocAttr]
  refine kont_callM hb [0, 1, 2, 3] fn112 rfl ?_ (class_ok hx.2.1 i1 (by omega)) rfl ?_
  · simp only [go_sem, simprocAttr]
  rintro d h ⟨rfl, rfl⟩
  simp only [go_sem, simprocAttr]
  refine kont_of_hx cx_ok hb 200 ?_
  simp only [go_sem, simprocAttr]
def ploop {α : Type} [Inhabited α] (one : α → Prog α) (l : List α) : Nat → Nat → List α → Prog (List α)
  | 0, _, out => .ret out
  | n + 1, i, out => .chk fun e => bif e then .ret [] else (one (l.getD i default)).bind fun y => ploop one l n (i + 1) (out ++ [y])
def plist {α : Type} [Inhabited α] (one : α → Prog α) (l : List α) : Prog (List α) := .fld l.length 1 0 32 fun n => ploop one l n.toNat 0 []
theorem ploop_fits {α : Type} [Inhabited α] {one : α → Prog α} {c : Nat} (h : ∀ x, (one x).Fits c) (l : List α) : ∀ (n i : Nat) (out : List α), (ploop one l n i out).Fits (n * c)
  | 0, _, _ => trivial
  | n + 1, i, out => fun b => by
    cases b
    · rw [show (n + 1) * c = c + n * c by rw [Nat.succ_mul, Nat.add_comm]]
      exact Prog.fits_bind (fun y => ploop one l n (i + 1) (out ++ [y])) (n * c) (fun y => ploop_fits h l n (i + 1) _) _ c (h _)
    · trivial
theorem plist_fits {α : Type} [Inhabited α] {one : α → Prog α} {c : Nat} (h : ∀ x, (one x).Fits c) (l : List α) : (plist one l).Fits (32 * c + 8) := by
  refine ⟨by decide, by omega, fun v hv => ?_⟩
  refine Prog.fits_le _ (ploop_fits h l v.toNat 0 []) ?_
  have : v.toNat ≤ 32 := by omega
  rw [show 32 * c + 8 - 8 = 32 * c by omega]
  exact Nat.mul_le_mul_right c this
end Go.Fg.X
/- The coder's method for lists, walked for changes. No conditions. -/
namespace Go.Fg.X
set_option linter.unusedSimpArgs false
set_option linter.unusedVariables false
open Go.Proofs Go.Fg
set_option maxRecDepth 100000
variable {M : Med} {s : M.σ}
/-- A slice that is handed back: what it holds, where the medium lets that be told. -/
def Med.Sl (M : Med) (q : D) (z n : Nat) (r : Nat → List D) : Prop := q = .imm z n r ∨ (M.keep = false ∧ (q = .nil ∨ ∃ a m c, q = .raw (.slice a m c)))
theorem run_ploop {α : Type} [Inhabited α] (one : α → Prog α) (l : List α) (n i : Nat) (out : List α) (s : M.σ) : (ploop one l (n + 1) i out).run M s = bif M.err s != 0 then (s, []) else (ploop one l n (i + 1) (out ++ [((one (l.getD i default)).run M s).2])).run M ((one (l.getD i default)).run M s).1 := by
  simp only [ploop, Prog.run_chk]
  cases M.err s != 0
  · simp only [cond_false, Prog.run_bind]
  · rfl
theorem chg_zero : (default : Chg) = ⟨0, ⟨0, 0, false, ⟨0, 0, 0⟩, ⟨0, 0, 0⟩, ⟨0, 0, 0⟩, 0, 0⟩⟩ := rfl
theorem chg_zero_ok : Chg.Ok default := by
  rw [chg_zero]
  exact ⟨by decide, ⟨by decide, by decide, trivial, ⟨by decide, by decide, by decide, trivial⟩, ⟨by decide, by decide, by decide, trivial⟩, ⟨by decide, by decide, by decide, trivial⟩, by decide, by decide, trivial⟩, trivial⟩
/-- The state ahead of round i, of n. -/
structure ListInv (one : Chg → Prog Chg) (l : List Chg) (n : Nat) (fin : M.σ × List Chg) (i : Nat) (t : M.σ) (out : List Chg) : Prop where
  len : out.length = i
  inv : M.inv t
  use : M.used t + (n - i) * 120 ≤ 4294967296
  fin : (ploop one l (n - i) i out).run M t = fin
def listSt (l : List Chg) (n : Nat) (M : Med) (g : Nat) (i : Nat) (t : M.σ) (out : List Chg) : St :=
  ⟨[(0, .ptr 1 0 0 0), (1, .imm 15 l.length (Chg.rows l)), (2, dint 32), (3, .clo 111 0 [.ptr 4 0 0 0]), (9, .ref 5 g 0 i), (16, dint n), (17, dint i)], M.hp t ++ [bx, ⟨.arr, g, 15, i, Chg.rows out⟩]⟩
theorem listC_ok0 {l : List Chg} (hl : ∀ c ∈ l, Chg.Ok c) (hll : l.length ≤ maxLen) (hi : M.inv s) (hu : M.used s + 3848 ≤ 4294967296) :
    MFn Try.prog 110 (M.hp s ++ [bx]) [.ptr 1 0 0 0, .imm 15 l.length (Chg.rows l), dint 32, .clo 111 0 [.ptr 4 0 0 0]]
      (fun d h => (M.keep = true ∨ d = .nil ∨ ∃ a n c, d = .raw (.slice a n c)) ∧ (M.keep = true → d = .imm 15 (((plist pchange l).run M s).2).length (Chg.rows ((plist pchange l).run M s).2) ∨ (d = .nil ∧ ((plist pchange l).run M s).2 = [])) ∧ h = M.hp ((plist pchange l).run M s).1 ++ [bx]) := by
  have hw : IntKind.u64.wrap (l.length : Int) = l.length := wrapu_id (by omega) (by simp only [maxLen] at hll; omega)
  have u1 := M.use s l.length 1 0 32
  have i1 := M.kept s l.length 1 0 32 hi
  have r1 := M.rng s l.length 1 0 32
  have n1 := num_ok (s := s) (v := l.length) (k := 1) (l := 0) (m := 32) hi (by omega) (by decide) (by decide) (by decide) (by decide) (by decide) (by decide)
  rw [hw] at n1
  simp only [plist, Prog.run]
  generalize hs1 : M.step s l.length 1 0 32 = r at *
  obtain ⟨t0, n0⟩ := r
  obtain ⟨n, rfl⟩ := Int.eq_ofNat_of_zero_le (show 0 ≤ n0 by simp only at r1; omega)
  have hn : n ≤ 32 := by simp only at r1; omega
  simp only [Int.toNat_natCast] at *
  generalize hfin : (ploop pchange l n 0 []).run M t0 = fin
  refine MFn_hxkL 5 cx_ok 200 Try.func110 rfl rfl Try.ntmps110 Try.results110 rfl fun base w pl hb hpl => ?_
  simp only [go_sem, simprocAttr]
  refine kont_callM hb [0, 1, 2, 3] fn82 rfl ?_ (n1) rfl ?_
  · simp only [go_sem, simprocAttr]
  rintro d h ⟨rfl, rfl⟩
  simp only [go_sem, simprocAttr]
  refine kont_of_hx cx_ok hb 200 ?_
  simp only [go_sem, simprocAttr]
  refine kont_weak_code (Weak.phantom 9 15 (Chg.rows []) rfl) ?_
  simp only [go_sem, simprocAttr]
  refine kont_for (fun i st => ∃ t out g, ListInv pchange l n fin i t out ∧ st = listSt l n M g i t out) n (s0 := listSt l n M 0 0 t0 []) (Weak.to 6 (by simp only [listSt, go_sem, simprocAttr])) ⟨t0, [], 0, ⟨rfl, i1, by omega, hfin⟩, rfl⟩ ?_
  rintro i _ hin ⟨t, out, g, I, rfl⟩
  simp only [listSt]
  refine kont_of_hx cx_ok hb 200 ?_
  simp only [go_sem, simprocAttr]
  first | refine hite_lt hin (fun hk1 => ?_) (fun hk1 => ?_) | refine hite_ltI hin (fun hk1 => ?_) (fun hk1 => ?_)
  · simp only [go_sem, simprocAttr, hk1, decide_true]
    have hni : n - i = (n - (i + 1)) + 1 := by omega
    have hf := I.fin
    rw [hni, run_ploop] at hf
    refine hite_intro (fun he => ?_) (fun he => ?_)
    · rw [he, cond_true] at hf
      subst hf
      simp only [go_sem, simprocAttr, he]
      exact ⟨.inr (.inl trivial), fun _ => .inr trivial⟩
    · rw [he, cond_false] at hf
      simp only [go_sem, simprocAttr, he]
      have hx : Chg.Ok (l.getD i default) := by
        by_cases h : i < l.length
        · exact hl _ (getD_mem l default i h)
        · have : l.getD i default = default := by simp [h]
          rw [this]; exact chg_zero_ok
      have c1 := change_ok (M := M) (s := t) hx I.inv (by have := I.use; omega)
      have ku := Prog.use M (pchange (l.getD i default)) 120 t (pchange_fits _)
      have kk := Prog.kept M (pchange (l.getD i default)) t I.inv
      generalize (pchange (l.getD i default)).run M t = rr at *
      refine hite_intro (fun hlt => ?_) (fun hlt => ?_)
      · simp only [go_sem, simprocAttr, hlt]
        refine ⟨by simpa using hlt, ?_⟩
        refine kont_of_hx cx_ok hb 200 ?_
        simp only [go_sem, simprocAttr]
        refine kont_callM hb [0, 1, 2, 3, 4] fn111 rfl ?_ (c1) rfl ?_
        · simp only [go_sem, simprocAttr]
        rintro d h ⟨rfl, rfl⟩
        simp only [go_sem, simprocAttr]
        refine kont_of_hx cx_ok hb 200 ?_
        simp only [go_sem, simprocAttr]
        refine ⟨by omega, hk1, listSt l n M (g + 1) (i + 1) rr.1 (out ++ [rr.2]), Weak.to 6 ?_, _, _, _, ⟨?_, kk, ?_, hf⟩, rfl⟩
        · simp only [listSt, go_sem, simprocAttr]
          refine ⟨by rw [wrap_succ (by omega)], fun j hj => ?_⟩
          rw [getD_app out _ _ j (by have := I.len; omega), I.len]
          cases decide (j < i) <;> rfl
        · simp [I.len]
        · have h2 := I.use
          omega
      · simp only [go_sem, simprocAttr, hlt]
        have h0 : l.getD i default = default := by
          have : l.length ≤ i := by simpa using hlt
          simp [this]
        rw [h0, chg_zero] at c1
        refine kont_callM hb [0, 1, 2, 3, 4] fn111 rfl ?_ (c1) rfl ?_
        · simp only [go_sem, simprocAttr]
        rintro d h ⟨rfl, rfl⟩
        simp only [go_sem, simprocAttr]
        refine kont_of_hx cx_ok hb 200 ?_
        simp only [go_sem, simprocAttr]
        refine ⟨by omega, hk1, listSt l n M (g + 1) (i + 1) rr.1 (out ++ [rr.2]), Weak.to 6 ?_, _, _, _, ⟨?_, kk, ?_, hf⟩, rfl⟩
        · simp only [listSt, go_sem, simprocAttr]
          refine ⟨by rw [wrap_succ (by omega)], fun j hj => ?_⟩
          rw [getD_app out _ _ j (by have := I.len; omega), I.len]
          cases decide (j < i) <;> rfl
        · simp [I.len]
        · have h2 := I.use
          omega
  · subst hk1
    have hf := I.fin
    rw [Nat.sub_self] at hf
    simp only [ploop, Prog.run_ret] at hf
    subst hf
    cases hkp : M.keep with
    | true =>
      refine kont_weak_code (Weak.freezeAt hpl ?_ 9 5 (by simp) rfl rfl (by show 0 + i ≤ i; omega) rfl (fun j _ => rfl)) ?_
      · intro q o ho
        match q, ho with
        | 0, ho => exact ⟨_, rfl, by cases ho; rfl⟩
        | 1, ho => exact ⟨_, rfl, by cases ho; rfl⟩
        | 2, ho => exact ⟨_, rfl, by cases ho; exact M.gen2 hkp _ _⟩
        | 3, ho => exact ⟨_, rfl, by cases ho; exact M.gen3 hkp _ _⟩
        | 4, ho => exact ⟨_, rfl, by cases ho; rfl⟩
        | q + 5, ho => simp at ho
      simp only [go_sem, simprocAttr]
      refine kont_of_hx cx_ok hb 200 ?_
      simp only [go_sem, simprocAttr]
      exact ⟨.inl trivial, .inl (by rw [I.len])⟩
    | false =>
      refine kont_rawSlice 9 rfl fun a n c => ?_
      simp only [go_sem, simprocAttr]
      refine kont_of_hx cx_ok hb 200 ?_
      simp only [go_sem, simprocAttr, hkp]
      exact .inr (.inr ⟨a, n, c, rfl⟩)
theorem listC_ok {l : List Chg} (hl : ∀ c ∈ l, Chg.Ok c) (hll : l.length ≤ maxLen) (hi : M.inv s) (hu : M.used s + 3848 ≤ 4294967296) :
    MFn Try.prog 110 (M.hp s ++ [bx]) [.ptr 1 0 0 0, .imm 15 l.length (Chg.rows l), dint 32, .clo 111 0 [.ptr 4 0 0 0]]
      (fun d h => M.Sl d 15 (((plist pchange l).run M s).2).length (Chg.rows ((plist pchange l).run M s).2) ∧ h = M.hp ((plist pchange l).run M s).1 ++ [bx]) := by
  refine MFn.tell ((listC_ok0 hl hll hi hu).mono fun d h ⟨h0, h2, h3⟩ => ?_)
  cases hk : M.keep
  · rw [hk] at h0
    exact ⟨d, dLe_refl _ _, .inr ⟨hk, by simpa using h0⟩, h3⟩
  · refine ⟨_, ?_, .inl rfl, h3⟩
    rcases h2 hk with e | ⟨e, e2⟩
    · rw [e]; exact dLe_refl _ _
    · rw [e, dLe_nil_imm, e2]; rfl
end Go.Fg.X
/- The coder's method for lists, walked for rules (YK7's lines, turned). No conditions. -/
namespace Go.Fg.X
set_option linter.unusedSimpArgs false
set_option linter.unusedVariables false
open Go.Proofs Go.Fg
set_option maxRecDepth 100000
variable {M : Med} {s : M.σ}
theorem rul_zero : (default : Rul) = ⟨0, 0, 0, 0, 0, 0, 0, 0, 0⟩ := rfl
theorem rul_zero_ok : Rul.Ok default := by
  rw [rul_zero]
  exact ⟨by decide, by decide, by decide, by decide, by decide, by decide, by decide, by decide, by decide, trivial⟩
structure ListInvR (one : Rul → Prog Rul) (l : List Rul) (n : Nat) (fin : M.σ × List Rul) (i : Nat) (t : M.σ) (out : List Rul) : Prop where
  len : out.length = i
  inv : M.inv t
  use : M.used t + (n - i) * 72 ≤ 4294967296
  fin : (ploop one l (n - i) i out).run M t = fin
def listRt (l : List Rul) (n : Nat) (M : Med) (g : Nat) (i : Nat) (t : M.σ) (out : List Rul) : St :=
  ⟨[(0, .ptr 1 0 0 0), (1, .imm 9 l.length (Rul.rows l)), (2, dint 32), (3, .clo 114 1 [.ptr 1 0 0 0]), (9, .ref 4 g 0 i), (16, dint n), (17, dint i)], M.hp t ++ [⟨.arr, g, 9, i, Rul.rows out⟩]⟩
theorem listR_ok0 {l : List Rul} (hl : ∀ c ∈ l, Rul.Ok c) (hll : l.length ≤ maxLen) (hi : M.inv s) (hu : M.used s + 2312 ≤ 4294967296) :
    MFn Try.prog 113 (M.hp s) [.ptr 1 0 0 0, .imm 9 l.length (Rul.rows l), dint 32, .clo 114 1 [.ptr 1 0 0 0]]
      (fun d h => (M.keep = true ∨ d = .nil ∨ ∃ a n c, d = .raw (.slice a n c)) ∧ (M.keep = true → d = .imm 9 (((plist prule l).run M s).2).length (Rul.rows ((plist prule l).run M s).2) ∨ (d = .nil ∧ ((plist prule l).run M s).2 = [])) ∧ h = M.hp ((plist prule l).run M s).1) := by
  have hw : IntKind.u64.wrap (l.length : Int) = l.length := wrapu_id (by omega) (by simp only [maxLen] at hll; omega)
  have u1 := M.use s l.length 1 0 32
  have i1 := M.kept s l.length 1 0 32 hi
  have r1 := M.rng s l.length 1 0 32
  have n1 := num_ok (s := s) (v := l.length) (k := 1) (l := 0) (m := 32) hi (by omega) (by decide) (by decide) (by decide) (by decide) (by decide) (by decide)
  rw [hw] at n1
  simp only [plist, Prog.run]
  generalize hs1 : M.step s l.length 1 0 32 = r at *
  obtain ⟨t0, n0⟩ := r
  obtain ⟨n, rfl⟩ := Int.eq_ofNat_of_zero_le (show 0 ≤ n0 by simp only at r1; omega)
  have hn : n ≤ 32 := by simp only at r1; omega
  simp only [Int.toNat_natCast] at *
  generalize hfin : (ploop prule l n 0 []).run M t0 = fin
  refine MFn_hxkL 4 cx_ok 200 Try.func113 rfl rfl Try.ntmps113 Try.results113 rfl fun base w pl hb hpl => ?_
  simp only [go_sem, simprocAttr]
  refine kont_callM hb [0, 1, 2, 3] fn82 rfl ?_ (n1) rfl ?_
  · simp only [go_sem, simprocAttr]
  rintro d h ⟨rfl, rfl⟩
  simp only [go_sem, simprocAttr]
  refine kont_of_hx cx_ok hb 200 ?_
  simp only [go_sem, simprocAttr]
  refine kont_weak_code (Weak.phantom 9 9 (Rul.rows []) rfl) ?_
  simp only [go_sem, simprocAttr]
  refine kont_for (fun i st => ∃ t out g, ListInvR prule l n fin i t out ∧ st = listRt l n M g i t out) n (s0 := listRt l n M 0 0 t0 []) (Weak.to 5 (by simp only [listRt, go_sem, simprocAttr])) ⟨t0, [], 0, ⟨rfl, i1, by omega, hfin⟩, rfl⟩ ?_
  rintro i _ hin ⟨t, out, g, I, rfl⟩
  simp only [listRt]
  refine kont_of_hx cx_ok hb 200 ?_
  simp only [go_sem, simprocAttr]
  first | refine hite_lt hin (fun hk1 => ?_) (fun hk1 => ?_) | refine hite_ltI hin (fun hk1 => ?_) (fun hk1 => ?_)
  · simp only [go_sem, simprocAttr, hk1, decide_true]
    have hni : n - i = (n - (i + 1)) + 1 := by omega
    have hf := I.fin
    rw [hni, run_ploop] at hf
    refine hite_intro (fun he => ?_) (fun he => ?_)
    · rw [he, cond_true] at hf
      subst hf
      simp only [go_sem, simprocAttr, he]
      exact ⟨.inr (.inl trivial), fun _ => .inr trivial⟩
    · rw [he, cond_false] at hf
      simp only [go_sem, simprocAttr, he]
      have hx : Rul.Ok (l.getD i default) := by
        by_cases h : i < l.length
        · exact hl _ (getD_mem l default i h)
        · have : l.getD i default = default := by simp [h]
          rw [this]; exact rul_zero_ok
      have c1 := rule_ok (M := M) (s := t) hx I.inv (by have := I.use; omega)
      have ku := Prog.use M (prule (l.getD i default)) 72 t (prule_fits _)
      have kk := Prog.kept M (prule (l.getD i default)) t I.inv
      generalize (prule (l.getD i default)).run M t = rr at *
      refine hite_intro (fun hlt => ?_) (fun hlt => ?_)
      · simp only [go_sem, simprocAttr, hlt]
        refine ⟨by simpa using hlt, ?_⟩
        refine kont_of_hx cx_ok hb 200 ?_
        simp only [go_sem, simprocAttr]
        refine kont_callM hb [0, 1, 2, 3] fn114 rfl ?_ (c1) rfl ?_
        · simp only [go_sem, simprocAttr]
        rintro d h ⟨rfl, rfl⟩
        simp only [go_sem, simprocAttr]
        refine kont_of_hx cx_ok hb 200 ?_
        simp only [go_sem, simprocAttr]
        refine ⟨by omega, hk1, listRt l n M (g + 1) (i + 1) rr.1 (out ++ [rr.2]), Weak.to 5 ?_, _, _, _, ⟨?_, kk, ?_, hf⟩, rfl⟩
        · simp only [listRt, go_sem, simprocAttr]
          refine ⟨by rw [wrap_succ (by omega)], fun j hj => ?_⟩
          rw [getD_app out _ _ j (by have := I.len; omega), I.len]
          cases decide (j < i) <;> rfl
        · simp [I.len]
        · have h2 := I.use
          omega
      · simp only [go_sem, simprocAttr, hlt]
        have h0 : l.getD i default = default := by
          have : l.length ≤ i := by simpa using hlt
          simp [this]
        rw [h0, rul_zero] at c1
        refine kont_callM hb [0, 1, 2, 3] fn114 rfl ?_ (c1) rfl ?_
        · simp only [go_sem, simprocAttr]
        rintro d h ⟨rfl, rfl⟩
        simp only [go_sem, simprocAttr]
        refine kont_of_hx cx_ok hb 200 ?_
        simp only [go_sem, simprocAttr]
        refine ⟨by omega, hk1, listRt l n M (g + 1) (i + 1) rr.1 (out ++ [rr.2]), Weak.to 5 ?_, _, _, _, ⟨?_, kk, ?_, hf⟩, rfl⟩
        · simp only [listRt, go_sem, simprocAttr]
          refine ⟨by rw [wrap_succ (by omega)], fun j hj => ?_⟩
          rw [getD_app out _ _ j (by have := I.len; omega), I.len]
          cases decide (j < i) <;> rfl
        · simp [I.len]
        · have h2 := I.use
          omega
  · subst hk1
    have hf := I.fin
    rw [Nat.sub_self] at hf
    simp only [ploop, Prog.run_ret] at hf
    subst hf
    cases hkp : M.keep with
    | true =>
      refine kont_weak_code (Weak.freezeAt hpl ?_ 9 4 (by simp) rfl rfl (by show 0 + i ≤ i; omega) rfl (fun j _ => rfl)) ?_
      · intro q o ho
        match q, ho with
        | 0, ho => exact ⟨_, rfl, by cases ho; rfl⟩
        | 1, ho => exact ⟨_, rfl, by cases ho; rfl⟩
        | 2, ho => exact ⟨_, rfl, by cases ho; exact M.gen2 hkp _ _⟩
        | 3, ho => exact ⟨_, rfl, by cases ho; exact M.gen3 hkp _ _⟩
        | q + 4, ho => simp at ho
      simp only [go_sem, simprocAttr]
      refine kont_of_hx cx_ok hb 200 ?_
      simp only [go_sem, simprocAttr]
      exact ⟨.inl trivial, .inl (by rw [I.len])⟩
    | false =>
      refine kont_rawSlice 9 rfl fun a n c => ?_
      simp only [go_sem, simprocAttr]
      refine kont_of_hx cx_ok hb 200 ?_
      simp only [go_sem, simprocAttr, hkp]
      exact .inr (.inr ⟨a, n, c, rfl⟩)
theorem listR_ok {l : List Rul} (hl : ∀ c ∈ l, Rul.Ok c) (hll : l.length ≤ maxLen) (hi : M.inv s) (hu : M.used s + 2312 ≤ 4294967296) :
    MFn Try.prog 113 (M.hp s) [.ptr 1 0 0 0, .imm 9 l.length (Rul.rows l), dint 32, .clo 114 1 [.ptr 1 0 0 0]]
      (fun d h => M.Sl d 9 (((plist prule l).run M s).2).length (Rul.rows ((plist prule l).run M s).2) ∧ h = M.hp ((plist prule l).run M s).1) := by
  refine MFn.tell ((listR_ok0 hl hll hi hu).mono fun d h ⟨h0, h2, h3⟩ => ?_)
  cases hk : M.keep
  · rw [hk] at h0
    exact ⟨d, dLe_refl _ _, .inr ⟨hk, by simpa using h0⟩, h3⟩
  · refine ⟨_, ?_, .inl rfl, h3⟩
    rcases h2 hk with e | ⟨e, e2⟩
    · rw [e]; exact dLe_refl _ _
    · rw [e, dLe_nil_imm, e2]; rfl
end Go.Fg.X
/- The coder's method for operations, walked. No conditions. -/
namespace Go.Fg.X
set_option linter.unusedSimpArgs false
set_option linter.unusedVariables false
open Go.Proofs Go.Fg
set_option maxRecDepth 100000
variable {M : Med} {s : M.σ}
/-- An operation that is handed back. -/
def Med.OpD (M : Med) (d : D) (x : Opn) : Prop := ∃ q1 q2, d = .agg [.raw (.int .i64 x.kind), q1, q2, .raw (.int .u64 x.packet.iD), .raw (.int .i64 x.packet.len), .raw (.int .u16 x.packet.head0), .raw (.int .u16 x.packet.head1), .raw (.int .u16 x.packet.head2), .raw (.int .u16 x.packet.head3), .raw (.int .u64 x.ticks)] ∧
  M.Sl q1 15 x.changes.length (Chg.rows x.changes) ∧ M.Sl q2 9 x.rules.length (Rul.rows x.rules)
def pop2 (x : Opn) (k : Int) : Prog Opn :=
  if k = 1 then (plist pchange x.changes).bind fun l => .ret ⟨1, l, [], default, 0⟩
  else if k = 2 then (plist prule x.rules).bind fun l => .ret ⟨2, [], l, default, 0⟩
  else if k = 3 then (ppacket x.packet).bind fun p => .ret ⟨3, [], [], p, 0⟩
  else if k = 4 then .fld x.ticks 8 0 18446744073709551615 fun t => .ret ⟨4, [], [], default, t⟩
  else .ret ⟨0, [], [], default, 0⟩
def pop (x : Opn) : Prog Opn := .fld (IntKind.u64.wrap x.kind) 1 1 4 fun k => pop2 x k
theorem pop2_fits (x : Opn) (k : Int) : (pop2 x k).Fits 3848 := by
  unfold pop2
  split
  · refine Prog.fits_bind _ 0 ?_ _ 3848 (plist_fits pchange_fits _)
    intro _; trivial
  split
  · refine Prog.fits_le _ (Prog.fits_bind _ 0 ?_ _ 2312 (plist_fits prule_fits _)) (by decide)
    intro _; trivial
  split
  · refine Prog.fits_le _ (Prog.fits_bind _ 0 ?_ _ 48 (ppacket_fits _)) (by decide)
    intro _; trivial
  split
  · exact ⟨by decide, by decide, fun _ _ => trivial⟩
  · trivial
theorem pop_fits (x : Opn) : (pop x).Fits 3856 := ⟨by decide, by decide, fun v _ => pop2_fits x v⟩
theorem Med.Sl.tell {z : Nat} {q : D} {l : Nat} {r : Nat → List D} (h : M.Sl q z l r ∨ (q = .nil ∧ l = 0)) (k : Nat) : ∃ q', dLe (k + 1) q q' ∧ M.Sl q' z l r := by
  rcases h with h | ⟨rfl, rfl⟩
  · exact ⟨q, dLe_refl _ _, h⟩
  · exact ⟨.imm z 0 r, by rw [dLe_nil_imm], .inl rfl⟩
theorem Med.tellOp {x : Opn} {q1 q2 : D} (h1 : M.Sl q1 15 x.changes.length (Chg.rows x.changes) ∨ (q1 = .nil ∧ x.changes.length = 0)) (h2 : M.Sl q2 9 x.rules.length (Rul.rows x.rules) ∨ (q2 = .nil ∧ x.rules.length = 0)) {hs : List Ob} :
    Told (fun d h => M.OpD d x ∧ h = hs) (.agg [.raw (.int .i64 x.kind), q1, q2, .raw (.int .u64 x.packet.iD), .raw (.int .i64 x.packet.len), .raw (.int .u16 x.packet.head0), .raw (.int .u16 x.packet.head1), .raw (.int .u16 x.packet.head2), .raw (.int .u16 x.packet.head3), .raw (.int .u64 x.ticks)]) hs := by
  obtain ⟨a, a1, a2⟩ := Med.Sl.tell h1 4
  obtain ⟨b, b1, b2⟩ := Med.Sl.tell h2 4
  refine ⟨.agg [.raw (.int .i64 x.kind), a, b, .raw (.int .u64 x.packet.iD), .raw (.int .i64 x.packet.len), .raw (.int .u16 x.packet.head0), .raw (.int .u16 x.packet.head1), .raw (.int .u16 x.packet.head2), .raw (.int .u16 x.packet.head3), .raw (.int .u64 x.ticks)], ?_, ⟨a, b, rfl, a2, b2⟩, rfl⟩
  simp only [dLe_agg, lLe_cons, lLe_nil, dLe_self, true_and, and_true]
  exact ⟨a1, b1⟩
theorem run_pop2_0 (x : Opn) (t : M.σ) : (pop2 x 0).run M t = (t, ⟨0, [], [], default, 0⟩) := rfl
theorem run_pop2_1 (x : Opn) (t : M.σ) : (pop2 x 1).run M t = (((plist pchange x.changes).run M t).1, ⟨1, ((plist pchange x.changes).run M t).2, [], default, 0⟩) := by
  simp only [pop2, if_true, Prog.run_bind, Prog.run_ret]
theorem run_pop2_2 (x : Opn) (t : M.σ) : (pop2 x 2).run M t = (((plist prule x.rules).run M t).1, ⟨2, [], ((plist prule x.rules).run M t).2, default, 0⟩) := by
  simp only [pop2, show ¬((2 : Int) = 1) by decide, if_false, if_true, Prog.run_bind, Prog.run_ret]
theorem run_pop2_3 (x : Opn) (t : M.σ) : (pop2 x 3).run M t = (((ppacket x.packet).run M t).1, ⟨3, [], [], ((ppacket x.packet).run M t).2, 0⟩) := by
  simp only [pop2, show ¬((3 : Int) = 1) by decide, show ¬((3 : Int) = 2) by decide, if_false, if_true, Prog.run_bind, Prog.run_ret]
theorem run_pop2_4 (x : Opn) (t : M.σ) : (pop2 x 4).run M t = ((M.step t x.ticks 8 0 18446744073709551615).1, ⟨4, [], [], default, (M.step t x.ticks 8 0 18446744073709551615).2⟩) := by
  simp only [pop2, show ¬((4 : Int) = 1) by decide, show ¬((4 : Int) = 2) by decide, show ¬((4 : Int) = 3) by decide, if_false, if_true, Prog.run_fld, Prog.run_ret]
theorem op_ok0 {x : Opn} (hx : Opn.Ok x) (hi : M.inv s) (hu : M.used s + 3856 ≤ 4294967296) :
    MFn Try.prog 83 (M.hp s) [.ptr 1 0 0 0, .agg x.cells] (fun d h => M.OpD d ((pop x).run M s).2 ∧ h = M.hp ((pop x).run M s).1) := by
  have r1 := M.rng s (IntKind.u64.wrap x.kind) 1 1 4
  have u1 := M.use s (IntKind.u64.wrap x.kind) 1 1 4
  have i1 := M.kept s (IntKind.u64.wrap x.kind) 1 1 4 hi
  have n1 := num_ok (s := s) (v := x.kind) (k := 1) (l := 1) (m := 4) hi (by omega) (by decide) (by decide) (by decide) (by decide) (by decide) (by decide)
  simp only [pop, Prog.run]
  generalize M.step s (IntKind.u64.wrap x.kind) 1 1 4 = r at *
  obtain ⟨t, k⟩ := r
  simp only at r1 u1 i1 n1 ⊢
  have hk : k = 0 ∨ k = 1 ∨ k = 2 ∨ k = 3 ∨ k = 4 := by omega
  refine MFn.tell ?_
  rcases hk with rfl | rfl | rfl | rfl | rfl
  · rw [run_pop2_0]
    refine MFn_hxk 4 cx_ok 200 Try.func83 rfl rfl Try.ntmps83 Try.results83 rfl fun base w pl hb => ?_
    simp only [go_sem, simprocAttr]
    refine kont_callM hb [0, 1, 2, 3] fn82 rfl ?_ (n1) rfl ?_
    · simp only [go_sem, simprocAttr]
    rintro d h ⟨rfl, rfl⟩
    simp only [go_sem, simprocAttr]
    refine kont_of_hx cx_ok hb 200 ?_
    simp only [go_sem, simprocAttr]
    exact Med.tellOp (x := ⟨0, [], [], default, 0⟩) (.inr ⟨rfl, rfl⟩) (.inr ⟨rfl, rfl⟩)
  · rw [run_pop2_1]
    refine MFn_hxk 4 cx_ok 200 Try.func83 rfl rfl Try.ntmps83 Try.results83 rfl fun base w pl hb => ?_
    simp only [go_sem, simprocAttr]
    refine kont_callM hb [0, 1, 2, 3] fn82 rfl ?_ (n1) rfl ?_
    · simp only [go_sem, simprocAttr]
    rintro d h ⟨rfl, rfl⟩
    simp only [go_sem, simprocAttr]
    refine kont_of_hx cx_ok hb 200 ?_
    simp only [go_sem, simprocAttr]
    refine kont_callM hb [0, 1, 2, 3, 4] fn110 rfl ?_ (listC_ok hx.2.1.2 hx.2.1.1 i1 (by omega)) rfl ?_
    · simp only [go_sem, simprocAttr]
    rintro d h ⟨hd, rfl⟩
    rcases id hd with rfl | ⟨hk, rfl | ⟨a, m, c, rfl⟩⟩
    all_goals
      simp only [go_sem, simprocAttr]
      refine kont_of_hx cx_ok hb 200 ?_
      simp only [go_sem, simprocAttr]
      exact Med.tellOp (x := ⟨1, ((plist pchange x.changes).run M t).2, [], default, 0⟩) (.inl hd) (.inr ⟨rfl, rfl⟩)
  · rw [run_pop2_2]
    refine MFn_hxk 4 cx_ok 200 Try.func83 rfl rfl Try.ntmps83 Try.results83 rfl fun base w pl hb => ?_
    simp only [go_sem, simprocAttr]
    refine kont_callM hb [0, 1, 2, 3] fn82 rfl ?_ (n1) rfl ?_
    · simp only [go_sem, simprocAttr]
    rintro d h ⟨rfl, rfl⟩
    simp only [go_sem, simprocAttr]
    refine kont_of_hx cx_ok hb 200 ?_
    simp only [go_sem, simprocAttr]
    refine kont_callM hb [0, 1, 2, 3] fn113 rfl ?_ (listR_ok hx.2.2.1.2 hx.2.2.1.1 i1 (by omega)) rfl ?_
    · simp only [go_sem, simprocAttr]
    rintro d h ⟨hd, rfl⟩
    rcases id hd with rfl | ⟨hk, rfl | ⟨a, m, c, rfl⟩⟩
    all_goals
      simp only [go_sem, simprocAttr]
      refine kont_of_hx cx_ok hb 200 ?_
      simp only [go_sem, simprocAttr]
      exact Med.tellOp (x := ⟨2, [], ((plist prule x.rules).run M t).2, default, 0⟩) (.inr ⟨rfl, rfl⟩) (.inl hd)
  · rw [run_pop2_3]
    refine MFn_hxk 4 cx_ok 200 Try.func83 rfl rfl Try.ntmps83 Try.results83 rfl fun base w pl hb => ?_
    simp only [go_sem, simprocAttr]
    refine kont_callM hb [0, 1, 2, 3] fn82 rfl ?_ (n1) rfl ?_
    · simp only [go_sem, simprocAttr]
    rintro d h ⟨rfl, rfl⟩
    simp only [go_sem, simprocAttr]
    refine kont_of_hx cx_ok hb 200 ?_
    simp only [go_sem, simprocAttr]
    refine kont_callM hb [0, 1, 2, 3] fn115 rfl ?_ (packet_ok hx.2.2.2.1 i1 (by omega)) rfl ?_
    · simp only [go_sem, simprocAttr]
    rintro d h ⟨rfl, rfl⟩
    simp only [go_sem, simprocAttr]
    refine kont_of_hx cx_ok hb 200 ?_
    simp only [go_sem, simprocAttr]
    exact Med.tellOp (x := ⟨3, [], [], ((ppacket x.packet).run M t).2, 0⟩) (.inr ⟨rfl, rfl⟩) (.inr ⟨rfl, rfl⟩)
  · rw [run_pop2_4]
    refine MFn_hxk 4 cx_ok 200 Try.func83 rfl rfl Try.ntmps83 Try.results83 rfl fun base w pl hb => ?_
    simp only [go_sem, simprocAttr]
    refine kont_callM hb [0, 1, 2, 3] fn82 rfl ?_ (n1) rfl ?_
    · simp only [go_sem, simprocAttr]
    rintro d h ⟨rfl, rfl⟩
    simp only [go_sem, simprocAttr]
    refine kont_of_hx cx_ok hb 200 ?_
    simp only [go_sem, simprocAttr]
    refine kont_callM hb [0, 1, 2, 3] fn116 rfl ?_ (word_ok (v := x.ticks) (k := 8) bits8 i1 (by omega) (by decide) (by decide) (u64_wf hx.2.2.2.2.1).1 (u64_wf hx.2.2.2.2.1).2) rfl ?_
    · simp only [go_sem, simprocAttr]
    rintro d h ⟨rfl, rfl⟩
    simp only [go_sem, simprocAttr]
    refine kont_of_hx cx_ok hb 200 ?_
    simp only [go_sem, simprocAttr]
    exact Med.tellOp (x := ⟨4, [], [], default, (M.step t x.ticks 8 0 18446744073709551615).2⟩) (.inr ⟨rfl, rfl⟩) (.inr ⟨rfl, rfl⟩)
/-- An operation that is handed back: what it holds, where the medium lets that be told; else some slices. -/
def Med.OpE (M : Med) (d : D) (x : Opn) : Prop := d = .agg x.cells ∨ (M.keep = false ∧ ∃ a m c a' m' c', d = .agg [.raw (.int .i64 x.kind), .raw (.slice a m c), .raw (.slice a' m' c'), .raw (.int .u64 x.packet.iD), .raw (.int .i64 x.packet.len), .raw (.int .u16 x.packet.head0), .raw (.int .u16 x.packet.head1), .raw (.int .u16 x.packet.head2), .raw (.int .u16 x.packet.head3), .raw (.int .u64 x.ticks)])
theorem Med.Sl.val {q : D} {z n : Nat} {r : Nat → List D} (h : M.Sl q z n r) {Z : Nat → Prop} {hh : List Ob} {pl : List Pl} {w : World} {v : Value} (hr : RelV Z hh pl w q v) : ∃ a m c, v = .slice a m c := by
  rcases h with rfl | ⟨_, rfl | ⟨a, m, c, rfl⟩⟩
  · obtain ⟨a, cap, _, _, _, hv, _⟩ := inv_imm hr; exact ⟨_, _, _, hv⟩
  · obtain ⟨a, hv⟩ := inv_nil hr; exact ⟨_, _, _, hv⟩
  · exact ⟨_, _, _, inv_raw hr⟩
theorem op_ok {x : Opn} (hx : Opn.Ok x) (hi : M.inv s) (hu : M.used s + 3856 ≤ 4294967296) :
    MFn Try.prog 83 (M.hp s) [.ptr 1 0 0 0, .agg x.cells] (fun d h => M.OpE d ((pop x).run M s).2 ∧ h = M.hp ((pop x).run M s).1) := by
  refine MFn.tellR (op_ok0 hx hi hu) fun d hh ⟨⟨q1, q2, hd, h1, h2⟩, e⟩ Z pl w v r => ?_
  generalize ((pop x).run M s).2 = y at *
  subst hd
  cases hk : M.keep
  · obtain ⟨vs, hv, hl, hc⟩ := inv_agg r
    obtain ⟨a, m, c, e1⟩ := h1.val (hc 1 (by simp))
    obtain ⟨a', m', c', e2⟩ := h2.val (hc 2 (by simp))
    refine ⟨_, ?_, .inr ⟨hk, a, m, c, a', m', c', rfl⟩, e⟩
    rw [hv]
    refine .agg _ vs hl fun i hi => ?_
    match i, hi with
    | 0, _ => exact hc 0 (by simp)
    | 1, _ => rw [e1]; exact .cl _ _ (.raw _)
    | 2, _ => rw [e2]; exact .cl _ _ (.raw _)
    | 3, _ => exact hc 3 (by simp)
    | 4, _ => exact hc 4 (by simp)
    | 5, _ => exact hc 5 (by simp)
    | 6, _ => exact hc 6 (by simp)
    | 7, _ => exact hc 7 (by simp)
    | 8, _ => exact hc 8 (by simp)
    | 9, _ => exact hc 9 (by simp)
    | i + 10, hi => exact absurd hi (by show ¬ i + 10 < 10; omega)
  · have e1 : q1 = .imm 15 y.changes.length (Chg.rows y.changes) := h1.resolve_right fun h => by rw [hk] at h; cases h.1
    have e2 : q2 = .imm 9 y.rules.length (Rul.rows y.rules) := h2.resolve_right fun h => by rw [hk] at h; cases h.1
    subst e1; subst e2
    exact ⟨_, r, .inl rfl, e⟩
end Go.Fg.X
/- The coder's method for scripts, walked. No conditions. -/
namespace Go.Fg.X
set_option linter.unusedSimpArgs false
set_option linter.unusedVariables false
open Go.Proofs Go.Fg
set_option maxRecDepth 100000
variable {M : Med} {s : M.σ}
def psloop (l : List Opn) : Nat → Nat → List Opn → Prog (Option (List Opn))
  | 0, _, out => .ret (some out)
  | n + 1, i, out => .chk fun e => bif e then .ret none else (pop (l.getD i default)).bind fun y => psloop l n (i + 1) (out ++ [y])
def psend (t m : Int) : Option (List Opn) → Scr
  | some l => ⟨⟨t, m⟩, l⟩
  | none => ⟨⟨0, 0⟩, []⟩
def pscript (x : Scr) : Prog Scr := .fld (IntKind.u64.wrap x.config.t) 4 1 65536 fun t => .fld (IntKind.u64.wrap x.config.lmax) 4 1 16384 fun m => .fld x.ops.length 2 0 1000 fun n =>
  (psloop x.ops n.toNat 0 []).bind fun o => .ret (psend t m o)
theorem psloop_fits (l : List Opn) : ∀ (n i : Nat) (out : List Opn), (psloop l n i out).Fits (n * 3856)
  | 0, _, _ => trivial
  | n + 1, i, out => fun b => by
    cases b
    · rw [show (n + 1) * 3856 = 3856 + n * 3856 by omega]
      exact Prog.fits_bind (fun y => psloop l n (i + 1) (out ++ [y])) (n * 3856) (fun y => psloop_fits l n (i + 1) _) _ 3856 (pop_fits _)
    · trivial
theorem run_psloop (l : List Opn) (n i : Nat) (out : List Opn) (s : M.σ) : (psloop l (n + 1) i out).run M s = bif M.err s != 0 then (s, none) else (psloop l n (i + 1) (out ++ [((pop (l.getD i default)).run M s).2])).run M ((pop (l.getD i default)).run M s).1 := by
  simp only [psloop, Prog.run_chk]
  cases M.err s != 0
  · simp only [cond_false, Prog.run_bind]
  · rfl
theorem opn_zero : (default : Opn) = ⟨0, [], [], ⟨0, 0, 0, 0, 0, 0⟩, 0⟩ := rfl
theorem opn_zero_ok : Opn.Ok default := by
  rw [opn_zero]
  exact ⟨by decide, ⟨by simp, by simp⟩, ⟨by simp, by simp⟩, ⟨by decide, by decide, by decide, by decide, by decide, by decide, trivial⟩, by decide, trivial⟩
structure ScInv (l : List Opn) (n : Nat) (fin : M.σ × Option (List Opn)) (i : Nat) (t : M.σ) (out : List Opn) (row : Nat → List D) : Prop where
  len : out.length = i
  inv : M.inv t
  use : M.used t + (n - i) * 3856 ≤ 4294967296
  fin : (psloop l (n - i) i out).run M t = fin
  rows : ∀ j, j < i → M.OpE (.agg (row j)) (out.getD j default)
theorem Med.OpE.all {d : List D} {x : Opn} (h : M.OpE (.agg d) x) : d.all D.cl1 = true ∧ uptoL 4 d = true := by
  rcases h with e | ⟨_, a, m, c, a', m', c', e⟩ <;> cases e <;> exact ⟨rfl, rfl⟩
def scSt (x : Scr) (T L : Int) (n : Nat) (M : Med) (g i : Nat) (t : M.σ) (row : Nat → List D) : St :=
  ⟨[(0, .ptr 1 0 0 0), (3, .ptr 4 0 0 0), (4, .ptr 5 0 0 0), (5, .ptr 6 0 0 0), (26, dint n), (27, dint i)],
    M.hp t ++ [⟨.one, 0, 3, 1, fun _ => x.cells⟩, ⟨.one, 0, 3, 1, fun _ => [dint 0, dint 0, .nil]⟩, ⟨.one, 0, 3, 1, fun _ => [dint T, dint L, .ref 7 g 0 i]⟩, ⟨.arr, g, 10, i, row⟩]⟩
/-- A script that is handed back. -/
def Med.ScD (M : Med) (d : D) (x : Scr) : Prop := M.keep = true → d = .agg x.cells
theorem Med.fz2 (s : M.σ) (g n z : Nat) (r : Nat → List D) (i : Nat) : fzL 7 g n z r ((M.o2 s).row i) = (M.o2 s).row i := uptoL_fz (by decide) (M.upto2 s i)
theorem Med.fz3 (s : M.σ) (g n z : Nat) (r : Nat → List D) (i : Nat) : fzL 7 g n z r ((M.o3 s).row i) = (M.o3 s).row i := uptoL_fz (by decide) (M.upto3 s i)
theorem script_ok0 {x : Scr} (hx : Scr.Ok x) (hi : M.inv s) (hu : M.used s + 3857000 ≤ 4294967296) :
    MFn Try.prog 43 (M.hp s) [.ptr 1 0 0 0, .agg x.cells] (fun d h => M.ScD d ((pscript x).run M s).2 ∧ h = M.hp ((pscript x).run M s).1) := by
  have hll := hx.2.1.1
  have hw : IntKind.u64.wrap (x.ops.length : Int) = x.ops.length := wrapu_id (by omega) (by simp only [maxLen] at hll; omega)
  have n1 := num_ok (s := s) (v := x.config.t) (k := 4) (l := 1) (m := 65536) hi (by omega) (by decide) (by decide) (by decide) (by decide) (by decide) (by decide)
  have u1 := M.use s (IntKind.u64.wrap x.config.t) 4 1 65536
  have i1 := M.kept s (IntKind.u64.wrap x.config.t) 4 1 65536 hi
  simp only [pscript, Prog.run, Prog.run_bind]
  generalize M.step s (IntKind.u64.wrap x.config.t) 4 1 65536 = r1 at *
  have n2 := num_ok (s := r1.1) (v := x.config.lmax) (k := 4) (l := 1) (m := 16384) i1 (by omega) (by decide) (by decide) (by decide) (by decide) (by decide) (by decide)
  have u2 := M.use r1.1 (IntKind.u64.wrap x.config.lmax) 4 1 16384
  have i2 := M.kept r1.1 (IntKind.u64.wrap x.config.lmax) 4 1 16384 i1
  generalize M.step r1.1 (IntKind.u64.wrap x.config.lmax) 4 1 16384 = r2 at *
  have n3 := num_ok (s := r2.1) (v := x.ops.length) (k := 2) (l := 0) (m := 1000) i2 (by omega) (by decide) (by decide) (by decide) (by decide) (by decide) (by decide)
  rw [hw] at n3
  have u3 := M.use r2.1 x.ops.length 2 0 1000
  have i3 := M.kept r2.1 x.ops.length 2 0 1000 i2
  have g3 := M.rng r2.1 x.ops.length 2 0 1000
  generalize M.step r2.1 x.ops.length 2 0 1000 = r3 at *
  obtain ⟨t0, n0⟩ := r3
  obtain ⟨n, rfl⟩ := Int.eq_ofNat_of_zero_le (show 0 ≤ n0 by simp only at g3; omega)
  have hn : n ≤ 1000 := by simp only at g3; omega
  simp only [Int.toNat_natCast] at *
  generalize hfin : (psloop x.ops n 0 []).run M t0 = fin
  obtain ⟨t1, T⟩ := r1
  obtain ⟨t2, L⟩ := r2
  simp only at *
  refine MFn.tell ?_
  refine MFn_hxkL 4 cx_ok 200 Try.func43 rfl rfl Try.ntmps43 Try.results43 rfl fun base w pl hb hpl => ?_
  simp only [go_sem, simprocAttr]
  refine kont_callM hb [0, 1, 2, 3] fn82 rfl ?_ (n1) rfl ?_
  · simp only [go_sem, simprocAttr]
  rintro d h ⟨rfl, rfl⟩
  simp only [go_sem, simprocAttr]
  refine kont_of_hx cx_ok hb 200 ?_
  simp only [go_sem, simprocAttr]
  refine kont_callM hb [0, 1, 2, 3] fn82 rfl ?_ (n2) rfl ?_
  · simp only [go_sem, simprocAttr]
  rintro d h ⟨rfl, rfl⟩
  simp only [go_sem, simprocAttr]
  refine kont_of_hx cx_ok hb 200 ?_
  simp only [go_sem, simprocAttr]
  refine kont_callM hb [0, 1, 2, 3] fn82 rfl ?_ (n3) rfl ?_
  · simp only [go_sem, simprocAttr]
  rintro d h ⟨rfl, rfl⟩
  simp only [go_sem, simprocAttr]
  refine kont_of_hx cx_ok hb 200 ?_
  simp only [go_sem, simprocAttr]
  refine kont_weak_code (Weak.phantomOb 6 2 10 (Opn.rows []) rfl rfl rfl rfl) ?_
  simp only [go_sem, simprocAttr]
  refine kont_for (fun i st => ∃ t out g row, ScInv x.ops n fin i t out row ∧ st = scSt x T L n M g i t row) n (s0 := scSt x T L n M 0 0 t0 (Opn.rows [])) (Weak.to 8 (by simp only [scSt, go_sem, simprocAttr])) ⟨t0, [], 0, Opn.rows [], ⟨rfl, i3, by omega, hfin, fun j hj => by omega⟩, rfl⟩ ?_
  rintro i _ hin ⟨t, out, g, row, I, rfl⟩
  simp only [scSt]
  refine kont_of_hx cx_ok hb 200 ?_
  simp only [go_sem, simprocAttr]
  first | refine hite_lt hin (fun hk1 => ?_) (fun hk1 => ?_) | refine hite_ltI hin (fun hk1 => ?_) (fun hk1 => ?_)
  · simp only [go_sem, simprocAttr, hk1, decide_true]
    have hni : n - i = (n - (i + 1)) + 1 := by omega
    have hf := I.fin
    rw [hni, run_psloop] at hf
    have hrows := I.rows
    have ho : Opn.Ok (x.ops.getD i default) := by
      by_cases h : i < x.ops.length
      · exact hx.2.1.2 _ (getD_mem x.ops default i h)
      · have : x.ops.getD i default = default := by simp [h]
        rw [this]; exact opn_zero_ok
    have c1 := op_ok (M := M) (s := t) ho I.inv (by have := I.use; omega)
    have ku := Prog.use M (pop (x.ops.getD i default)) 3856 t (pop_fits _)
    have kk := Prog.kept M (pop (x.ops.getD i default)) t I.inv
    generalize (pop (x.ops.getD i default)).run M t = rr at *
    have hrow2 : ∀ cs : List D, M.OpE (.agg cs) rr.2 → ∀ j, j < i + 1 → M.OpE (.agg (bif decide (j < i) then row j else cs)) ((out ++ [rr.2]).getD j default) := fun cs h j hj => by
      rw [getD_app out _ _ j (by have := I.len; omega), I.len]
      cases hd : decide (j < i)
      · exact h
      · exact hrows j (by simpa using hd)
    refine hite_intro (fun he => ?_) (fun he => ?_)
    · rw [he, cond_true] at hf
      subst hf
      simp only [go_sem, simprocAttr, he]
      refine ⟨.agg [dint 0, dint 0, .imm 10 0 (Opn.rows [])], ?_, fun _ => rfl, rfl⟩
      simp only [go_sem, simprocAttr]
    · rw [he, cond_false] at hf
      simp only [go_sem, simprocAttr, he]
      refine hite_intro (fun hlt => ?_) (fun hlt => ?_)
      · simp only [go_sem, simprocAttr, hlt]
        refine ⟨by simpa using hlt, ?_⟩
        refine kont_of_hx cx_ok hb 200 ?_
        simp only [go_sem, simprocAttr]
        refine kont_haxNC [4] cx_ok hb 200 mixed [(0, true), (2, true), (3, true)] [1, 4, 5, 6, 7, 8] (by kernel_rfl) (by kernel_rfl) ?_
        simp only [go_sem, simprocAttr]
        refine ⟨?_, ?_⟩
        all_goals
          refine AX_callM hb [0, 1, 2, 3] fn83 rfl ?_ c1 rfl ?_
          · simp only [go_sem, simprocAttr]
          rintro d h ⟨hd, rfl⟩
          rcases id hd with rfl | ⟨hk, a, m, c, a', m', c', rfl⟩
          ·
            simp only [go_sem, simprocAttr]
            refine AX_of_hax cx_ok hb ?_
            simp only [go_sem, simprocAttr]
            first | refine ⟨⟨by omega, hk1, scSt x T L n M (g + 1) (i + 1) rr.1 (fun j => bif decide (j < i) then row j else rr.2.cells), Weak.to 8 ?_, _, _, _, _, ⟨?_, kk, ?_, hf, ?_⟩, rfl⟩, ⟨by omega, hk1, scSt x T L n M (g + 1) (i + 1) rr.1 (fun j => bif decide (j < i) then row j else rr.2.cells), Weak.to 8 ?_, _, _, _, _, ⟨?_, kk, ?_, hf, ?_⟩, rfl⟩⟩ | refine ⟨by omega, hk1, scSt x T L n M (g + 1) (i + 1) rr.1 (fun j => bif decide (j < i) then row j else rr.2.cells), Weak.to 8 ?_, _, _, _, _, ⟨?_, kk, ?_, hf, ?_⟩, rfl⟩
            all_goals first
              | (simp only [scSt, go_sem, simprocAttr]; exact ⟨by rw [wrap_succ (by omega)], fun j hj => uptoL_mono (by decide) (hrow2 _ hd j hj).all.2⟩)
              | (simp [I.len]; done)
              | (have h2 := I.use; omega)
              | exact hrow2 _ hd
          ·
            simp only [go_sem, simprocAttr]
            refine AX_of_hax cx_ok hb ?_
            simp only [go_sem, simprocAttr]
            first | refine ⟨⟨by omega, hk1, scSt x T L n M (g + 1) (i + 1) rr.1 (fun j => bif decide (j < i) then row j else [.raw (.int .i64 rr.2.kind), .raw (.slice a m c), .raw (.slice a' m' c'), .raw (.int .u64 rr.2.packet.iD), .raw (.int .i64 rr.2.packet.len), .raw (.int .u16 rr.2.packet.head0), .raw (.int .u16 rr.2.packet.head1), .raw (.int .u16 rr.2.packet.head2), .raw (.int .u16 rr.2.packet.head3), .raw (.int .u64 rr.2.ticks)]), Weak.to 8 ?_, _, _, _, _, ⟨?_, kk, ?_, hf, ?_⟩, rfl⟩, ⟨by omega, hk1, scSt x T L n M (g + 1) (i + 1) rr.1 (fun j => bif decide (j < i) then row j else [.raw (.int .i64 rr.2.kind), .raw (.slice a m c), .raw (.slice a' m' c'), .raw (.int .u64 rr.2.packet.iD), .raw (.int .i64 rr.2.packet.len), .raw (.int .u16 rr.2.packet.head0), .raw (.int .u16 rr.2.packet.head1), .raw (.int .u16 rr.2.packet.head2), .raw (.int .u16 rr.2.packet.head3), .raw (.int .u64 rr.2.ticks)]), Weak.to 8 ?_, _, _, _, _, ⟨?_, kk, ?_, hf, ?_⟩, rfl⟩⟩ | refine ⟨by omega, hk1, scSt x T L n M (g + 1) (i + 1) rr.1 (fun j => bif decide (j < i) then row j else [.raw (.int .i64 rr.2.kind), .raw (.slice a m c), .raw (.slice a' m' c'), .raw (.int .u64 rr.2.packet.iD), .raw (.int .i64 rr.2.packet.len), .raw (.int .u16 rr.2.packet.head0), .raw (.int .u16 rr.2.packet.head1), .raw (.int .u16 rr.2.packet.head2), .raw (.int .u16 rr.2.packet.head3), .raw (.int .u64 rr.2.ticks)]), Weak.to 8 ?_, _, _, _, _, ⟨?_, kk, ?_, hf, ?_⟩, rfl⟩
            all_goals first
              | (simp only [scSt, go_sem, simprocAttr]; exact ⟨by rw [wrap_succ (by omega)], fun j hj => uptoL_mono (by decide) (hrow2 _ hd j hj).all.2⟩)
              | (simp [I.len]; done)
              | (have h2 := I.use; omega)
              | exact hrow2 _ hd
      · simp only [go_sem, simprocAttr, hlt]
        have h0 : x.ops.getD i default = default := by
          have : x.ops.length ≤ i := by simpa using hlt
          simp [this]
        rw [h0, opn_zero] at c1
        have c2 := MFn.tellArgs (cs' := [.ptr 1 0 0 0, .agg [dint 0, .nil, .nil, du64 0, dint 0, du16 0, du16 0, du16 0, du16 0, du64 0]]) c1 (by simp only [go_sem, simprocAttr])
        refine kont_haxNC [4] cx_ok hb 200 mixed [(0, true), (2, true), (3, true)] [1, 4, 5, 6, 7, 8] (by kernel_rfl) (by kernel_rfl) ?_
        simp only [go_sem, simprocAttr]
        refine ⟨?_, ?_⟩
        all_goals
          refine AX_callM hb [0, 1, 2, 3] fn83 rfl ?_ c2 rfl ?_
          · simp only [go_sem, simprocAttr]
          rintro d h ⟨hd, rfl⟩
          rcases id hd with rfl | ⟨hk, a, m, c, a', m', c', rfl⟩
          ·
            simp only [go_sem, simprocAttr]
            refine AX_of_hax cx_ok hb ?_
            simp only [go_sem, simprocAttr]
            first | refine ⟨⟨by omega, hk1, scSt x T L n M (g + 1) (i + 1) rr.1 (fun j => bif decide (j < i) then row j else rr.2.cells), Weak.to 8 ?_, _, _, _, _, ⟨?_, kk, ?_, hf, ?_⟩, rfl⟩, ⟨by omega, hk1, scSt x T L n M (g + 1) (i + 1) rr.1 (fun j => bif decide (j < i) then row j else rr.2.cells), Weak.to 8 ?_, _, _, _, _, ⟨?_, kk, ?_, hf, ?_⟩, rfl⟩⟩ | refine ⟨by omega, hk1, scSt x T L n M (g + 1) (i + 1) rr.1 (fun j => bif decide (j < i) then row j else rr.2.cells), Weak.to 8 ?_, _, _, _, _, ⟨?_, kk, ?_, hf, ?_⟩, rfl⟩
            all_goals first
              | (simp only [scSt, go_sem, simprocAttr]; exact ⟨by rw [wrap_succ (by omega)], fun j hj => uptoL_mono (by decide) (hrow2 _ hd j hj).all.2⟩)
              | (simp [I.len]; done)
              | (have h2 := I.use; omega)
              | exact hrow2 _ hd
          ·
            simp only [go_sem, simprocAttr]
            refine AX_of_hax cx_ok hb ?_
            simp only [go_sem, simprocAttr]
            first | refine ⟨⟨by omega, hk1, scSt x T L n M (g + 1) (i + 1) rr.1 (fun j => bif decide (j < i) then row j else [.raw (.int .i64 rr.2.kind), .raw (.slice a m c), .raw (.slice a' m' c'), .raw (.int .u64 rr.2.packet.iD), .raw (.int .i64 rr.2.packet.len), .raw (.int .u16 rr.2.packet.head0), .raw (.int .u16 rr.2.packet.head1), .raw (.int .u16 rr.2.packet.head2), .raw (.int .u16 rr.2.packet.head3), .raw (.int .u64 rr.2.ticks)]), Weak.to 8 ?_, _, _, _, _, ⟨?_, kk, ?_, hf, ?_⟩, rfl⟩, ⟨by omega, hk1, scSt x T L n M (g + 1) (i + 1) rr.1 (fun j => bif decide (j < i) then row j else [.raw (.int .i64 rr.2.kind), .raw (.slice a m c), .raw (.slice a' m' c'), .raw (.int .u64 rr.2.packet.iD), .raw (.int .i64 rr.2.packet.len), .raw (.int .u16 rr.2.packet.head0), .raw (.int .u16 rr.2.packet.head1), .raw (.int .u16 rr.2.packet.head2), .raw (.int .u16 rr.2.packet.head3), .raw (.int .u64 rr.2.ticks)]), Weak.to 8 ?_, _, _, _, _, ⟨?_, kk, ?_, hf, ?_⟩, rfl⟩⟩ | refine ⟨by omega, hk1, scSt x T L n M (g + 1) (i + 1) rr.1 (fun j => bif decide (j < i) then row j else [.raw (.int .i64 rr.2.kind), .raw (.slice a m c), .raw (.slice a' m' c'), .raw (.int .u64 rr.2.packet.iD), .raw (.int .i64 rr.2.packet.len), .raw (.int .u16 rr.2.packet.head0), .raw (.int .u16 rr.2.packet.head1), .raw (.int .u16 rr.2.packet.head2), .raw (.int .u16 rr.2.packet.head3), .raw (.int .u64 rr.2.ticks)]), Weak.to 8 ?_, _, _, _, _, ⟨?_, kk, ?_, hf, ?_⟩, rfl⟩
            all_goals first
              | (simp only [scSt, go_sem, simprocAttr]; exact ⟨by rw [wrap_succ (by omega)], fun j hj => uptoL_mono (by decide) (hrow2 _ hd j hj).all.2⟩)
              | (simp [I.len]; done)
              | (have h2 := I.use; omega)
              | exact hrow2 _ hd
  · subst hk1
    have hf := I.fin
    rw [Nat.sub_self] at hf
    simp only [psloop, Prog.run_ret] at hf
    subst hf
    have hcl : ∀ j, j < i → (row j).all D.cl1 = true := fun j hj => (I.rows j hj).all.1
    cases hkp : M.keep with
    | true =>
      refine kont_weak_code (Weak.freezeB hpl ?_ 7 (by simp) rfl rfl hcl) ?_
      · intro q o ho
        match q, ho with
        | 0, ho => exact ⟨_, rfl, by cases ho; rfl⟩
        | 1, ho => exact ⟨_, rfl, by cases ho; rfl⟩
        | 2, ho => exact ⟨_, rfl, by cases ho; exact M.gen2 hkp _ _⟩
        | 3, ho => exact ⟨_, rfl, by cases ho; exact M.gen3 hkp _ _⟩
        | q + 4, ho => simp at ho
      simp only [go_sem, simprocAttr, Med.fz2, Med.fz3]
      refine kont_of_hx cx_ok hb 200 ?_
      simp only [go_sem, simprocAttr]
      refine ⟨.agg [.raw (.int .i64 T), .raw (.int .i64 L), .imm 10 out.length (Opn.rows out)], ?_, fun _ => rfl, rfl⟩
      simp only [dLe_agg, lLe_cons, lLe_nil, dLe_self, true_and, and_true, dLe_imm]
      refine ⟨I.len, fun j hj => ?_⟩
      have h1 := (I.rows j (by have := I.len; omega)).resolve_right fun h => by rw [hkp] at h; cases h.1
      have h2 : row j = (out.getD j default).cells := by simpa using h1
      rw [h2]
      exact lLeOf_refl (dLe_refl _) _
    | false =>
      refine kont_rawOb 6 2 rfl rfl rfl rfl (by show 2 < 3; decide) fun a n c => ?_
      simp only [go_sem, simprocAttr]
      refine kont_of_hx cx_ok hb 200 ?_
      simp only [go_sem, simprocAttr]
      exact ⟨_, dLe_refl _ _, fun e => absurd e (by rw [hkp]; decide), rfl⟩
end Go.Fg.X
/- The closure that reads a field, walked. No conditions. -/
namespace Go.Fg.X
set_option linter.unusedSimpArgs false
set_option linter.unusedVariables false
open Go.Proofs Go.Fg
set_option maxRecDepth 100000
def be (l : List Int) : Int := l.foldl (fun v b => v * 256 + b) 0
structure DSt where
  rest : List Int
  err : Int
def dstep (s : DSt) (k : Nat) (l m : Int) : DSt × Int :=
  if s.err = 0 then
    if s.rest.length < k then (⟨s.rest, 3⟩, 0)
    else if be (s.rest.take k) < l ∨ m < be (s.rest.take k) then (⟨s.rest.drop k, 4⟩, 0)
    else (⟨s.rest.drop k, 0⟩, be (s.rest.take k))
  else (s, 0)
@[go_sem] def dhp (f : FuncId) (s : DSt) : List Ob := [⟨.one, 0, 1, 1, fun _ => [.ptr 1 0 0 0]⟩, ⟨.one, 0, 2, 1, fun _ => [.clo f 0 [.ptr 0 0 0 0, .ptr 2 0 0 0], dint s.err]⟩, ⟨.one, 0, 1, 1, fun _ => [.raw (.string (bytesS s.rest))]⟩, ⟨.arr, 0, 1, 0, fun _ => []⟩]
@[go_sem] theorem be_nil : be [] = 0 := rfl
theorem be_snoc (l : List Int) (b : Int) : be (l ++ [b]) = be l * 256 + b := by simp [be]
theorem be_rev : ∀ (r : List Int), Bytes r.reverse → 0 ≤ be r.reverse ∧ be r.reverse < 256 ^ r.length
  | [], _ => by simp [be]
  | b :: r, h => by
    rw [List.reverse_cons] at h ⊢
    obtain ⟨h1, h2⟩ := be_rev r (fun x hx => h x (by simp at hx ⊢; exact .inl hx))
    obtain ⟨h3, h4⟩ := h b (by simp)
    rw [be_snoc, List.length_cons, Int.pow_succ]
    generalize (256 : Int) ^ r.length = p at *
    omega
theorem be_lt {l : List Int} (h : Bytes l) : 0 ≤ be l ∧ be l < 256 ^ l.length := by
  have := be_rev l.reverse (by rw [List.reverse_reverse]; exact h)
  rwa [List.reverse_reverse, List.length_reverse] at this
theorem pow256_le {i : Nat} (h : i ≤ 7) : (256 : Int) ^ i ≤ 72057594037927936 := by
  have : i = 0 ∨ i = 1 ∨ i = 2 ∨ i = 3 ∨ i = 4 ∨ i = 5 ∨ i = 6 ∨ i = 7 := by omega
  rcases this with rfl | rfl | rfl | rfl | rfl | rfl | rfl | rfl <;> decide
theorem or8 {v b : Int} (h0 : 0 ≤ v) (h : v < 72057594037927936) (b0 : 0 ≤ b) (b1 : b < 256) : bits .or .u64 (IntKind.u64.wrap (v * 2 ^ min 8 64)) b = v * 256 + b := by
  obtain ⟨x, rfl⟩ := Int.eq_ofNat_of_zero_le h0
  obtain ⟨y, rfl⟩ := Int.eq_ofNat_of_zero_le b0
  have e : IntKind.u64.wrap ((x : Int) * 2 ^ min 8 64) = ((x * 256 : Nat) : Int) := by rw [IntKind.wrap_u64]; simp; omega
  rw [e, u64_or_nat _ _ (by omega) (by omega), nat_join 8 _ _ (by omega) (by omega)]
  simp
theorem bytes_take {l : List Int} (h : Bytes l) (i : Nat) : Bytes (l.take i) := fun x hx => h x (List.mem_of_mem_take hx)
theorem bytes_drop {l : List Int} (h : Bytes l) (i : Nat) : Bytes (l.drop i) := fun x hx => h x (List.mem_of_mem_drop hx)
theorem be_step {l : List Int} {i : Nat} (h : Bytes l) (hi : i < l.length) (h7 : i ≤ 7) : bits .or .u64 (IntKind.u64.wrap (be (l.take i) * 2 ^ min 8 64)) (l.getD i 0) = be (l.take (i + 1)) := by
  obtain ⟨h1, h2⟩ := be_lt (bytes_take h i)
  have h3 := pow256_le h7
  rw [List.length_take, Nat.min_eq_left (by omega)] at h2
  obtain ⟨b0, b1⟩ := h _ (getD_mem l 0 i hi)
  rw [or8 h1 (by omega) b0 b1, getD_take l 0 i hi, be_snoc]
theorem dfield_ok {s : DSt} {v : Int} {n : Nat} {l m : Int} (hby : Bytes s.rest) (hlen : s.rest.length ≤ maxLen) (hk1 : 1 ≤ n) (hk8 : n ≤ 8) (hl : 0 ≤ l) (hv : 0 ≤ v) (hv2 : v < 18446744073709551616) :
    MFn Try.prog 42 (dhp 42 s) [du64 v, dint n, du64 l, du64 m, .ptr 0 0 0 0, .ptr 2 0 0 0] (fun d h => d = du64 (dstep s n l m).2 ∧ h = dhp 42 (dstep s n l m).1) := by
  have hsz := bytesS_size s.rest
  obtain ⟨rest, err⟩ := s
  simp only at hby hlen hsz ⊢
  by_cases he : err = 0
  · subst he
    by_cases hs : rest.length < n
    · have e3 : decide (rest.length < n) = true := by simpa using hs
      simp only [dstep, if_pos hs, if_true]
      refine MFn_hxk 4 cx_ok 200 Try.func42 rfl rfl Try.ntmps42 Try.results42 rfl fun base w pl hb => ?_
      simp only [go_sem, simprocAttr]
      simp only [go_sem, simprocAttr, hsz, e3]
    · have e3 : decide (rest.length < n) = false := by simpa using hs
      simp only [dstep, if_neg hs, if_true]
      refine MFn_hxk 4 cx_ok 200 Try.func42 rfl rfl Try.ntmps42 Try.results42 rfl fun base w pl hb => ?_
      simp only [go_sem, simprocAttr]
      simp only [go_sem, simprocAttr, hsz, e3]
      refine kont_forF (G := Nat) [1, 2, 3, 4, 5] (fun k => True) (fun k γ => [(0, du64 (be (rest.take k))), (31, dint n), (32, dint k)]) (fun k γ => [⟨.one, 0, 1, 1, fun _ => [.ptr 1 0 0 0]⟩, ⟨.one, 0, 2, 1, fun _ => [.clo 42 0 [.ptr 0 0 0 0, .ptr 2 0 0 0], dint 0]⟩, ⟨.one, 0, 1, 1, fun _ => [.raw (.string (bytesS rest))]⟩, ⟨.arr, 0, 1, 0, fun _ => []⟩]) (n) (0) rfl (Weak.to 4 (by (simp only [go_sem, simprocAttr]) <;> simp)) trivial ?_
      intro k γ hk _
      refine kont_of_hx cx_ok hb 200 ?_
      simp only [go_sem, simprocAttr]
      first | refine hite_lt hk (fun hk1 => ?_) (fun hk1 => ?_) | refine hite_ltI hk (fun hk1 => ?_) (fun hk1 => ?_)
      · have hg := bytesS_get hby k (by omega)
        obtain ⟨b0, b1⟩ := hby _ (getD_mem rest 0 k (by omega))
        have hw := wrapu_id b0 (by omega)
        have hst := be_step hby (i := k) (by omega) (by omega)
        have hwr := wrap_succ (k := k) (by omega)
        simp only [go_sem, simprocAttr, hk1, decide_true, hsz, hg, hw, hst, hwr]
        repeat (refine And.intro (by first | assumption | omega) ?_)
        refine ⟨_, Weak.to 4 (by (simp only [go_sem, simprocAttr, hg, hw, hst, hwr]) <;> simp), ForS.mk (γ) (trivial)⟩
      · simp only [go_sem, simprocAttr]
        subst hk1
        have htk : (bytesS rest).extract k rest.length = bytesS (rest.drop k) := by rw [bytesS_extract, List.take_length]
        refine kont_of_hx cx_ok hb 200 ?_
        simp only [go_sem, simprocAttr, hsz, htk]
        refine ⟨by omega, ?_⟩
        by_cases h1 : be (rest.take k) < l
        · have d1 : decide (be (rest.take k) < l) = true := decide_eq_true h1
          simp only [go_sem, simprocAttr, d1, if_pos (Or.inl h1 : be (rest.take k) < l ∨ m < be (rest.take k))]
        · have d1 : decide (be (rest.take k) < l) = false := decide_eq_false h1
          by_cases h2 : m < be (rest.take k)
          · have d2 : decide (m < be (rest.take k)) = true := decide_eq_true h2
            simp only [go_sem, simprocAttr, d1, d2, if_pos (Or.inr h2 : be (rest.take k) < l ∨ m < be (rest.take k))]
          · have d2 : decide (m < be (rest.take k)) = false := decide_eq_false h2
            simp only [go_sem, simprocAttr, d1, d2, if_neg (show ¬(be (rest.take k) < l ∨ m < be (rest.take k)) from fun h => h.elim h1 h2)]
  · simp only [dstep, if_neg he]
    have e1 : (err == 0) = false := by simpa using he
    have e2 : (err != 0) = true := by simpa using he
    refine MFn_hxk 4 cx_ok 200 Try.func42 rfl rfl Try.ntmps42 Try.results42 rfl fun base w pl hb => ?_
    simp only [go_sem, simprocAttr]
    simp only [go_sem, simprocAttr, e1, e2]
end Go.Fg.X
/- Reading as a medium; Decode, walked. No conditions. -/
namespace Go.Fg.X
set_option linter.unusedSimpArgs false
set_option linter.unusedVariables false
open Go.Proofs Go.Fg
set_option maxRecDepth 100000
theorem dstep_inv {s : DSt} {k : Nat} {l m : Int} (h : Bytes s.rest ∧ s.rest.length ≤ maxLen) : Bytes (dstep s k l m).1.rest ∧ (dstep s k l m).1.rest.length ≤ maxLen := by
  unfold dstep
  split
  · split
    · exact h
    · split <;> exact ⟨bytes_drop h.1 _, by simp only [List.length_drop]; have := h.2; omega⟩
  · exact h
def decM : Med where
  σ := DSt
  f := 42
  err := fun s => s.err
  step := fun s _ k l m => dstep s k l m
  used := fun _ => 0
  inv := fun s => Bytes s.rest ∧ s.rest.length ≤ maxLen
  o2 := fun s => ⟨.one, 0, 1, 1, fun _ => [.raw (.string (bytesS s.rest))]⟩
  o3 := fun _ => ⟨.arr, 0, 1, 0, fun _ => []⟩
  keep := true
  among2 := fun _ _ => rfl
  among2b := fun _ _ => rfl
  among3 := fun _ _ => rfl
  among3b := fun _ _ => rfl
  upto2 := fun _ _ => rfl
  upto3 := fun _ _ => rfl
  ren2 := fun _ _ => rfl
  ren2b := fun _ _ => rfl
  ren3 := fun _ _ => rfl
  ren3b := fun _ _ => rfl
  idx2 := fun _ _ _ => rfl
  idx2b := fun _ _ _ => rfl
  idx3 := fun _ _ _ => rfl
  idx3b := fun _ _ _ => rfl
  gen2 := fun _ _ _ => rfl
  gen3 := fun _ _ _ => rfl
  fok := fn42
  rng := fun s v k l m => by
    simp only [dstep]
    split
    · split
      · exact .inl rfl
      · split
        · exact .inl rfl
        · rename_i h; exact .inr ⟨by omega, by omega⟩
    · exact .inl rfl
  use := fun _ _ _ _ _ => Nat.zero_le _
  kept := fun _ _ _ _ _ h => dstep_inv h
  ok := fun _ _ _ _ _ h _ h1 h8 hl hv hv2 => dfield_ok h.1 h.2 h1 h8 hl hv hv2
def zscr : Scr := ⟨⟨0, 0⟩, []⟩
theorem zscr_ok : Scr.Ok zscr := ⟨⟨by decide, by decide, trivial⟩, ⟨by simp [zscr], by simp [zscr]⟩, trivial⟩
/-- What Decode comes to. -/
def decV (bs : List Int) : Scr × Int :=
  let r := (pscript zscr).run decM ⟨bs, 0⟩
  if r.1.err = 0 then (if 0 < r.1.rest.length then (zscr, 2) else (r.2, 0)) else (zscr, r.1.err)
theorem told_zero (e : Int) : Told (fun d h => d = .tup [.agg zscr.cells, .raw (.int .i64 e)] ∧ h = []) (.tup [.agg [.raw (.int .i64 0), .raw (.int .i64 0), .nil], .raw (.int .i64 e)]) [] :=
  ⟨_, by simp only [zscr, go_sem, simprocAttr], rfl, rfl⟩
theorem decode_ok {bs : List Int} (hby : Bytes bs) (hlen : bs.length ≤ maxLen) :
    AFn Try.prog 20 [dstr bs] (fun d h => d = .tup [.agg (decV bs).1.cells, dint (decV bs).2] ∧ h = []) := by
  have hc := script_ok0 (M := decM) (s := ⟨bs, 0⟩) zscr_ok ⟨hby, hlen⟩ (show 0 + 3857000 ≤ 4294967296 by decide)
  have hc2 := MFn.tellArgs (cs' := [.ptr 1 0 0 0, .agg [dint 0, dint 0, .nil]]) hc (by simp only [zscr, go_sem, simprocAttr])
  have hk := Prog.kept decM (pscript zscr) ⟨bs, 0⟩ ⟨hby, hlen⟩
  simp only [decV]
  generalize (pscript zscr).run decM ⟨bs, 0⟩ = r at *
  obtain ⟨⟨rest, err⟩, y⟩ := r
  refine AFn.tell ?_
  refine AFn_hxk 0 cx_ok 200 Try.func20 rfl Try.ntmps20 Try.results20 rfl fun base w hb => ?_
  simp only [go_sem, simprocAttr]
  refine kont_weak_ops (Weak.ghost 1 (fun _ => [])) ?_
  simp only [go_sem, simprocAttr]
  refine kont_callM hb [3, 2, 0, 4] fn43 rfl ?_ hc2 rfl ?_
  · simp only [decM, go_sem, simprocAttr]
  rintro d h ⟨hd, rfl⟩
  obtain rfl := hd rfl
  simp only [decM, go_sem, simprocAttr]
  refine kont_of_hx cx_ok hb 200 ?_
  simp only [go_sem, simprocAttr]
  have hsz := bytesS_size rest
  by_cases he : err = 0
  · subst he
    by_cases hr : 0 < rest.length
    · have e1 : decide ((0 : Int) < rest.length) = true := by simpa using hr
      simp only [if_pos hr, if_true]
      simp only [go_sem, simprocAttr, hsz, e1]
      refine kont_haxF cx_ok hb 200 mixed [(0, true)] [1, 2, 3, 4, 5, 6] (by kernel_rfl) (by kernel_rfl) ?_
      simp only [go_sem, simprocAttr]
      repeat' refine And.intro ?_ ?_
      all_goals exact told_zero 2
    · have e1 : decide ((0 : Int) < rest.length) = false := by simpa using hr
      simp only [if_neg hr, if_true]
      simp only [go_sem, simprocAttr, hsz, e1]
      exact ⟨_, dLe_refl _ _, rfl, rfl⟩
  · have e1 : (err == 0) = false := by simpa using he
    have e2 : (err != 0) = true := by simpa using he
    simp only [if_neg he]
    simp only [go_sem, simprocAttr, hsz, e1, e2]
    refine kont_haxF cx_ok hb 200 mixed [(0, true)] [1, 2, 3, 4, 5, 6] (by kernel_rfl) (by kernel_rfl) ?_
    simp only [go_sem, simprocAttr]
    repeat' refine And.intro ?_ ?_
    all_goals exact told_zero err
end Go.Fg.X
/- The closure that writes a field, walked. No conditions. -/
namespace Go.Fg.X
set_option linter.unusedSimpArgs false
set_option linter.unusedVariables false
open Go.Proofs Go.Fg
set_option maxRecDepth 100000
/-- The bytes of a number, the highest first. -/
def beN (n : Nat) (v : Int) : List Int := (List.range n).map fun i => v / 256 ^ (n - 1 - i) % 256
structure ESt where
  g : Nat
  err : Int
  out : List Int
def estepB (s : ESt) (v : Int) (n : Nat) (l m : Int) : ESt × Int :=
  if v < l ∨ m < v then (⟨s.g, 4, s.out⟩, 0)
  else if s.err = 0 then (⟨s.g + n, 0, s.out ++ beN n v⟩, v)
  else (s, 0)
@[go_sem] def eo2 (s : ESt) : Ob := ⟨.one, 0, 1, 1, fun _ => [.ref 3 s.g 0 s.out.length]⟩
@[go_sem] def eo3 (s : ESt) : Ob := ⟨.arr, s.g, 1, s.out.length, rowsI .u8 s.out⟩
@[go_sem] def ehp (f : FuncId) (s : ESt) : List Ob := [⟨.one, 0, 1, 1, fun _ => [.ptr 1 0 0 0]⟩, ⟨.one, 0, 2, 1, fun _ => [.clo f 0 [.ptr 0 0 0 0, .ptr 2 0 0 0], dint s.err]⟩, eo2 s, eo3 s]
theorem beN_len (n : Nat) (v : Int) : (beN n v).length = n := by simp [beN]
theorem beN_at {n k : Nat} (v : Int) (h : k < n) : (beN n v).getD k 0 = v / 256 ^ (n - 1 - k) % 256 := by
  simp [beN, List.getD_eq_getElem?_getD, h]
theorem sh_e {n k : Nat} (h : k < n) (h8 : n ≤ 8) : IntKind.i64.wrap (8 * IntKind.i64.wrap (IntKind.i64.wrap ((n : Int) - 1) - k)) = ((8 * (n - 1 - k) : Nat) : Int) := by
  have e1 : IntKind.i64.wrap ((n : Int) - 1) = n - 1 := by rw [IntKind.wrap_i64]; omega
  have e2 : IntKind.i64.wrap ((n : Int) - 1 - k) = ((n - 1 - k : Nat) : Int) := by rw [IntKind.wrap_i64]; omega
  rw [e1, e2, IntKind.wrap_i64]; omega
theorem byte_e {n k : Nat} {v : Int} (hv : 0 ≤ v) (h : k < n) (h8 : n ≤ 8) : IntKind.u8.wrap (v.fdiv (2 ^ min (8 * (n - 1 - k)) 64)) = (beN n v).getD k 0 := by
  rw [beN_at v h, IntKind.wrap_u8, Nat.min_eq_left (by omega), Int.fdiv_eq_ediv_of_nonneg _ (Int.pow_nonneg (by decide)), Int.pow_mul]
  rfl
theorem efield_ok {s : ESt} {v : Int} {n : Nat} {l m : Int} (hlen : s.out.length + 8 ≤ 4294967296) (hk1 : 1 ≤ n) (hk8 : n ≤ 8) (hv : 0 ≤ v) (hv2 : v < 18446744073709551616) :
    MFn Try.prog 47 (ehp 47 s) [du64 v, dint n, du64 l, du64 m, .ptr 0 0 0 0, .ptr 2 0 0 0] (fun d h => d = du64 (estepB s v n l m).2 ∧ h = ehp 47 (estepB s v n l m).1) := by
  obtain ⟨g, err, out⟩ := s
  simp only at hlen ⊢
  by_cases hlm : v < l ∨ m < v
  · simp only [estepB, if_pos hlm]
    by_cases h1 : v < l
    · have d1 : decide (v < l) = true := decide_eq_true h1
      refine MFn_hxk 4 cx_ok 200 Try.func47 rfl rfl Try.ntmps47 Try.results47 rfl fun base w pl hb => ?_
      simp only [go_sem, simprocAttr]
      simp only [go_sem, simprocAttr, d1]
    · have d1 : decide (v < l) = false := decide_eq_false h1
      have d2 : decide (m < v) = true := decide_eq_true (hlm.resolve_left h1)
      refine MFn_hxk 4 cx_ok 200 Try.func47 rfl rfl Try.ntmps47 Try.results47 rfl fun base w pl hb => ?_
      simp only [go_sem, simprocAttr]
      simp only [go_sem, simprocAttr, d1, d2]
  · have d1 : decide (v < l) = false := decide_eq_false fun h => hlm (.inl h)
    have d2 : decide (m < v) = false := decide_eq_false fun h => hlm (.inr h)
    simp only [estepB, if_neg hlm]
    have hbl := beN_len n v
    by_cases he : err = 0
    · subst he
      simp only [if_true]
      refine MFn_hxk 4 cx_ok 200 Try.func47 rfl rfl Try.ntmps47 Try.results47 rfl fun base w pl hb => ?_
      simp only [go_sem, simprocAttr]
      simp only [go_sem, simprocAttr, d1, d2]
      refine kont_forF (G := Nat) [0, 1, 4, 5] (fun k => True) (fun k γ => [(28, dint n), (29, dint k)]) (fun k γ => [⟨.one, 0, 1, 1, fun _ => [.ptr 1 0 0 0]⟩, ⟨.one, 0, 2, 1, fun _ => [.clo 47 0 [.ptr 0 0 0 0, .ptr 2 0 0 0], dint 0]⟩, ⟨.one, 0, 1, 1, fun _ => [.ref 3 (g + k) 0 (out.length + k)]⟩, ⟨.arr, g + k, 1, out.length + k, rowsI .u8 (out ++ (beN n v).take k)⟩]) (n) (0) rfl (Weak.to 4 (by (simp only [go_sem, simprocAttr]) <;> simp)) trivial ?_
      intro k γ hk _
      refine kont_of_hx cx_ok hb 200 ?_
      simp only [go_sem, simprocAttr]
      first | refine hite_lt hk (fun hk1 => ?_) (fun hk1 => ?_) | refine hite_ltI hk (fun hk1 => ?_) (fun hk1 => ?_)
      · simp only [go_sem, simprocAttr, hk1, decide_true]
        refine kont_hax cx_ok hb 200 mixed [(0, true), (1, true), (2, true), (3, true), (4, true), (5, true), (6, true), (7, true), (8, true), (9, false), (10, false), (11, false)] (by kernel_rfl) (by kernel_rfl) ?_
        simp only [go_sem, simprocAttr, sh_e hk1 hk8, Int.toNat_natCast, byte_e hv hk1 hk8]
        have hwr := wrap_succ (k := k) (by omega)
        refine ⟨by omega, hk1, _, Weak.to 4 ?_, ForS.mk (γ + 1) trivial⟩
        · simp only [go_sem, simprocAttr, hwr]
          have hl : (out ++ (beN n v).take k).length = out.length + k := by simp [hbl]; omega
          refine ⟨fun i _ => by rw [← Nat.add_assoc, ← Nat.add_assoc], by omega, by omega, fun i hi => ?_⟩
          rw [getD_take _ 0 k (by omega), ← List.append_assoc, getD_app _ _ _ i (by omega), hl]
          cases decide (i < out.length + k) <;> rfl
      · simp only [go_sem, simprocAttr]
        subst hk1
        refine kont_of_hx cx_ok hb 200 ?_
        simp only [go_sem, simprocAttr]
        rw [show (beN k v).take k = beN k v from List.take_of_length_le (by omega), List.length_append, hbl]
    · have e2 : (err != 0) = true := by simpa using he
      simp only [if_neg he]
      refine MFn_hxk 4 cx_ok 200 Try.func47 rfl rfl Try.ntmps47 Try.results47 rfl fun base w pl hb => ?_
      simp only [go_sem, simprocAttr]
      simp only [go_sem, simprocAttr, d1, d2, e2]
end Go.Fg.X
/- Writing as a medium; Encode, walked. No conditions. -/
namespace Go.Fg.X
set_option linter.unusedSimpArgs false
set_option linter.unusedVariables false
open Go.Proofs Go.Fg
set_option maxRecDepth 100000
def encM : Med where
  σ := ESt
  f := 47
  err := fun s => s.err
  step := fun s v k l m => estepB s v k l m
  used := fun s => s.out.length
  inv := fun _ => True
  o2 := eo2
  o3 := eo3
  keep := false
  among2 := fun _ _ => rfl
  among2b := fun _ _ => rfl
  among3 := fun _ _ => rfl
  among3b := fun _ _ => rfl
  upto2 := fun _ _ => rfl
  upto3 := fun _ _ => rfl
  ren2 := fun _ _ => rfl
  ren2b := fun _ _ => rfl
  ren3 := fun _ _ => rfl
  ren3b := fun _ _ => rfl
  idx2 := fun _ _ _ => rfl
  idx2b := fun _ _ _ => rfl
  idx3 := fun _ _ _ => rfl
  idx3b := fun _ _ _ => rfl
  gen2 := fun h => by cases h
  gen3 := fun h => by cases h
  fok := fn47
  rng := fun s v k l m => by
    simp only [estepB]
    split
    · exact .inl rfl
    · split
      · rename_i h _; exact .inr ⟨by simp only; omega, by simp only; omega⟩
      · exact .inl rfl
  use := fun s v k l m => by
    simp only [estepB]
    split
    · simp
    · split
      · simp [beN_len]
      · simp
  kept := fun _ _ _ _ _ _ => trivial
  ok := fun s v k l m _ hu h1 h8 _ hv hv2 => efield_ok hu h1 h8 hv hv2
/-- What Encode comes to. -/
def encV (x : Scr) : List Int × Int :=
  let r := (pscript x).run encM ⟨0, 0, []⟩
  if r.1.err = 0 then (r.1.out, 0) else ([], r.1.err)
theorem encode_ok {x : Scr} (hx : Scr.Ok x) : AFn Try.prog 24 [.agg x.cells] (Ret (.tup [dstr (encV x).1, dint (encV x).2])) := by
  have hc := script_ok0 (M := encM) (s := ⟨0, 0, []⟩) hx trivial (show 0 + 3857000 ≤ 4294967296 by decide)
  simp only [encV]
  generalize (pscript x).run encM ⟨0, 0, []⟩ = r at *
  obtain ⟨⟨g, err, out⟩, y⟩ := r
  refine AFn_hxk 0 cx_ok 200 Try.func24 rfl Try.ntmps24 Try.results24 rfl fun base w hb => ?_
  simp only [go_sem, simprocAttr]
  refine kont_weak_ops (Weak.nilRef 1 1 rfl rfl) ?_
  simp only [go_sem, simprocAttr]
  refine kont_callM hb [3, 2, 1, 4] fn43 rfl ?_ hc rfl ?_
  · simp only [encM, go_sem, simprocAttr]
    intro i hi; omega
  rintro d h ⟨hd, rfl⟩
  simp only [encM, go_sem, simprocAttr]
  refine kont_of_hx cx_ok hb 200 ?_
  simp only [go_sem, simprocAttr]
  by_cases he : err = 0
  · subst he
    simp only [if_true]
    simp only [go_sem, simprocAttr]
    refine kont_str cx_ok.L rfl rfl rfl rfl rfl out ⟨⟨rfl, by show 0 + out.length ≤ out.length; omega⟩, rfl, fun i _ => by simp only [go_sem, simprocAttr, Nat.zero_add]⟩ rfl ?_
    refine kont_of_hx cx_ok hb 200 ?_
    simp only [go_sem, simprocAttr]
  · have e2 : (err != 0) = true := by simpa using he
    simp only [if_neg he]
    simp only [go_sem, simprocAttr, e2]
    refine kont_hax cx_ok hb 200 mixed [(0, true), (1, true), (2, true), (3, true), (4, true), (5, true)] (by kernel_rfl) (by kernel_rfl) ?_
    simp only [go_sem, simprocAttr]
    all_goals rfl
end Go.Fg.X
/- The document's reader, walked: next. No conditions. -/
namespace Go.Fg.X
set_option linter.unusedSimpArgs false
set_option linter.unusedVariables false
open Go.Proofs Go.Fg
set_option maxRecDepth 100000
structure RIn where
  s : List Int
  at_ : Nat
  v : Int
  err : Int
@[go_sem] def RIn.cells (r : RIn) : List D := [.raw (.string (bytesS r.s)), .raw (.int .i64 r.at_), .raw (.int .u64 r.v), .raw (.int .i64 r.err)]
def RIn.next (r : RIn) (n : Nat) (l m : Int) : RIn :=
  if r.err = 0 then
    if (r.s.length : Int) - r.at_ < n then ⟨r.s, r.at_, 0, 3⟩
    else
      let v := be ((r.s.drop r.at_).take n)
      if v < l ∨ m < v then ⟨r.s, r.at_, 0, 4⟩ else ⟨r.s, r.at_ + n, v, 0⟩
  else r
theorem be_stepA {l : List Int} {i : Nat} (h : Bytes l) (hi : i < l.length) (h7 : i ≤ 7) : IntKind.u64.wrap (IntKind.u64.wrap (be (l.take i) * 256) + l.getD i 0) = be (l.take (i + 1)) := by
  obtain ⟨h1, h2⟩ := be_lt (bytes_take h i)
  have h3 := pow256_le h7
  rw [List.length_take, Nat.min_eq_left (by omega)] at h2
  obtain ⟨b0, b1⟩ := h _ (getD_mem l 0 i hi)
  rw [wrapu_id (n := be (l.take i) * 256) (by omega) (by omega), wrapu_id (by omega) (by omega), getD_take l 0 i hi, be_snoc]
theorem getD_drop (l : List Int) (a i : Nat) : (l.drop a).getD i 0 = l.getD (a + i) 0 := by simp [List.getD_eq_getElem?_getD, List.getElem?_drop]
theorem rnext_ok {r : RIn} {n : Nat} {l m : Int} (hby : Bytes r.s) (hlen : r.s.length ≤ 4294967296) (ha : r.at_ ≤ r.s.length) (hk8 : n ≤ 8) :
    AFn Try.prog 44 [.agg r.cells, dint n, du64 l, du64 m] (Ret (.agg (r.next n l m).cells)) := by
  obtain ⟨s, a, v, err⟩ := r
  simp only at hby hlen ha ⊢
  have hsz := bytesS_size s
  by_cases he : err = 0
  · subst he
    by_cases hs : (s.length : Int) - a < n
    · have e3 : decide ((s.length : Int) - a < n) = true := decide_eq_true hs
      have hw : IntKind.i64.wrap ((s.length : Int) - a) = (s.length : Int) - a := wrap64 (by omega) (by omega)
      simp only [RIn.next, if_pos hs, if_true]
      refine AFn_hxk 0 cx_ok 200 Try.func44 rfl Try.ntmps44 Try.results44 rfl fun base w hb => ?_
      simp only [go_sem, simprocAttr]
      simp only [go_sem, simprocAttr, hsz, hw, e3]
    · have e3 : decide ((s.length : Int) - a < n) = false := decide_eq_false hs
      have hw : IntKind.i64.wrap ((s.length : Int) - a) = (s.length : Int) - a := wrap64 (by omega) (by omega)
      simp only [RIn.next, if_neg hs, if_true]
      refine AFn_hxk 0 cx_ok 200 Try.func44 rfl Try.ntmps44 Try.results44 rfl fun base w hb => ?_
      simp only [go_sem, simprocAttr]
      simp only [go_sem, simprocAttr, hsz, hw, e3]
      have hd := bytes_drop hby a
      have hdl : (s.drop a).length = s.length - a := List.length_drop
      refine kont_forF (G := Nat) [1, 2, 3, 4, 8] (fun k => True) (fun k γ => [(9, du64 (be ((s.drop a).take k))), (28, dint n), (29, dint k)]) (fun k γ => [⟨.one, 0, 4, 1, fun _ => [.raw (.string (bytesS s)), .raw (.int .i64 a), .raw (.int .u64 v), .raw (.int .i64 0)]⟩, ⟨.one, 0, 4, 1, fun _ => [.raw (.string ByteArray.empty), .raw (.int .i64 0), .raw (.int .u64 0), .raw (.int .i64 0)]⟩]) (n) (0) rfl (Weak.to 2 (by (simp only [go_sem, simprocAttr]) <;> simp)) trivial ?_
      intro k γ hk _
      refine kont_of_hx cx_ok hb 200 ?_
      simp only [go_sem, simprocAttr]
      first | refine hite_lt hk (fun hk1 => ?_) (fun hk1 => ?_) | refine hite_ltI hk (fun hk1 => ?_) (fun hk1 => ?_)
      · have hg := bytesS_get hby (a + k) (by omega)
        obtain ⟨b0, b1⟩ := hby _ (getD_mem s 0 (a + k) (by omega))
        have hwu := wrapu_id b0 (by omega)
        have hst := be_stepA hd (i := k) (by omega) (by omega)
        rw [getD_drop] at hst
        have hwr := wrap_succ (k := k) (by omega)
        have hwa : IntKind.i64.wrap ((a : Int) + k) = ((a + k : Nat) : Int) := by rw [wrap64 (by omega) (by omega)]; rfl
        simp only [go_sem, simprocAttr, hk1, decide_true, hsz, hwa, Int.toNat_natCast, hg, hwu, hst, hwr]
        repeat (refine And.intro (by first | assumption | omega) ?_)
        refine ⟨_, Weak.to 2 (by (simp only [go_sem, simprocAttr, hg, hwu, hst, hwr]) <;> simp), ForS.mk (γ) (trivial)⟩
      · simp only [go_sem, simprocAttr]
        subst hk1
        refine kont_of_hx cx_ok hb 200 ?_
        simp only [go_sem, simprocAttr]
        have hwk : IntKind.i64.wrap ((a : Int) + k) = ((a + k : Nat) : Int) := by rw [wrap64 (by omega) (by omega)]; rfl
        by_cases h1 : be ((s.drop a).take k) < l
        · have d1 : decide (be ((s.drop a).take k) < l) = true := decide_eq_true h1
          simp only [if_pos (Or.inl h1 : be ((s.drop a).take k) < l ∨ m < be ((s.drop a).take k))]
          simp only [go_sem, simprocAttr, d1]
        · have d1 : decide (be ((s.drop a).take k) < l) = false := decide_eq_false h1
          by_cases h2 : m < be ((s.drop a).take k)
          · have d2 : decide (m < be ((s.drop a).take k)) = true := decide_eq_true h2
            simp only [if_pos (Or.inr h2 : be ((s.drop a).take k) < l ∨ m < be ((s.drop a).take k))]
            simp only [go_sem, simprocAttr, d1, d2]
          · have d2 : decide (m < be ((s.drop a).take k)) = false := decide_eq_false h2
            simp only [if_neg (show ¬(be ((s.drop a).take k) < l ∨ m < be ((s.drop a).take k)) from fun h => h.elim h1 h2)]
            simp only [go_sem, simprocAttr, d1, d2, hwk]
  · have e2 : (err != 0) = true := by simpa using he
    simp only [RIn.next, if_neg he]
    refine AFn_hxk 0 cx_ok 200 Try.func44 rfl Try.ntmps44 Try.results44 rfl fun base w hb => ?_
    simp only [go_sem, simprocAttr]
    simp only [go_sem, simprocAttr, e2]
end Go.Fg.X
/- The document's reader, walked: curve, head. No conditions. -/
namespace Go.Fg.X
set_option linter.unusedSimpArgs false
set_option linter.unusedVariables false
open Go.Proofs Go.Fg
set_option maxRecDepth 100000
structure RIn.Good (r : RIn) : Prop where
  b : Bytes r.s
  l : r.s.length ≤ 4294967296
  a : r.at_ ≤ r.s.length
theorem RIn.Good.next {r : RIn} (h : r.Good) (n : Nat) (l m : Int) : (r.next n l m).Good := by
  have ha := h.a
  simp only [RIn.next]
  split
  · split
    · exact ⟨h.b, h.l, ha⟩
    · split
      · exact ⟨h.b, h.l, ha⟩
      · exact ⟨h.b, h.l, by simp only; omega⟩
  · exact h
theorem rnext_ok' {r : RIn} (h : r.Good) {n : Nat} (hk8 : n ≤ 8) {l m : Int} : AFn Try.prog 44 [.agg r.cells, dint n, du64 l, du64 m] (Ret (.agg (r.next n l m).cells)) := rnext_ok h.b h.l h.a hk8
def RIn.curve (r : RIn) : Cv × RIn :=
  let a := r.next 4 0 4294967295
  let b := a.next 4 0 1048576
  let c := b.next 4 0 4294967295
  (⟨a.v, b.v, c.v⟩, c)
theorem rcurve_ok {r : RIn} (h : r.Good) : AFn Try.prog 125 [.agg r.cells] (Ret (.tup [.agg r.curve.1.cells, .agg r.curve.2.cells])) := by
  have h1 := h.next 4 0 4294967295
  simp only [RIn.curve]
  have c1 := rnext_ok' h (n := 4) (by decide) (l := 0) (m := 4294967295)
  generalize r.next 4 0 4294967295 = a at *
  have h2 := h1.next 4 0 1048576
  have c2 := rnext_ok' h1 (n := 4) (by decide) (l := 0) (m := 1048576)
  generalize a.next 4 0 1048576 = b at *
  have c3 := rnext_ok' h2 (n := 4) (by decide) (l := 0) (m := 4294967295)
  generalize b.next 4 0 4294967295 = c at *
  refine AFn_hxk 0 cx_ok 200 Try.func125 rfl Try.ntmps125 Try.results125 rfl fun base w hb => ?_
  simp only [go_sem, simprocAttr]
  refine kont_call hb fn44 rfl ?_ c1 (Ret.flat rfl) rfl fun d h hR => ?_
  · simp only [go_sem, simprocAttr]
  obtain ⟨rfl, rfl⟩ := hR
  refine kont_of_hx cx_ok hb 200 ?_
  simp only [go_sem, simprocAttr]
  refine kont_call hb fn44 rfl ?_ c2 (Ret.flat rfl) rfl fun d h hR => ?_
  · simp only [go_sem, simprocAttr]
  obtain ⟨rfl, rfl⟩ := hR
  refine kont_of_hx cx_ok hb 200 ?_
  simp only [go_sem, simprocAttr]
  refine kont_call hb fn44 rfl ?_ c3 (Ret.flat rfl) rfl fun d h hR => ?_
  · simp only [go_sem, simprocAttr]
  obtain ⟨rfl, rfl⟩ := hR
  refine kont_of_hx cx_ok hb 200 ?_
  simp only [go_sem, simprocAttr]
  refine kont_haxF cx_ok hb 200 mixed [(0, true), (1, true), (2, true), (3, true), (4, true), (5, true), (6, true)] [7, 8, 9] (by kernel_rfl) (by kernel_rfl) ?_
  simp only [go_sem, simprocAttr]
def w16 (n : Int) : Int := IntKind.u16.wrap n
def RIn.head (r : RIn) : Hd × RIn :=
  let a := r.next 2 0 65535
  let b := a.next 2 0 65535
  let c := b.next 2 0 65535
  let d := c.next 2 0 65535
  (⟨w16 a.v, w16 b.v, w16 c.v, w16 d.v⟩, d)
theorem rhead_ok {r : RIn} (h : r.Good) : AFn Try.prog 86 [.agg r.cells] (Ret (.tup [.agg r.head.1.cells, .agg r.head.2.cells])) := by
  have h1 := h.next 2 0 65535
  simp only [RIn.head, w16]
  have c1 := rnext_ok' h (n := 2) (by decide) (l := 0) (m := 65535)
  generalize r.next 2 0 65535 = a at *
  have h2 := h1.next 2 0 65535
  have c2 := rnext_ok' h1 (n := 2) (by decide) (l := 0) (m := 65535)
  generalize a.next 2 0 65535 = b at *
  have h3 := h2.next 2 0 65535
  have c3 := rnext_ok' h2 (n := 2) (by decide) (l := 0) (m := 65535)
  generalize b.next 2 0 65535 = c at *
  have c4 := rnext_ok' h3 (n := 2) (by decide) (l := 0) (m := 65535)
  generalize c.next 2 0 65535 = d at *
  refine AFn_hxk 0 cx_ok 200 Try.func86 rfl Try.ntmps86 Try.results86 rfl fun base w hb => ?_
  simp only [go_sem, simprocAttr]
  refine kont_turns 4 ?_
  refine kont_of_hx cx_ok hb 200 ?_
  simp only [go_sem, simprocAttr]
  refine kont_call hb fn44 rfl ?_ c1 (Ret.flat rfl) rfl fun d h hR => ?_
  · simp only [go_sem, simprocAttr]
  obtain ⟨rfl, rfl⟩ := hR
  refine kont_of_hx cx_ok hb 200 ?_
  simp only [go_sem, simprocAttr]
  refine kont_of_hx cx_ok hb 200 ?_
  simp only [go_sem, simprocAttr]
  refine kont_call hb fn44 rfl ?_ c2 (Ret.flat rfl) rfl fun d h hR => ?_
  · simp only [go_sem, simprocAttr]
  obtain ⟨rfl, rfl⟩ := hR
  refine kont_of_hx cx_ok hb 200 ?_
  simp only [go_sem, simprocAttr]
  refine kont_of_hx cx_ok hb 200 ?_
  simp only [go_sem, simprocAttr]
  refine kont_call hb fn44 rfl ?_ c3 (Ret.flat rfl) rfl fun d h hR => ?_
  · simp only [go_sem, simprocAttr]
  obtain ⟨rfl, rfl⟩ := hR
  refine kont_of_hx cx_ok hb 200 ?_
  simp only [go_sem, simprocAttr]
  refine kont_of_hx cx_ok hb 200 ?_
  simp only [go_sem, simprocAttr]
  refine kont_call hb fn44 rfl ?_ c4 (Ret.flat rfl) rfl fun d h hR => ?_
  · simp only [go_sem, simprocAttr]
  obtain ⟨rfl, rfl⟩ := hR
  refine kont_of_hx cx_ok hb 200 ?_
  simp only [go_sem, simprocAttr]
  refine kont_of_hx cx_ok hb 200 ?_
  simp only [go_sem, simprocAttr]
  refine kont_of_hx cx_ok hb 200 ?_
  simp only [go_sem, simprocAttr]
  refine kont_haxF cx_ok hb 200 mixed [(0, true)] [1, 2, 3] (by kernel_rfl) (by kernel_rfl) ?_
  simp only [go_sem, simprocAttr]
end Go.Fg.X
/- The document's reader, walked: change. No conditions. -/
namespace Go.Fg.X
set_option linter.unusedSimpArgs false
set_option linter.unusedVariables false
open Go.Proofs Go.Fg
set_option maxRecDepth 100000
theorem RIn.Good.curve {r : RIn} (h : r.Good) : r.curve.2.Good := ((h.next _ _ _).next _ _ _).next _ _ _
theorem RIn.Good.head {r : RIn} (h : r.Good) : r.head.2.Good := (((h.next _ _ _).next _ _ _).next _ _ _).next _ _ _
def w64 (n : Int) : Int := IntKind.i64.wrap n
def RIn.change (r : RIn) : Chg × RIn :=
  let k := r.next 1 1 3
  let id := k.next 4 0 65536
  let p := id.next 4 0 65536
  let leaf := p.next 1 0 1
  let a := leaf.curve
  let b := a.2.curve
  let c := b.2.curve
  let pk := c.2.next 1 0 64
  let by_ := pk.next 4 0 1048576
  (⟨w64 k.v, ⟨w64 id.v, w64 p.v, leaf.v == 1, a.1, b.1, c.1, w64 pk.v, w64 by_.v⟩⟩, by_)
theorem rchange_ok {r : RIn} (h : r.Good) : AFn Try.prog 117 [.agg r.cells] (Ret (.tup [.agg r.change.1.cells, .agg r.change.2.cells])) := by
  simp only [RIn.change, w64]
  have h1 := h.next 1 1 3
  have c1 := rnext_ok' h (n := 1) (by decide) (l := 1) (m := 3)
  generalize r.next 1 1 3 = a1 at *
  have h2 := h1.next 4 0 65536
  have c2 := rnext_ok' h1 (n := 4) (by decide) (l := 0) (m := 65536)
  generalize a1.next 4 0 65536 = a2 at *
  have h3 := h2.next 4 0 65536
  have c3 := rnext_ok' h2 (n := 4) (by decide) (l := 0) (m := 65536)
  generalize a2.next 4 0 65536 = a3 at *
  have h4 := h3.next 1 0 1
  have c4 := rnext_ok' h3 (n := 1) (by decide) (l := 0) (m := 1)
  generalize a3.next 1 0 1 = a4 at *
  have h5 := h4.curve
  have c5 := rcurve_ok h4
  generalize a4.curve = a5 at *
  have h6 := h5.curve
  have c6 := rcurve_ok h5
  generalize a5.2.curve = a6 at *
  have h7 := h6.curve
  have c7 := rcurve_ok h6
  generalize a6.2.curve = a7 at *
  have h8 := h7.next 1 0 64
  have c8 := rnext_ok' h7 (n := 1) (by decide) (l := 0) (m := 64)
  generalize a7.2.next 1 0 64 = a8 at *
  have c9 := rnext_ok' h8 (n := 4) (by decide) (l := 0) (m := 1048576)
  generalize a8.next 4 0 1048576 = a9 at *
  refine AFn_hxk 0 cx_ok 200 Try.func117 rfl Try.ntmps117 Try.results117 rfl fun base w hb => ?_
  simp only [go_sem, simprocAttr]
  refine kont_call hb fn44 rfl ?_ c1 (Ret.flat rfl) rfl fun d h hR => ?_
  · simp only [go_sem, simprocAttr]
  obtain ⟨rfl, rfl⟩ := hR
  refine kont_of_hx cx_ok hb 200 ?_
  simp only [go_sem, simprocAttr]
  refine kont_call hb fn44 rfl ?_ c2 (Ret.flat rfl) rfl fun d h hR => ?_
  · simp only [go_sem, simprocAttr]
  obtain ⟨rfl, rfl⟩ := hR
  refine kont_of_hx cx_ok hb 200 ?_
  simp only [go_sem, simprocAttr]
  refine kont_call hb fn44 rfl ?_ c3 (Ret.flat rfl) rfl fun d h hR => ?_
  · simp only [go_sem, simprocAttr]
  obtain ⟨rfl, rfl⟩ := hR
  refine kont_of_hx cx_ok hb 200 ?_
  simp only [go_sem, simprocAttr]
  refine kont_call hb fn44 rfl ?_ c4 (Ret.flat rfl) rfl fun d h hR => ?_
  · simp only [go_sem, simprocAttr]
  obtain ⟨rfl, rfl⟩ := hR
  refine kont_of_hx cx_ok hb 200 ?_
  simp only [go_sem, simprocAttr]
  refine kont_call hb fn125 rfl ?_ c5 (Ret.flat rfl) rfl fun d h hR => ?_
  · simp only [go_sem, simprocAttr]
  obtain ⟨rfl, rfl⟩ := hR
  refine kont_of_hx cx_ok hb 200 ?_
  simp only [go_sem, simprocAttr]
  refine kont_call hb fn125 rfl ?_ c6 (Ret.flat rfl) rfl fun d h hR => ?_
  · simp only [go_sem, simprocAttr]
  obtain ⟨rfl, rfl⟩ := hR
  refine kont_of_hx cx_ok hb 200 ?_
  simp only [go_sem, simprocAttr]
  refine kont_call hb fn125 rfl ?_ c7 (Ret.flat rfl) rfl fun d h hR => ?_
  · simp only [go_sem, simprocAttr]
  obtain ⟨rfl, rfl⟩ := hR
  refine kont_of_hx cx_ok hb 200 ?_
  simp only [go_sem, simprocAttr]
  refine kont_call hb fn44 rfl ?_ c8 (Ret.flat rfl) rfl fun d h hR => ?_
  · simp only [go_sem, simprocAttr]
  obtain ⟨rfl, rfl⟩ := hR
  refine kont_of_hx cx_ok hb 200 ?_
  simp only [go_sem, simprocAttr]
  refine kont_call hb fn44 rfl ?_ c9 (Ret.flat rfl) rfl fun d h hR => ?_
  · simp only [go_sem, simprocAttr]
  obtain ⟨rfl, rfl⟩ := hR
  refine kont_of_hx cx_ok hb 200 ?_
  simp only [go_sem, simprocAttr]
  refine kont_haxF cx_ok hb 200 mixed [(0, true), (1, true), (2, true), (3, true), (4, true), (5, true), (6, true), (7, true), (8, true), (9, true), (10, true), (11, true), (12, true), (13, true), (14, true), (15, true), (16, true), (17, true), (18, true), (19, true), (20, true), (21, true), (22, true)] [23, 24, 25] (by kernel_rfl) (by kernel_rfl) ?_
  simp only [go_sem, simprocAttr]
end Go.Fg.X
/- The document's reader, walked: changes. No conditions. -/
namespace Go.Fg.X
set_option linter.unusedSimpArgs false
set_option linter.unusedVariables false
open Go.Proofs Go.Fg
set_option maxRecDepth 100000
theorem RIn.Good.change {r : RIn} (h : r.Good) : r.change.2.Good := (((((((h.next _ _ _).next _ _ _).next _ _ _).next _ _ _).curve).curve).curve.next _ _ _).next _ _ _
def rloop {α : Type} (one : RIn → α × RIn) : Nat → RIn → List α → List α × RIn
  | 0, x, out => (out, x)
  | n + 1, x, out => rloop one n (one x).2 (out ++ [(one x).1])
def RIn.changes (r : RIn) : List Chg × RIn := rloop RIn.change (r.next 1 0 32).v.toNat (r.next 1 0 32) []
theorem RIn.next_v {r : RIn} (he : r.err = 0) (n : Nat) (l m : Int) : (r.next n l m).v = 0 ∨ (l ≤ (r.next n l m).v ∧ (r.next n l m).v ≤ m) := by
  simp only [RIn.next, if_pos he]
  split
  · exact .inl rfl
  · split
    · exact .inl rfl
    · rename_i h; exact .inr ⟨by simp only; omega, by simp only; omega⟩
structure RLoop {α : Type} (one : RIn → α × RIn) (n : Nat) (fin : List α × RIn) (i : Nat) (x : RIn) (out : List α) : Prop where
  len : out.length = i
  good : x.Good
  fin : rloop one (n - i) x out = fin
@[go_sem] def rSt (r : RIn) (n g i : Nat) (x : RIn) (out : List Chg) : St :=
  ⟨[(1, .ptr 0 0 0 0), (2, .nil), (3, .ptr 1 0 0 0), (4, .ref 3 g 0 i), (5, .ptr 2 0 0 0), (14, dint n), (15, dint i)],
    [⟨.one, 0, 4, 1, fun _ => r.cells⟩, ⟨.one, 0, 4, 1, fun _ => [.raw (.string ByteArray.empty), .raw (.int .i64 0), .raw (.int .u64 0), .raw (.int .i64 0)]⟩, ⟨.one, 0, 4, 1, fun _ => x.cells⟩, ⟨.arr, g, 15, i, Chg.rows out⟩]⟩
theorem rchanges_ok {r : RIn} (h : r.Good) (he : r.err = 0) : AFn Try.prog 84 [.agg r.cells] (Ret (.tup [.imm 15 r.changes.1.length (Chg.rows r.changes.1), .agg r.changes.2.cells])) := by
  simp only [RIn.changes]
  have h1 := h.next 1 0 32
  have hv := RIn.next_v he 1 0 32
  have c1 := rnext_ok' h (n := 1) (by decide) (l := 0) (m := 32)
  generalize r.next 1 0 32 = x0 at *
  obtain ⟨n, hn⟩ := Int.eq_ofNat_of_zero_le (show 0 ≤ x0.v by omega)
  have hn2 : n ≤ 32 := by omega
  have hw : IntKind.i64.wrap x0.v = (n : Int) := by rw [hn, wrap64 (by omega) (by omega)]
  rw [hn, Int.toNat_natCast]
  generalize hfin : rloop RIn.change n x0 [] = fin
  refine AFn_hxk 0 cx_ok 200 Try.func84 rfl Try.ntmps84 Try.results84 rfl fun base w hb => ?_
  simp only [go_sem, simprocAttr]
  refine kont_call hb fn44 rfl ?_ c1 (Ret.flat rfl) rfl fun d h hR => ?_
  · simp only [go_sem, simprocAttr, hw]
  obtain ⟨rfl, rfl⟩ := hR
  refine kont_of_hx cx_ok hb 200 ?_
  simp only [go_sem, simprocAttr, hw]
  refine kont_weak_code (Weak.phantom 4 15 (Chg.rows []) rfl) ?_
  simp only [go_sem, simprocAttr]
  refine kont_for (fun i st => ∃ x out g, RLoop RIn.change n fin i x out ∧ st = rSt r n g i x out) n (s0 := rSt r n 0 0 x0 []) (Weak.to 4 (by simp only [go_sem, simprocAttr])) ⟨x0, [], 0, ⟨rfl, h1, hfin⟩, rfl⟩ ?_
  rintro i _ hin ⟨x, out, g, I, rfl⟩
  simp only [go_sem, simprocAttr]
  refine kont_of_hx cx_ok hb 200 ?_
  simp only [go_sem, simprocAttr]
  first | refine hite_lt hin (fun hk1 => ?_) (fun hk1 => ?_) | refine hite_ltI hin (fun hk1 => ?_) (fun hk1 => ?_)
  · simp only [go_sem, simprocAttr, hk1, decide_true]
    have hni : n - i = (n - (i + 1)) + 1 := by omega
    have hf := I.fin
    rw [hni, rloop] at hf
    have cc := rchange_ok I.good
    have hg2 := I.good.change
    generalize x.change = y at *
    refine kont_call hb fn117 rfl ?_ cc (Ret.flat rfl) rfl fun d h hR => ?_
    · simp only [go_sem, simprocAttr]
    obtain ⟨rfl, rfl⟩ := hR
    refine kont_of_hx cx_ok hb 200 ?_
    simp only [go_sem, simprocAttr]
    refine ⟨by omega, hk1, rSt r n (g + 1) (i + 1) y.2 (out ++ [y.1]), Weak.to 4 ?_, _, _, _, ⟨?_, hg2, hf⟩, rfl⟩
    · simp only [go_sem, simprocAttr]
      refine ⟨by rw [wrap_succ (by omega)], fun j hj => ?_⟩
      rw [getD_app out _ _ j (by have := I.len; omega), I.len]
      cases decide (j < i) <;> rfl
    · simp [I.len]
  · simp only [go_sem, simprocAttr]
    subst hk1
    have hf := I.fin
    rw [Nat.sub_self, rloop] at hf
    subst hf
    refine kont_weak_code (Weak.freeze rfl 3 rfl rfl (fun j hj => rfl)) ?_
    simp only [go_sem, simprocAttr]
    refine kont_of_hx cx_ok hb 200 ?_
    simp only [go_sem, simprocAttr]
    refine kont_hax cx_ok hb 200 mixed [(0, true), (1, true), (2, true), (3, false)] (by kernel_rfl) (by kernel_rfl) ?_
    simp only [go_sem, simprocAttr]
    rw [I.len]
end Go.Fg.X
