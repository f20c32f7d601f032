/- Contracts and laws on the way to the statement. No conditions. -/
import Derived.Test.YtklmjinbhnoppaaGreatFgTurn
set_option maxRecDepth 100000
set_option maxHeartbeats 16000000
set_option linter.unusedVariables false
set_option linter.unusedSimpArgs false
set_option linter.unusedSectionVars false
namespace Go.Fg.X
open Go.Proofs Go.Fg
open Go.Proofs.Tryz
theorem SB (a:Nat) (i:Int) (b:Nat) (j:Int):Q8 prog 207 [.agg [u64 a,Qb i],.agg [u64 b,Qb j]] (Ql (Qb (W7 a i b j))):=by
 refine Zb 0 Qe 200 func207 rfl ntmps207 results207 rfl fun base w hb=>?_
 simp only[go_sem,simprocAttr]
 repeat' (first|((first|refine Gm (fun h=>?_) (fun h=>?_)|refine Gn (fun h=>?_) (fun h=>?_)|refine Gp (fun h=>?_) (fun h=>?_)|refine kx (fun h=>?_) (fun h=>?_)|refine Gq (fun h=>?_) (fun h=>?_)|refine Gr (fun h=>?_) (fun h=>?_)|refine Gs (fun h=>?_) (fun h=>?_)|refine Gh (fun h=>?_) (fun h=>?_))<;>(try simp only[go_sem,simprocAttr,Go.undef]))|(refine And.intro (by first|assumption|omega) ?_;try simp only[go_sem,simprocAttr,Go.undef])|fail)
 all_goals (congr 2;(try simp only[Bool.and_eq_true,Bool.and_eq_false_iff,Bool.or_eq_true,Bool.or_eq_false_iff,beq_iff_eq,beq_eq_false_iff_ne,bne_iff_ne,bne_eq_false_iff_eq,decide_eq_true_eq,decide_eq_false_iff_not,ne_eq]at *);(try unfold W7 Z7);(repeat' split)<;>omega)
theorem El (x y:It):Q8 prog 166 [.agg x.cells,.agg y.cells] (Ql (.agg (XR x y).cells)):=by
 have c1:=SB y.va y.vi x.va x.vi
 have c2:=SB y.ka y.ki x.ka x.ki
 simp only[XR]
 generalize W7 y.va y.vi x.va x.vi=p at *
 generalize W7 y.ka y.ki x.ka x.ki=q at *
 refine Zb 0 Qe 200 func166 rfl ntmps166 results166 rfl fun base w hb=>?_
 simp only[go_sem,simprocAttr]
 refine QE hb RM rfl ?_ c1 (Ql.flat rfl) rfl fun d h hR=>?_
 ·simp only[go_sem,simprocAttr]
 obtain⟨rfl,rfl⟩:=hR
 refine Qc hb ?_
 simp only[go_sem,simprocAttr]
 repeat' (first|((first|refine Gm (fun h=>?_) (fun h=>?_)|refine Gn (fun h=>?_) (fun h=>?_)|refine Gp (fun h=>?_) (fun h=>?_)|refine kx (fun h=>?_) (fun h=>?_)|refine Gq (fun h=>?_) (fun h=>?_)|refine Gr (fun h=>?_) (fun h=>?_)|refine Gs (fun h=>?_) (fun h=>?_)|refine Gh (fun h=>?_) (fun h=>?_))<;>(try simp only[go_sem,simprocAttr,Go.undef]))|(refine And.intro (by first|assumption|omega) ?_;try simp only[go_sem,simprocAttr,Go.undef])|(refine eO hb [] RM rfl ?_ (c2) rfl ?_;(· simp only[go_sem,simprocAttr,Go.undef]);intro d h hR;obtain⟨rfl,rfl⟩:=hR;(simp only[go_sem,simprocAttr,Go.undef]);refine Qc hb ?_;simp only[go_sem,simprocAttr,Go.undef])|fail)
 all_goals (try simp only[beq_iff_eq,beq_eq_false_iff_ne,ne_eq]at *);(first|rw[if_pos (by omega)]|rw[if_neg (by omega)])
section
variable {h:List Ob} {t:Tr} (i:Xs h t)
include i
theorem Yq:QP prog 264 h [t.ptr] (fun d=>d=Qb t.high):=by
 cases t with
 | nil=>
  refine Zi Qe 200 func264 rfl ntmps264 results264 rfl fun base w pl F hF QS hb=>?_
  simp only[go_sem,simprocAttr,Qa]
  exact⟨[],by simp [Tr.high]⟩
 | node loc it l r=>
  have h2:=i.1
  refine Zi Qe 200 func264 rfl ntmps264 results264 rfl fun base w pl F hF QS hb=>?_
  rw[← hF]at h2
  have Jn:=Qd h2
  simp only[go_sem,simprocAttr,Qa,h2,Jn]
  exact⟨[],by simp⟩
theorem xV:QP prog 206 h [t.ptr] (fun d=>d=Qb t.size):=by
 cases t with
 | nil=>
  refine Zi Qe 200 func206 rfl ntmps206 results206 rfl fun base w pl F hF QS hb=>?_
  simp only[go_sem,simprocAttr,Qa]
  exact⟨[],by simp [Tr.size]⟩
 | node loc it l r=>
  have h2:=i.1
  refine Zi Qe 200 func206 rfl ntmps206 results206 rfl fun base w pl F hF QS hb=>?_
  rw[← hF]at h2
  have Jn:=Qd h2
  simp only[go_sem,simprocAttr,Qa,h2,Jn]
  exact⟨[],by simp⟩
theorem SC (n:Nat):QP prog 208 h [t.ptr,u64 n] (fun d=>d=QN (t.hasB n)):=by
 cases t with
 | nil=>
  refine Zi Qe 200 func208 rfl ntmps208 results208 rfl fun base w pl F hF QS hb=>?_
  simp only[go_sem,simprocAttr,Qa]
  exact⟨[],by simp [Tr.hasB]⟩
 | node loc it l r=>
  have h2:=i.1
  refine Zi Qe 200 func208 rfl ntmps208 results208 rfl fun base w pl F hF QS hb=>?_
  rw[← hF]at h2
  have Jn:=Qd h2
  simp only[go_sem,simprocAttr,Qa,h2,Jn]
  exact⟨[],by simp [Tr.hasB]⟩
end
structure Raw (h:List Ob) (loc:Nat) (it:It) (l r:Tr) (le:It) (hi n:Int):Prop where
 o:h[loc]? = some (xR it l.ptr r.ptr le hi n)
 il:JF h l
 ir:JF h r
theorem JF.set {h:List Ob} {t:Tr} (i:JF h t) {k:Nat} (o:Ob) (hn:k ∉ t.QB):JF (h.set k o) t:=i.frame fun l hl=>Qt fun e=>hn (e▸hl)
theorem wj {h:List Ob} {loc:Nat} {it:It} {l r:Tr} {le:It} {hi n:Int} (i:Raw h loc it l r le hi n) (hs:l.size<1000000) (Ji:r.size<1000000) (nl:loc ∉ l.QB) (nr:loc ∉ r.QB) :
  QH prog 215 h [.ptr loc 0 0 0] (fun d h'=>h'=h.set loc (xR it l.ptr r.ptr (Tr.node loc it l r).least ((Tr.node loc it l r).high:Nat) ((Tr.node loc it l r).size:Nat))):=by
 have h1:=i.o
 have il:=i.il
 have ir:=i.ir
 have w1:=l.Eg
 have w2:=r.Eg
 have e1:max (l.high:Int) (r.high:Int)=((max l.high r.high:Nat):Int):=by omega
 have e2:IntKind.i64.wrap (1+((max l.high r.high:Nat):Int))=((1+max l.high r.high:Nat):Int):=by rw[wrap64 (by omega) (by omega)];omega
 have e3:IntKind.i64.wrap (1+(l.size:Int))=((1+l.size:Nat):Int):=by rw[wrap64 (by omega) (by omega)];omega
 have e4:IntKind.i64.wrap (((1+l.size:Nat):Int)+(r.size:Int))=((1+l.size+r.size:Nat):Int):=by rw[wrap64 (by omega) (by omega)];omega
 rcases l with _|⟨a,b,c,d⟩<;>rcases r with _|⟨a',b',c',d'⟩
 ·simp only[Tr.Ap,Tr.wh]at h1
  refine QX Qe 200 func215 rfl ntmps215 results215 rfl fun base w pl hb=>?_
  have Qz:=Qd h1
  simp only[go_sem,simprocAttr,Qa,h1,Qz]
  refine QA Qe hb 200 mixed [(0,true),(1,true),(2,true),(3,true),(4,true),(5,true),(7,true),(8,true),(9,true),(10,true),(11,true),(6,false),(12,false),(13,true),(14,true),(15,true),(16,true),(17,false)] (by kernel_rfl) (by kernel_rfl) ?_
  simp only[go_sem,simprocAttr,Qa,h1,Qz]
  refine Z3 hb Yl rfl ?_ (Yq il.toR) rfl fun d hR=>?_
  ·simp only[go_sem,simprocAttr,Qa,h1,Qz]
  subst hR
  refine QF hb ?_
  simp only[go_sem,simprocAttr,Qa,h1,Qz]
  refine Z3 hb Yl rfl ?_ (Yq ir.toR) rfl fun d hR=>?_
  ·simp only[go_sem,simprocAttr,Qa,h1,Qz,e1,e2]
  subst hR
  refine QF hb ?_
  simp only[go_sem,simprocAttr,Qa,h1,Qz,e1,e2]
  refine QA Qe hb 200 mixed [(0,true),(1,true),(2,true),(3,true),(4,true),(5,true),(8,true),(9,true),(10,true),(11,true),(12,true),(6,false),(7,true),(13,false),(14,true),(15,true),(16,true),(17,false)] (by kernel_rfl) (by kernel_rfl) ?_
  simp only[go_sem,simprocAttr,Qa,h1,Qz,Qw Qz]
  refine Z3 hb xI rfl ?_ (xV (il.set _ nl).toR) rfl fun d hR=>?_
  ·simp only[go_sem,simprocAttr,Qa,h1,Qz,Qw Qz,e3]
  subst hR
  refine QF hb ?_
  simp only[go_sem,simprocAttr,Qa,h1,Qz,Qw Qz,e3]
  refine Z3 hb xI rfl ?_ (xV (ir.set _ nr).toR) rfl fun d hR=>?_
  ·simp only[go_sem,simprocAttr,Qa,h1,Qz,Qw Qz,e4]
  subst hR
  refine QF hb ?_
  simp only[go_sem,simprocAttr,Qa,h1,Qz,Qw Qz,e4]
  refine wi 2 ?_
  refine Qc hb ?_
  simp only[go_sem,simprocAttr,Qa,h1,Qz,Qw Qz]
  refine Qc hb ?_
  simp only[go_sem,simprocAttr,Qa,h1,Qz,Qw Qz]
  refine Qc hb ?_
  simp only[go_sem,simprocAttr,Qa,h1,Qz,Qw Qz]
  rfl
 ·simp only[Tr.Ap,Tr.wh]at h1
  have Jt:=ir.1
  have Vs:loc≠a':=by rintro rfl;exact nr (by simp [Tr.QB])
  refine QX Qe 200 func215 rfl ntmps215 results215 rfl fun base w pl hb=>?_
  have Qz:=Qd h1
  simp only[go_sem,simprocAttr,Qa,h1,Qz]
  refine QA Qe hb 200 mixed [(0,true),(1,true),(2,true),(3,true),(4,true),(5,true),(7,true),(8,true),(9,true),(10,true),(11,true),(6,false),(12,false),(13,true),(14,true),(15,true),(16,true),(17,false)] (by kernel_rfl) (by kernel_rfl) ?_
  simp only[go_sem,simprocAttr,Qa,h1,Qz]
  refine Z3 hb Yl rfl ?_ (Yq il.toR) rfl fun d hR=>?_
  ·simp only[go_sem,simprocAttr,Qa,h1,Qz]
  subst hR
  refine QF hb ?_
  simp only[go_sem,simprocAttr,Qa,h1,Qz]
  refine Z3 hb Yl rfl ?_ (Yq ir.toR) rfl fun d hR=>?_
  ·simp only[go_sem,simprocAttr,Qa,h1,Qz,e1,e2]
  subst hR
  refine QF hb ?_
  simp only[go_sem,simprocAttr,Qa,h1,Qz,e1,e2]
  refine QA Qe hb 200 mixed [(0,true),(1,true),(2,true),(3,true),(4,true),(5,true),(8,true),(9,true),(10,true),(11,true),(12,true),(6,false),(7,true),(13,false),(14,true),(15,true),(16,true),(17,false)] (by kernel_rfl) (by kernel_rfl) ?_
  simp only[go_sem,simprocAttr,Qa,h1,Qz,Qw Qz]
  refine Z3 hb xI rfl ?_ (xV (il.set _ nl).toR) rfl fun d hR=>?_
  ·simp only[go_sem,simprocAttr,Qa,h1,Qz,Qw Qz,e3]
  subst hR
  refine QF hb ?_
  simp only[go_sem,simprocAttr,Qa,h1,Qz,Qw Qz,e3]
  refine Z3 hb xI rfl ?_ (xV (ir.set _ nr).toR) rfl fun d hR=>?_
  ·simp only[go_sem,simprocAttr,Qa,h1,Qz,Qw Qz,e4]
  subst hR
  refine QF hb ?_
  simp only[go_sem,simprocAttr,Qa,h1,Qz,Qw Qz,e4]
  refine wi 2 ?_
  refine Qc hb ?_
  simp only[go_sem,simprocAttr,Qa,h1,Qz,Qw Qz,Jt,Qt Vs]
  refine Qc hb ?_
  simp only[go_sem,simprocAttr,Qa,h1,Qz,Qw Qz,Jt,Qt Vs]
  refine QA Qe hb 200 mixed [(0,true),(1,true),(2,true),(3,true),(4,true),(5,true),(6,true),(7,true),(8,true),(9,false),(10,true),(11,true),(12,false)] (by kernel_rfl) (by kernel_rfl) ?_
  simp only[go_sem,simprocAttr,Qa,h1,Qz,Qw Qz,Jt,Qt Vs]
  refine Zt hb DT rfl ?_ (El it (Tr.node a' b' c' d').least) (Ql.flat rfl) rfl fun d h hR=>?_
  ·simp only[go_sem,simprocAttr,Qa,h1,Qz,Qw Qz,Jt,Qt Vs]
  obtain⟨rfl,rfl⟩:=hR
  refine QF hb ?_
  simp only[go_sem,simprocAttr,Qa,h1,Qz,Qw Qz,Jt,Qt Vs]
  refine Qc hb ?_
  simp only[go_sem,simprocAttr,Qa,h1,Qz,Qw Qz,Jt,Qt Vs]
  rfl
 ·simp only[Tr.Ap,Tr.wh]at h1
  have ha:=il.1
  have V8:loc≠a:=by rintro rfl;exact nl (by simp [Tr.QB])
  refine QX Qe 200 func215 rfl ntmps215 results215 rfl fun base w pl hb=>?_
  have Qz:=Qd h1
  simp only[go_sem,simprocAttr,Qa,h1,Qz]
  refine QA Qe hb 200 mixed [(0,true),(1,true),(2,true),(3,true),(4,true),(5,true),(7,true),(8,true),(9,true),(10,true),(11,true),(6,false),(12,false),(13,true),(14,true),(15,true),(16,true),(17,false)] (by kernel_rfl) (by kernel_rfl) ?_
  simp only[go_sem,simprocAttr,Qa,h1,Qz]
  refine Z3 hb Yl rfl ?_ (Yq il.toR) rfl fun d hR=>?_
  ·simp only[go_sem,simprocAttr,Qa,h1,Qz]
  subst hR
  refine QF hb ?_
  simp only[go_sem,simprocAttr,Qa,h1,Qz]
  refine Z3 hb Yl rfl ?_ (Yq ir.toR) rfl fun d hR=>?_
  ·simp only[go_sem,simprocAttr,Qa,h1,Qz,e1,e2]
  subst hR
  refine QF hb ?_
  simp only[go_sem,simprocAttr,Qa,h1,Qz,e1,e2]
  refine QA Qe hb 200 mixed [(0,true),(1,true),(2,true),(3,true),(4,true),(5,true),(8,true),(9,true),(10,true),(11,true),(12,true),(6,false),(7,true),(13,false),(14,true),(15,true),(16,true),(17,false)] (by kernel_rfl) (by kernel_rfl) ?_
  simp only[go_sem,simprocAttr,Qa,h1,Qz,Qw Qz]
  refine Z3 hb xI rfl ?_ (xV (il.set _ nl).toR) rfl fun d hR=>?_
  ·simp only[go_sem,simprocAttr,Qa,h1,Qz,Qw Qz,e3]
  subst hR
  refine QF hb ?_
  simp only[go_sem,simprocAttr,Qa,h1,Qz,Qw Qz,e3]
  refine Z3 hb xI rfl ?_ (xV (ir.set _ nr).toR) rfl fun d hR=>?_
  ·simp only[go_sem,simprocAttr,Qa,h1,Qz,Qw Qz,e4]
  subst hR
  refine QF hb ?_
  simp only[go_sem,simprocAttr,Qa,h1,Qz,Qw Qz,e4]
  refine wi 2 ?_
  refine Qc hb ?_
  simp only[go_sem,simprocAttr,Qa,h1,Qz,Qw Qz,ha,Qt V8]
  refine QA Qe hb 200 mixed [(0,true),(1,true),(2,true),(3,true),(4,true),(5,true),(6,true),(7,true),(8,true),(9,false),(10,true),(11,true),(12,false)] (by kernel_rfl) (by kernel_rfl) ?_
  simp only[go_sem,simprocAttr,Qa,h1,Qz,Qw Qz,ha,Qt V8]
  refine Zt hb DT rfl ?_ (El it (Tr.node a b c d).least) (Ql.flat rfl) rfl fun d h hR=>?_
  ·simp only[go_sem,simprocAttr,Qa,h1,Qz,Qw Qz,ha,Qt V8]
  obtain⟨rfl,rfl⟩:=hR
  refine QF hb ?_
  simp only[go_sem,simprocAttr,Qa,h1,Qz,Qw Qz,ha,Qt V8]
  refine Qc hb ?_
  simp only[go_sem,simprocAttr,Qa,h1,Qz,Qw Qz,ha,Qt V8]
  refine Qc hb ?_
  simp only[go_sem,simprocAttr,Qa,h1,Qz,Qw Qz,ha,Qt V8]
  rfl
 ·simp only[Tr.Ap,Tr.wh]at h1
  have ha:=il.1
  have V8:loc≠a:=by rintro rfl;exact nl (by simp [Tr.QB])
  have Jt:=ir.1
  have Vs:loc≠a':=by rintro rfl;exact nr (by simp [Tr.QB])
  refine QX Qe 200 func215 rfl ntmps215 results215 rfl fun base w pl hb=>?_
  have Qz:=Qd h1
  simp only[go_sem,simprocAttr,Qa,h1,Qz]
  refine QA Qe hb 200 mixed [(0,true),(1,true),(2,true),(3,true),(4,true),(5,true),(7,true),(8,true),(9,true),(10,true),(11,true),(6,false),(12,false),(13,true),(14,true),(15,true),(16,true),(17,false)] (by kernel_rfl) (by kernel_rfl) ?_
  simp only[go_sem,simprocAttr,Qa,h1,Qz]
  refine Z3 hb Yl rfl ?_ (Yq il.toR) rfl fun d hR=>?_
  ·simp only[go_sem,simprocAttr,Qa,h1,Qz]
  subst hR
  refine QF hb ?_
  simp only[go_sem,simprocAttr,Qa,h1,Qz]
  refine Z3 hb Yl rfl ?_ (Yq ir.toR) rfl fun d hR=>?_
  ·simp only[go_sem,simprocAttr,Qa,h1,Qz,e1,e2]
  subst hR
  refine QF hb ?_
  simp only[go_sem,simprocAttr,Qa,h1,Qz,e1,e2]
  refine QA Qe hb 200 mixed [(0,true),(1,true),(2,true),(3,true),(4,true),(5,true),(8,true),(9,true),(10,true),(11,true),(12,true),(6,false),(7,true),(13,false),(14,true),(15,true),(16,true),(17,false)] (by kernel_rfl) (by kernel_rfl) ?_
  simp only[go_sem,simprocAttr,Qa,h1,Qz,Qw Qz]
  refine Z3 hb xI rfl ?_ (xV (il.set _ nl).toR) rfl fun d hR=>?_
  ·simp only[go_sem,simprocAttr,Qa,h1,Qz,Qw Qz,e3]
  subst hR
  refine QF hb ?_
  simp only[go_sem,simprocAttr,Qa,h1,Qz,Qw Qz,e3]
  refine Z3 hb xI rfl ?_ (xV (ir.set _ nr).toR) rfl fun d hR=>?_
  ·simp only[go_sem,simprocAttr,Qa,h1,Qz,Qw Qz,e4]
  subst hR
  refine QF hb ?_
  simp only[go_sem,simprocAttr,Qa,h1,Qz,Qw Qz,e4]
  refine wi 2 ?_
  refine Qc hb ?_
  simp only[go_sem,simprocAttr,Qa,h1,Qz,Qw Qz,ha,Qt V8,Jt,Qt Vs]
  refine QA Qe hb 200 mixed [(0,true),(1,true),(2,true),(3,true),(4,true),(5,true),(6,true),(7,true),(8,true),(9,false),(10,true),(11,true),(12,false)] (by kernel_rfl) (by kernel_rfl) ?_
  simp only[go_sem,simprocAttr,Qa,h1,Qz,Qw Qz,ha,Qt V8,Jt,Qt Vs]
  refine Zt hb DT rfl ?_ (El it (Tr.node a b c d).least) (Ql.flat rfl) rfl fun d h hR=>?_
  ·simp only[go_sem,simprocAttr,Qa,h1,Qz,Qw Qz,ha,Qt V8,Jt,Qt Vs]
  obtain⟨rfl,rfl⟩:=hR
  refine QF hb ?_
  simp only[go_sem,simprocAttr,Qa,h1,Qz,Qw Qz,ha,Qt V8,Jt,Qt Vs]
  refine Qc hb ?_
  simp only[go_sem,simprocAttr,Qa,h1,Qz,Qw Qz,ha,Qt V8,Jt,Qt Vs]
  refine QA Qe hb 200 mixed [(0,true),(1,true),(2,true),(3,true),(4,true),(5,true),(6,true),(7,true),(8,true),(9,false),(10,true),(11,true),(12,false)] (by kernel_rfl) (by kernel_rfl) ?_
  simp only[go_sem,simprocAttr,Qa,h1,Qz,Qw Qz,ha,Qt V8,Jt,Qt Vs]
  refine Zt hb DT rfl ?_ (El (XR it (Tr.node a b c d).least) (Tr.node a' b' c' d').least) (Ql.flat rfl) rfl fun d h hR=>?_
  ·simp only[go_sem,simprocAttr,Qa,h1,Qz,Qw Qz,ha,Qt V8,Jt,Qt Vs]
  obtain⟨rfl,rfl⟩:=hR
  refine QF hb ?_
  simp only[go_sem,simprocAttr,Qa,h1,Qz,Qw Qz,ha,Qt V8,Jt,Qt Vs]
  refine Qc hb ?_
  simp only[go_sem,simprocAttr,Qa,h1,Qz,Qw Qz,ha,Qt V8,Jt,Qt Vs]
  rfl
theorem SD {h:List Ob} {lx ly:Nat} {ix iy:It} {a b c:Tr} {e e':It} {p p' q q':Int} (hx:h[lx]? = some (xR ix (.ptr ly 0 0 0) c.ptr e p p')) (hy:h[ly]? = some (xR iy a.ptr b.ptr e' q q'))
  (ia:JF h a) (ib:JF h b) (ic:JF h c) (nd:(lx::ly::(a.QB++b.QB++c.QB)).Nodup) (hs:a.size+b.size+c.size<900000) :
  QH prog 287 h [.ptr lx 0 0 0,Qb 0] (fun d h'=>d=.ptr ly 0 0 0∧JF h' (.node ly iy a (.node lx ix b c))∧h'.length=h.length∧∀l,l≠lx→l≠ly→h'[l]? = h[l]?):=by
 have qL:=nd
 simp only[List.nodup_cons,List.mem_cons,List.mem_append,not_or]at qL
 obtain⟨⟨QD,⟨na,nb⟩,nc⟩,⟨⟨ma,mb⟩,mc⟩,_⟩:=qL
 have Wo:ly≠lx:=Ne.symm QD
 rcases b with _|⟨b1,b2,b3,b4⟩
 ·simp only[Tr.Ap,Tr.wh]at hx hy
  refine QX Qe 200 func287 rfl ntmps287 results287 rfl fun base w pl hb=>?_
  have K0:=Qd hx
  have KJ:=Qd hy
  simp only[go_sem,simprocAttr,Qa,hx,K0,hy,KJ]
  refine QA Qe hb 200 mixed [(0,true),(1,true),(2,true),(3,true),(4,true),(5,true),(6,true),(7,true),(8,true),(9,true),(10,true),(11,true),(12,false)] (by kernel_rfl) (by kernel_rfl) ?_
  simp only[go_sem,simprocAttr,Qa,hx,K0,hy,KJ,Qt QD,Qw K0]
  refine QT hb vZ rfl ?_ (wj (loc:=lx) (l:=Tr.nil) (r:=c) (it:=ix) (hi:=p) (n:=p') (le:=e) ⟨?_,?_,?_⟩ ?_ ?_ nb nc) rfl fun d h' hR=>?_
  ·simp only[go_sem,simprocAttr]
  ·rw[Qt Wo,Qw K0];rfl
  ·exact(ib.set _ nb).set _ mb
  ·exact(ic.set _ nc).set _ mc
  ·omega
  ·omega
  subst hR
  refine Qc hb ?_
  simp only[go_sem,simprocAttr,Qa]
  refine QT hb vZ rfl ?_ (wj (loc:=ly) (l:=a) (r:=(.node lx ix Tr.nil c)) (it:=iy) (hi:=q) (n:=q') (le:=e') ⟨?_,?_,?_⟩ ?_ ?_ ?_ ?_) rfl fun d h' hR=>?_
  ·simp only[go_sem,simprocAttr]
  ·rw[Qt QD,Qw (by simpa using KJ)];rfl
  ·exact((ia.set _ na).set _ ma).set _ na
  ·exact⟨Qw (by simpa using K0),((ib.set _ nb).set _ mb).set _ nb,((ic.set _ nc).set _ mc).set _ nc⟩
  ·simp only[Tr.size]at *;omega
  ·simp only[Tr.size]at *;omega
  ·exact ma
  ·intro hm;rcases List.mem_cons.1 hm with hm|hm;exact Wo hm;rcases List.mem_append.1 hm with hm|hm;exact mb hm;exact mc hm
  subst hR
  refine Qc hb ?_
  simp only[go_sem,simprocAttr,Qa]
  exact⟨⟨Qw (by simpa using KJ),(((ia.set _ na).set _ ma).set _ na).set _ ma,⟨by rw[Qt Wo,Qw (by simpa using K0)];rfl,(((ib.set _ nb).set _ mb).set _ nb).set _ mb,(((ic.set _ nc).set _ mc).set _ nc).set _ mc⟩⟩,fun l k1 k2=>by rw[Qt (Ne.symm k2),Qt (Ne.symm k1),Qt (Ne.symm k2),Qt (Ne.symm k1)]⟩
 ·simp only[Tr.Ap,Tr.wh]at hx hy
  refine QX Qe 200 func287 rfl ntmps287 results287 rfl fun base w pl hb=>?_
  have K0:=Qd hx
  have KJ:=Qd hy
  simp only[go_sem,simprocAttr,Qa,hx,K0,hy,KJ]
  refine QA Qe hb 200 mixed [(0,true),(1,true),(2,true),(3,true),(4,true),(5,true),(6,true),(7,true),(8,true),(9,true),(10,true),(11,true),(12,false)] (by kernel_rfl) (by kernel_rfl) ?_
  simp only[go_sem,simprocAttr,Qa,hx,K0,hy,KJ,Qt QD,Qw K0]
  refine QT hb vZ rfl ?_ (wj (loc:=lx) (l:=(Tr.node b1 b2 b3 b4)) (r:=c) (it:=ix) (hi:=p) (n:=p') (le:=e) ⟨?_,?_,?_⟩ ?_ ?_ nb nc) rfl fun d h' hR=>?_
  ·simp only[go_sem,simprocAttr]
  ·rw[Qt Wo,Qw K0];rfl
  ·exact(ib.set _ nb).set _ mb
  ·exact(ic.set _ nc).set _ mc
  ·omega
  ·omega
  subst hR
  refine Qc hb ?_
  simp only[go_sem,simprocAttr,Qa]
  refine QT hb vZ rfl ?_ (wj (loc:=ly) (l:=a) (r:=(.node lx ix (Tr.node b1 b2 b3 b4) c)) (it:=iy) (hi:=q) (n:=q') (le:=e') ⟨?_,?_,?_⟩ ?_ ?_ ?_ ?_) rfl fun d h' hR=>?_
  ·simp only[go_sem,simprocAttr]
  ·rw[Qt QD,Qw (by simpa using KJ)];rfl
  ·exact((ia.set _ na).set _ ma).set _ na
  ·exact⟨Qw (by simpa using K0),((ib.set _ nb).set _ mb).set _ nb,((ic.set _ nc).set _ mc).set _ nc⟩
  ·simp only[Tr.size]at *;omega
  ·simp only[Tr.size]at *;omega
  ·exact ma
  ·intro hm;rcases List.mem_cons.1 hm with hm|hm;exact Wo hm;rcases List.mem_append.1 hm with hm|hm;exact mb hm;exact mc hm
  subst hR
  refine Qc hb ?_
  simp only[go_sem,simprocAttr,Qa]
  exact⟨⟨Qw (by simpa using KJ),(((ia.set _ na).set _ ma).set _ na).set _ ma,⟨by rw[Qt Wo,Qw (by simpa using K0)];rfl,(((ib.set _ nb).set _ mb).set _ nb).set _ mb,(((ic.set _ nc).set _ mc).set _ nc).set _ mc⟩⟩,fun l k1 k2=>by rw[Qt (Ne.symm k2),Qt (Ne.symm k1),Qt (Ne.symm k2),Qt (Ne.symm k1)]⟩
theorem SE {h:List Ob} {lx ly:Nat} {ix iy:It} {a b c:Tr} {e e':It} {p p' q q':Int} (hx:h[lx]? = some (xR ix a.ptr (.ptr ly 0 0 0) e p p')) (hy:h[ly]? = some (xR iy b.ptr c.ptr e' q q'))
  (ia:JF h a) (ib:JF h b) (ic:JF h c) (nd:(lx::ly::(a.QB++b.QB++c.QB)).Nodup) (hs:a.size+b.size+c.size<900000) :
  QH prog 287 h [.ptr lx 0 0 0,Qb 1] (fun d h'=>d=.ptr ly 0 0 0∧JF h' (.node ly iy (.node lx ix a b) c)∧h'.length=h.length∧∀l,l≠lx→l≠ly→h'[l]? = h[l]?):=by
 have qL:=nd
 simp only[List.nodup_cons,List.mem_cons,List.mem_append,not_or]at qL
 obtain⟨⟨QD,⟨na,nb⟩,nc⟩,⟨⟨ma,mb⟩,mc⟩,_⟩:=qL
 have Wo:ly≠lx:=Ne.symm QD
 rcases b with _|⟨b1,b2,b3,b4⟩
 ·simp only[Tr.Ap,Tr.wh]at hx hy
  refine QX Qe 200 func287 rfl ntmps287 results287 rfl fun base w pl hb=>?_
  have K0:=Qd hx
  have KJ:=Qd hy
  simp only[go_sem,simprocAttr,Qa,hx,K0,hy,KJ]
  refine QA Qe hb 200 mixed [(0,true),(1,true),(2,true),(3,true),(4,true),(5,true),(6,true),(7,true),(8,true),(9,true),(10,true),(11,true),(12,false)] (by kernel_rfl) (by kernel_rfl) ?_
  simp only[go_sem,simprocAttr,Qa,hx,K0,hy,KJ,Qt QD,Qw K0]
  refine QT hb vZ rfl ?_ (wj (loc:=lx) (l:=a) (r:=Tr.nil) (it:=ix) (hi:=p) (n:=p') (le:=e) ⟨?_,?_,?_⟩ ?_ ?_ na nb) rfl fun d h' hR=>?_
  ·simp only[go_sem,simprocAttr]
  ·rw[Qt Wo,Qw K0];rfl
  ·exact(ia.set _ na).set _ ma
  ·exact(ib.set _ nb).set _ mb
  ·omega
  ·omega
  subst hR
  refine Qc hb ?_
  simp only[go_sem,simprocAttr,Qa]
  refine QT hb vZ rfl ?_ (wj (loc:=ly) (l:=(.node lx ix a Tr.nil)) (r:=c) (it:=iy) (hi:=q) (n:=q') (le:=e') ⟨?_,?_,?_⟩ ?_ ?_ ?_ ?_) rfl fun d h' hR=>?_
  ·simp only[go_sem,simprocAttr]
  ·rw[Qt QD,Qw (by simpa using KJ)];rfl
  ·exact⟨Qw (by simpa using K0),((ia.set _ na).set _ ma).set _ na,((ib.set _ nb).set _ mb).set _ nb⟩
  ·exact((ic.set _ nc).set _ mc).set _ nc
  ·simp only[Tr.size]at *;omega
  ·simp only[Tr.size]at *;omega
  ·intro hm;rcases List.mem_cons.1 hm with hm|hm;exact Wo hm;rcases List.mem_append.1 hm with hm|hm;exact ma hm;exact mb hm
  ·exact mc
  subst hR
  refine Qc hb ?_
  simp only[go_sem,simprocAttr,Qa]
  exact⟨⟨Qw (by simpa using KJ),⟨by rw[Qt Wo,Qw (by simpa using K0)];rfl,(((ia.set _ na).set _ ma).set _ na).set _ ma,(((ib.set _ nb).set _ mb).set _ nb).set _ mb⟩,(((ic.set _ nc).set _ mc).set _ nc).set _ mc⟩,fun l k1 k2=>by rw[Qt (Ne.symm k2),Qt (Ne.symm k1),Qt (Ne.symm k2),Qt (Ne.symm k1)]⟩
 ·simp only[Tr.Ap,Tr.wh]at hx hy
  refine QX Qe 200 func287 rfl ntmps287 results287 rfl fun base w pl hb=>?_
  have K0:=Qd hx
  have KJ:=Qd hy
  simp only[go_sem,simprocAttr,Qa,hx,K0,hy,KJ]
  refine QA Qe hb 200 mixed [(0,true),(1,true),(2,true),(3,true),(4,true),(5,true),(6,true),(7,true),(8,true),(9,true),(10,true),(11,true),(12,false)] (by kernel_rfl) (by kernel_rfl) ?_
  simp only[go_sem,simprocAttr,Qa,hx,K0,hy,KJ,Qt QD,Qw K0]
  refine QT hb vZ rfl ?_ (wj (loc:=lx) (l:=a) (r:=(Tr.node b1 b2 b3 b4)) (it:=ix) (hi:=p) (n:=p') (le:=e) ⟨?_,?_,?_⟩ ?_ ?_ na nb) rfl fun d h' hR=>?_
  ·simp only[go_sem,simprocAttr]
  ·rw[Qt Wo,Qw K0];rfl
  ·exact(ia.set _ na).set _ ma
  ·exact(ib.set _ nb).set _ mb
  ·omega
  ·omega
  subst hR
  refine Qc hb ?_
  simp only[go_sem,simprocAttr,Qa]
  refine QT hb vZ rfl ?_ (wj (loc:=ly) (l:=(.node lx ix a (Tr.node b1 b2 b3 b4))) (r:=c) (it:=iy) (hi:=q) (n:=q') (le:=e') ⟨?_,?_,?_⟩ ?_ ?_ ?_ ?_) rfl fun d h' hR=>?_
  ·simp only[go_sem,simprocAttr]
  ·rw[Qt QD,Qw (by simpa using KJ)];rfl
  ·exact⟨Qw (by simpa using K0),((ia.set _ na).set _ ma).set _ na,((ib.set _ nb).set _ mb).set _ nb⟩
  ·exact((ic.set _ nc).set _ mc).set _ nc
  ·simp only[Tr.size]at *;omega
  ·simp only[Tr.size]at *;omega
  ·intro hm;rcases List.mem_cons.1 hm with hm|hm;exact Wo hm;rcases List.mem_append.1 hm with hm|hm;exact ma hm;exact mb hm
  ·exact mc
  subst hR
  refine Qc hb ?_
  simp only[go_sem,simprocAttr,Qa]
  exact⟨⟨Qw (by simpa using KJ),⟨by rw[Qt Wo,Qw (by simpa using K0)];rfl,(((ia.set _ na).set _ ma).set _ na).set _ ma,(((ib.set _ nb).set _ mb).set _ nb).set _ mb⟩,(((ic.set _ nc).set _ mc).set _ nc).set _ mc⟩,fun l k1 k2=>by rw[Qt (Ne.symm k2),Qt (Ne.symm k1),Qt (Ne.symm k2),Qt (Ne.symm k1)]⟩
end Go.Fg.X
namespace Go.Fg
section
variable {P:Program} {base nt:Nat} {w0:Start}
theorem WD (QJ:base≤w0.w.heap.size) {K:St→Prop} {dst:Option Nat} {ty:TypeId} {after:Array Edge} {gd:Option (Nat × Bool)} {r:List (Bool × Oper × G)} {s:St} {x:Operand} {args:Array Operand} {ZY:Array TypeId} {f:FuncId} {nf:Nat} {QC:List D} (hf:Qp P f)
  (hx:Kb (Qq s.fr x)=some (f,nf,QC)) {cs:List D} (he:Xo (Z8 nf QC (args.toList.map (Qq s.fr))) cs) {R:D→List Ob→Prop} (hF:QH P f s.h cs R)
  (ht:Zo nt dst=true) (hk:∀d h,R d h→AX P base nt w0 K r ⟨Ze s.fr dst d,h⟩) :
  AX P base nt w0 K ((false, ⟨dst, .call ⟨.value x, args, ZY⟩, ty, "!", after, gd⟩, none) :: r) s := by
 simp only[AX,K8,W4]
 intro Z z pl a w rr b
 exact Oper.wp_mono (fun a' w' ⟨d,h,Qi,hR,r',b',T,v,e⟩=>⟨fun hc=>absurd hc (by simp [xv]),_,_,Qi,v,hk d h hR,r',b',T,e⟩) (eT QJ hf rfl hx (hF.args he) ht pl a w rr b _)
end
end Go.Fg
namespace Go.Fg.X
open Go.Proofs Go.Fg
open Go.Proofs.Tryz
theorem SF {h:List Ob} {loc:Nat} {it:It} {l r:Tr} {le:It} {hi n:Int} (i:Raw h loc it l r le hi n) (nd:(loc::(l.QB++r.QB)).Nodup) (hs:l.size+r.size<800000) :
  QH prog 263 h [.ptr loc 0 0 0] (fun d h'=>∃t',d=t'.ptr∧XS h (.node loc it l r) (l.list++it::r.list) h' t'):=by
 have qL:=nd
 simp only[List.nodup_cons,List.mem_append,not_or]at qL
 obtain⟨⟨nl,nr⟩,nd3⟩:=qL
 have hl:=l.Eg
 have hr:=r.Eg
 have el:IntKind.i64.wrap ((l.high:Int)+1)=((l.high+1:Nat):Int):=by rw[wrap64 (by omega) (by omega)];omega
 have er:IntKind.i64.wrap ((r.high:Int)+1)=((r.high+1:Nat):Int):=by rw[wrap64 (by omega) (by omega)];omega
 have h1:=i.o
 refine QX Qe 200 func263 rfl ntmps263 results263 rfl fun base w pl hb=>?_
 have Qz:=Qd h1
 simp only[go_sem,simprocAttr,Qa,h1,Qz]
 refine QT hb vZ rfl ?_ (wj (loc:=loc) i (by omega) (by omega) nl nr) rfl fun d h2 hR=>?_
 ·simp only[go_sem,simprocAttr]
 have hlen:h2.length=h.length:=by rw[hR];simp
 have t2:JF h2 (.node loc it l r):=by
  rw[hR]
  exact⟨Qw Qz,i.il.set _ nl,i.ir.set _ nr⟩
 have k2:∀k,k≠loc→h2[k]? = h[k]? := fun k hk=>by rw[hR,Qt (Ne.symm hk)]
 clear hR
 have u2:XS h (.node loc it l r) (Tr.node loc it l r).list h2 (.node loc it l r):=⟨t2,rfl,nd,fun _ h=>.inl h,fun k _ hn=>k2 k fun e=>hn (by rw[e];simp [Tr.QB]),by omega⟩
 have h3:=t2.1
 have ZF:=Qd h3
 refine Qc hb ?_
 simp only[go_sem,simprocAttr,Qa,h3,ZF]
 refine wi 2 ?_
 refine Qc hb ?_
 simp only[go_sem,simprocAttr,Qa,h3,ZF]
 refine QA Qe hb 200 mixed [(0,true),(2,true),(3,true),(4,true),(5,true),(6,true),(7,true),(8,true),(1,false),(9,false),(10,true),(11,true)] (by kernel_rfl) (by kernel_rfl) ?_
 simp only[go_sem,simprocAttr,Qa,h3,ZF]
 refine Z3 hb Yl rfl ?_ (Yq t2.2.1.toR) rfl fun d hR=>?_
 ·simp only[go_sem,simprocAttr,Qa,h3,ZF]
 subst hR
 refine QF hb ?_
 simp only[go_sem,simprocAttr,Qa,h3,ZF]
 refine Z3 hb Yl rfl ?_ (Yq t2.2.2.toR) rfl fun d hR=>?_
 ·simp only[go_sem,simprocAttr,Qa,h3,ZF,er]
 subst hR
 refine QF hb ?_
 simp only[go_sem,simprocAttr,Qa,h3,ZF,er]
 by_cases c0:l.high≤r.high+1
 ·have d0:=decide_eq_true c0
  simp only[go_sem,simprocAttr,Qa,d0]
  refine Qc hb ?_
  simp only[go_sem,simprocAttr,Qa,h3,ZF]
  refine QA Qe hb 200 mixed [(0,true),(2,true),(3,true),(4,true),(5,true),(6,true),(7,true),(8,true),(1,false),(9,false),(10,true),(11,true)] (by kernel_rfl) (by kernel_rfl) ?_
  simp only[go_sem,simprocAttr,Qa,h3,ZF]
  refine Z3 hb Yl rfl ?_ (Yq t2.2.2.toR) rfl fun d hR=>?_
  ·simp only[go_sem,simprocAttr,Qa,h3,ZF]
  subst hR
  refine QF hb ?_
  simp only[go_sem,simprocAttr,Qa,h3,ZF]
  refine Z3 hb Yl rfl ?_ (Yq t2.2.1.toR) rfl fun d hR=>?_
  ·simp only[go_sem,simprocAttr,Qa,h3,ZF,el]
  subst hR
  refine QF hb ?_
  simp only[go_sem,simprocAttr,Qa,h3,ZF,el]
  by_cases c1:r.high≤l.high+1
  ·have d1:=decide_eq_true c1
   simp only[go_sem,simprocAttr,Qa,d1]
   refine Qc hb ?_
   simp only[go_sem,simprocAttr,Qa,h3,ZF]
   refine Qc hb ?_
   simp only[go_sem,simprocAttr]
   exact⟨.node loc it l r,rfl,u2⟩
  ·have d1:=decide_eq_false c1
   simp only[go_sem,simprocAttr,Qa,d1]
   cases r with
   | nil=>exact absurd (Nat.zero_le _) c1
   | node ly iy b a=>
    have ZC:=hs
    simp only[Tr.size]at ZC
    have h4:=t2.2.2.1
    have zE:=Qd h4
    have QD:loc≠ly:=by rintro rfl;simp [Tr.QB,List.nodup_cons,List.nodup_append,List.mem_cons,List.mem_append]at nd
    refine QA Qe hb 200 mixed [(0,true),(1,true),(2,true),(3,true),(4,true),(5,true),(6,true),(8,true),(9,true),(10,true),(11,true),(12,true),(13,true),(7,false),(14,false),(15,true)] (by kernel_rfl) (by kernel_rfl) ?_
    simp only[go_sem,simprocAttr,Qa,h3,ZF,h4,zE]
    refine Z3 hb Yl rfl ?_ (Yq t2.2.2.2.1.toR) rfl fun d hR=>?_
    ·simp only[go_sem,simprocAttr,Qa,h3,ZF,h4,zE]
    subst hR
    refine QF hb ?_
    simp only[go_sem,simprocAttr,Qa,h3,ZF,h4,zE]
    refine Z3 hb Yl rfl ?_ (Yq t2.2.2.2.2.toR) rfl fun d hR=>?_
    ·simp only[go_sem,simprocAttr,Qa,h3,ZF,h4,zE]
    subst hR
    refine QF hb ?_
    simp only[go_sem,simprocAttr,Qa,h3,ZF,h4,zE]
    by_cases c2:a.high<b.high
    ·have d2:=decide_eq_true c2
     simp only[go_sem,simprocAttr,Qa,d2]
     cases b with
     | nil=>exact absurd c2 (Nat.not_lt_zero _)
     | node lb ib b1 b2=>
      simp only[Tr.wh]at h4
      simp only[Tr.size]at ZC
      have h5:=t2.2.2.2.1.1
      have QkM:=Qd h5
      have Va:loc≠lb:=by rintro rfl;simp [Tr.QB,List.nodup_cons,List.nodup_append,List.mem_cons,List.mem_append]at nd
      have Au:ly≠lb:=by rintro rfl;simp [Tr.QB,List.nodup_cons,List.nodup_append,List.mem_cons,List.mem_append]at nd
      refine Wj [5] Qe hb 200 mixed [(0,true),(1,true),(2,true),(3,true),(4,true),(6,true),(7,true),(5,false),(8,true),(9,false)] [] (by kernel_rfl) (by kernel_rfl) ?_
      simp only[go_sem,simprocAttr,Qa,h3,ZF]
      refine WD hb DW rfl ?_ (SD (lx:=ly) (ly:=lb) (a:=b1) (b:=b2) (c:=a) h4 h5 t2.2.2.2.1.2.1 t2.2.2.2.1.2.2 t2.2.2.2.2 (by simp only[Tr.QB,List.nodup_cons,List.nodup_append,List.mem_cons,List.mem_append]at nd ⊢;grind) (by omega)) rfl fun d h6 hR=>?_
      ·simp only[go_sem,simprocAttr]
      obtain⟨rfl,t4,l4,k4⟩:=hR
      have h7:h6[loc]? = _:=(k4 loc QD Va).trans h3
      have qM:=Qd h7
      refine QF hb ?_
      simp only[go_sem,simprocAttr,Qa,h7,qM]
      have tr:JF h6 l:=t2.2.1.frame fun k hk=>k4 k (by rintro rfl;simp only[Tr.QB,List.nodup_cons,List.nodup_append,List.mem_cons,List.mem_append]at nd;grind) (by rintro rfl;simp only[Tr.QB,List.nodup_cons,List.nodup_append,List.mem_cons,List.mem_append]at nd;grind)
      refine Qc hb ?_
      simp only[go_sem,simprocAttr]
      refine QT hb DW rfl ?_ (SE (lx:=loc) (ly:=lb) (a:=l) (b:=b1) (c:=.node ly iy b2 a) (Qw qM) ((Qt Va).trans t4.1) (tr.set _ nl) (t4.2.1.set _ (by simp only[Tr.QB,List.nodup_cons,List.nodup_append,List.mem_cons,List.mem_append]at nd ⊢;grind)) (t4.2.2.set _ (by simp only[Tr.QB,List.nodup_cons,List.nodup_append,List.mem_cons,List.mem_append]at nd ⊢;grind)) (by simp only[Tr.QB,List.nodup_cons,List.nodup_append,List.mem_cons,List.mem_append]at nd ⊢;grind) (by simp only[Tr.size];omega)) rfl fun d h8 hR=>?_
      ·simp only[go_sem,simprocAttr]
      obtain⟨rfl,t8,l8,k8⟩:=hR
      refine Qc hb ?_
      simp only[go_sem,simprocAttr]
      refine⟨(.node lb ib (.node loc it l b1) (.node ly iy b2 a)),rfl,u2.trans ⟨t8,by simp [Tr.list],by simp only[Tr.QB,List.nodup_cons,List.nodup_append,List.mem_cons,List.mem_append]at nd ⊢;grind,fun k hk=>.inl (by simp only[Tr.QB,List.mem_cons,List.mem_append]at hk ⊢;grind),fun k _ hk=>?_,by rw[l8,List.length_set,l4];exact Nat.le_refl _⟩⟩
      simp only[Tr.QB,List.mem_cons,List.mem_append,not_or]at hk
      rw[k8 k (by grind) (by grind),Qt (by grind),k4 k (by grind) (by grind)]
    ·have d2:=decide_eq_false c2
     simp only[go_sem,simprocAttr,Qa,d2]
     refine Qc hb ?_
     simp only[go_sem,simprocAttr]
     refine QT hb DW rfl ?_ (SE (lx:=loc) (ly:=ly) (a:=l) (b:=b) (c:=a) h3 h4 t2.2.1 t2.2.2.2.1 t2.2.2.2.2 (by simp only[Tr.QB,List.nodup_cons,List.nodup_append,List.mem_cons,List.mem_append]at nd ⊢;grind) (by omega)) rfl fun d h8 hR=>?_
     ·simp only[go_sem,simprocAttr]
     obtain⟨rfl,t8,l8,k8⟩:=hR
     refine Qc hb ?_
     simp only[go_sem,simprocAttr]
     refine⟨(.node ly iy (.node loc it l b) a),rfl,u2.trans ⟨t8,by simp [Tr.list],by simp only[Tr.QB,List.nodup_cons,List.nodup_append,List.mem_cons,List.mem_append]at nd ⊢;grind,fun k hk=>.inl (by simp only[Tr.QB,List.mem_cons,List.mem_append]at hk ⊢;grind),fun k _ hk=>?_,by rw[l8];exact Nat.le_refl _⟩⟩
     simp only[Tr.QB,List.mem_cons,List.mem_append,not_or]at hk
     exact k8 k (by grind) (by grind)
 ·have d0:=decide_eq_false c0
  simp only[go_sem,simprocAttr,Qa,d0]
  cases l with
  | nil=>exact absurd (Nat.zero_le _) c0
  | node ly iy a b=>
   have ZC:=hs
   simp only[Tr.size]at ZC
   have h4:=t2.2.1.1
   have zE:=Qd h4
   have QD:loc≠ly:=by rintro rfl;simp [Tr.QB,List.nodup_cons,List.nodup_append,List.mem_cons,List.mem_append]at nd
   refine QA Qe hb 200 mixed [(0,true),(1,true),(2,true),(3,true),(4,true),(5,true),(6,true),(8,true),(9,true),(10,true),(11,true),(12,true),(13,true),(7,false),(14,false),(15,true)] (by kernel_rfl) (by kernel_rfl) ?_
   simp only[go_sem,simprocAttr,Qa,h3,ZF,h4,zE]
   refine Z3 hb Yl rfl ?_ (Yq t2.2.1.2.2.toR) rfl fun d hR=>?_
   ·simp only[go_sem,simprocAttr,Qa,h3,ZF,h4,zE]
   subst hR
   refine QF hb ?_
   simp only[go_sem,simprocAttr,Qa,h3,ZF,h4,zE]
   refine Z3 hb Yl rfl ?_ (Yq t2.2.1.2.1.toR) rfl fun d hR=>?_
   ·simp only[go_sem,simprocAttr,Qa,h3,ZF,h4,zE]
   subst hR
   refine QF hb ?_
   simp only[go_sem,simprocAttr,Qa,h3,ZF,h4,zE]
   by_cases c2:a.high<b.high
   ·have d2:=decide_eq_true c2
    simp only[go_sem,simprocAttr,Qa,d2]
    cases b with
    | nil=>exact absurd c2 (Nat.not_lt_zero _)
    | node lb ib b1 b2=>
     simp only[Tr.wh]at h4
     simp only[Tr.size]at ZC
     have h5:=t2.2.1.2.2.1
     have QkM:=Qd h5
     have Va:loc≠lb:=by rintro rfl;simp [Tr.QB,List.nodup_cons,List.nodup_append,List.mem_cons,List.mem_append]at nd
     have Au:ly≠lb:=by rintro rfl;simp [Tr.QB,List.nodup_cons,List.nodup_append,List.mem_cons,List.mem_append]at nd
     refine Wj [5] Qe hb 200 mixed [(0,true),(1,true),(2,true),(3,true),(4,true),(6,true),(7,true),(5,false),(8,true),(9,false)] [] (by kernel_rfl) (by kernel_rfl) ?_
     simp only[go_sem,simprocAttr,Qa,h3,ZF]
     refine WD hb DW rfl ?_ (SE (lx:=ly) (ly:=lb) (a:=a) (b:=b1) (c:=b2) h4 h5 t2.2.1.2.1 t2.2.1.2.2.2.1 t2.2.1.2.2.2.2 (by simp only[Tr.QB,List.nodup_cons,List.nodup_append,List.mem_cons,List.mem_append]at nd ⊢;grind) (by omega)) rfl fun d h6 hR=>?_
     ·simp only[go_sem,simprocAttr]
     obtain⟨rfl,t4,l4,k4⟩:=hR
     have h7:h6[loc]? = _:=(k4 loc QD Va).trans h3
     have qM:=Qd h7
     refine QF hb ?_
     simp only[go_sem,simprocAttr,Qa,h7,qM]
     have tr:JF h6 r:=t2.2.2.frame fun k hk=>k4 k (by rintro rfl;simp only[Tr.QB,List.nodup_cons,List.nodup_append,List.mem_cons,List.mem_append]at nd;grind) (by rintro rfl;simp only[Tr.QB,List.nodup_cons,List.nodup_append,List.mem_cons,List.mem_append]at nd;grind)
     refine Qc hb ?_
     simp only[go_sem,simprocAttr]
     refine QT hb DW rfl ?_ (SD (lx:=loc) (ly:=lb) (a:=.node ly iy a b1) (b:=b2) (c:=r) (Qw qM) ((Qt Va).trans t4.1) (t4.2.1.set _ (by simp only[Tr.QB,List.nodup_cons,List.nodup_append,List.mem_cons,List.mem_append]at nd ⊢;grind)) (t4.2.2.set _ (by simp only[Tr.QB,List.nodup_cons,List.nodup_append,List.mem_cons,List.mem_append]at nd ⊢;grind)) (tr.set _ nr) (by simp only[Tr.QB,List.nodup_cons,List.nodup_append,List.mem_cons,List.mem_append]at nd ⊢;grind) (by simp only[Tr.size];omega)) rfl fun d h8 hR=>?_
     ·simp only[go_sem,simprocAttr]
     obtain⟨rfl,t8,l8,k8⟩:=hR
     refine Qc hb ?_
     simp only[go_sem,simprocAttr]
     refine⟨(.node lb ib (.node ly iy a b1) (.node loc it b2 r)),rfl,u2.trans ⟨t8,by simp [Tr.list],by simp only[Tr.QB,List.nodup_cons,List.nodup_append,List.mem_cons,List.mem_append]at nd ⊢;grind,fun k hk=>.inl (by simp only[Tr.QB,List.mem_cons,List.mem_append]at hk ⊢;grind),fun k _ hk=>?_,by rw[l8,List.length_set,l4];exact Nat.le_refl _⟩⟩
     simp only[Tr.QB,List.mem_cons,List.mem_append,not_or]at hk
     rw[k8 k (by grind) (by grind),Qt (by grind),k4 k (by grind) (by grind)]
   ·have d2:=decide_eq_false c2
    simp only[go_sem,simprocAttr,Qa,d2]
    refine Qc hb ?_
    simp only[go_sem,simprocAttr]
    refine QT hb DW rfl ?_ (SD (lx:=loc) (ly:=ly) (a:=a) (b:=b) (c:=r) h3 h4 t2.2.1.2.1 t2.2.1.2.2 t2.2.2 (by simp only[Tr.QB,List.nodup_cons,List.nodup_append,List.mem_cons,List.mem_append]at nd ⊢;grind) (by omega)) rfl fun d h8 hR=>?_
    ·simp only[go_sem,simprocAttr]
    obtain⟨rfl,t8,l8,k8⟩:=hR
    refine Qc hb ?_
    simp only[go_sem,simprocAttr]
    refine⟨(.node ly iy a (.node loc it b r)),rfl,u2.trans ⟨t8,by simp [Tr.list],by simp only[Tr.QB,List.nodup_cons,List.nodup_append,List.mem_cons,List.mem_append]at nd ⊢;grind,fun k hk=>.inl (by simp only[Tr.QB,List.mem_cons,List.mem_append]at hk ⊢;grind),fun k _ hk=>?_,by rw[l8];exact Nat.le_refl _⟩⟩
    simp only[Tr.QB,List.mem_cons,List.mem_append,not_or]at hk
    exact k8 k (by grind) (by grind)
theorem G1 (d:D):Vt d d=True:=by cases d<;>simp [Vt]
theorem SG:∀l:List D,Xo l l
 | []=>trivial
 | d::r=>⟨(G1 d).mpr trivial,SG r⟩
theorem pT {h:List Ob} {loc:Nat} {it:It} {l r:Tr} (i:Xs h (.node loc it l r)) (a:Nat) (k:Int):QP prog 262 h [.ptr loc 0 0 0,.agg [u64 a,Qb k]] (fun d=>d=Qb (if Z7 it.ka it.ki a k then 1 else 0)):=by
 have h2:=i.1
 have c1:=SB a k it.ka it.ki
 have e1:(0<W7 a k it.ka it.ki)↔Z7 it.ka it.ki a k:=Qku
 generalize W7 a k it.ka it.ki=p at *
 refine Zi Qe 200 func262 rfl ntmps262 results262 rfl fun base w pl F hF QS hb=>?_
 rw[← hF]at h2
 have Jn:=Qd h2
 simp only[go_sem,simprocAttr,Qa,h2,Jn]
 refine QA Qe hb 200 mixed [(0,true),(1,true),(2,true),(3,true),(4,true),(5,true),(6,false),(7,true)] (by kernel_rfl) (by kernel_rfl) ?_
 simp only[go_sem,simprocAttr,Qa,h2,Jn]
 refine Zt hb RM rfl ?_ c1 (Ql.flat rfl) rfl fun d h hR=>?_
 ·simp only[go_sem,simprocAttr]
 obtain⟨rfl,rfl⟩:=hR
 refine QF hb ?_
 simp only[go_sem,simprocAttr]
 by_cases hp:0<p
 ·have d1:=decide_eq_true hp
  simp only[go_sem,simprocAttr,Qa,d1]
  rw[if_pos (e1.1 hp)]
  exact⟨_,rfl,rfl⟩
 ·have d1:=decide_eq_false hp
  simp only[go_sem,simprocAttr,Qa,d1]
  rw[if_neg (fun h=>hp (e1.2 h))]
  exact⟨_,rfl,rfl⟩
structure SH (dv:D) (f nf:Nat) (QC:List D) (B:List (Nat × Ob)) (a:Nat) (k:Int) (fL:Tr→List It) (N:Nat) (Nl:Prop):Prop where
 pU:Qp prog f
 pV:Kb dv=some (f,nf,QC)
 len:∀s,(fL s).length≤s.size+1
 run:∀(h:List Ob) (s:Tr),JF h s→s.QB.Nodup→s.size≤N→JG s.list→(s=.nil→Nl)→(∀loc it l r,s=.node loc it l r→it.ka=a∧it.ki=k)→(∀p∈B,h[p.1]? = some p.2∧p.1 ∉ s.QB) →
  QH prog f h (Z8 nf QC [s.ptr]) (fun d h'=>∃s',d=s'.ptr∧XS h s (fL s) h' s')
theorem SI {a:Nat} {k:Int} {fL:Tr→List It} (hf:∀s,(fL s).length≤s.size+1):∀t:Tr,(t.kV a k fL).length≤t.size+1
 | .nil=>hf _
 | .node loc it l r=>by
  have h1:=SI (a:=a) (k:=k) hf l
  have h2:=SI (a:=a) (k:=k) hf r
  have h3:=hf (.node loc it l r)
  have h4:=Tr.kR l
  have h5:=Tr.kR r
  rw[Tr.kV]
  split
  ·exact h3
  ·split
   ·simp only[List.length_append,List.length_cons,Tr.size]at *;omega
   ·simp only[List.length_append,List.length_cons,Tr.size]at *;omega
theorem JF.app {h:List Ob} {t:Tr} (i:JF h t) (g:List Ob):JF (h++g) t:=i.frame fun l hl=>QU (i.lt l hl)
theorem XS.under {h g h':List Ob} {t t':Tr} {L:List It} (u:XS (h++g) t L h' t'):XS h t L h' t':=
 ⟨u.is,u.list,u.nd,fun l hl=>by
  rcases u.mem l hl with h1|h1
  ·exact .inl h1
  ·exact .inr (by simp only[List.length_append]at h1;omega),fun l hl hn=>by rw[u.keep l (by simp only[List.length_append];omega) hn,QU hl],by have:=u.len;simp only[List.length_append]at this;omega⟩
theorem G2 {dv:D} {f nf:Nat} {QC:List D} {B:List (Nat × Ob)} {a:Nat} {k:Int} {fL:Tr→List It} {N:Nat} {Nl:Prop} (O:SH dv f nf QC B a k fL N Nl) (hN:N<700000) :
  ∀(t:Tr) (h:List Ob),JF h t→t.QB.Nodup→t.size≤N→JG t.list→(t.find a k=.nil→Nl)→(∀p∈B,h[p.1]? = some p.2∧p.1 ∉ t.QB) →
   QH prog 213 h [t.ptr,.agg [u64 a,Qb k],dv] (fun d h'=>∃t',d=t'.ptr∧XS h t (t.kV a k fL) h' t')
 | .nil,h,i,nd,hs,JY,Nv,hB=>by
  have hd:=O.run
  have hO:=O.pU
  have hc:=O.pV
  refine QX Qe 200 func213 rfl ntmps213 results213 rfl fun base w pl hb=>?_
  simp only[go_sem,simprocAttr,Qa]
  refine QA Qe hb 200 mixed [(0,true),(1,true),(2,true),(3,true),(4,true),(5,true),(6,true),(7,true),(8,true),(9,true),(10,true)] (by kernel_rfl) (by kernel_rfl) ?_
  simp only[go_sem,simprocAttr,Qa]
  refine QT hb hO hc (SG _) (hd _ .nil trivial (by simp [Tr.QB]) (Nat.zero_le _) JY (fun _=>Nv rfl) (fun _ _ _ _ e=>by cases e) fun p hp=>⟨(QU (Qd (hB p hp).1)).trans (hB p hp).1,(hB p hp).2⟩) rfl fun d h2 hR=>?_
  obtain⟨s',rfl,u⟩:=hR
  refine Qc hb ?_
  simp only[go_sem,simprocAttr]
  exact⟨s',rfl,u.under⟩
 | .node loc it l r,h,i,nd,hs,JY,Nv,hB=>by
  have hd:=O.run
  have hO:=O.pU
  have hc:=O.pV
  have h1:=i.1
  have qL:=nd
  simp only[Tr.QB,List.nodup_cons,List.mem_append,not_or]at qL
  obtain⟨⟨nl,nr⟩,nd3⟩:=qL
  have hlen:=SI (a:=a) (k:=k) O.len
  obtain⟨sl,sr,_,_⟩:=xS.1 (show JG (l.list++it::r.list) from JY)
  refine QX Qe 200 func213 rfl ntmps213 results213 rfl fun base w pl hb=>?_
  have Qz:=Qd h1
  simp only[go_sem,simprocAttr,Qa,h1,Qz]
  refine QA Qe hb 200 mixed [(0,true),(1,true),(2,true),(3,true),(4,true),(5,true),(6,true),(7,true),(8,true),(9,true),(10,true)] (by kernel_rfl) (by kernel_rfl) ?_
  simp only[go_sem,simprocAttr,Qa,h1,Qz]
  by_cases e1:it.ka=a∧it.ki=k
  ·have d1:((it.ka:Int)==(a:Int)&&it.ki==k)=true:=by simp [e1.1,e1.2]
   simp only[go_sem,simprocAttr,Qa,d1,Tr.kV,if_pos e1]
   refine QT hb hO hc (SG _) (hd _ (.node loc it l r) (i.app _) nd hs JY (fun e=>by cases e) (fun _ _ _ _ e=>by cases e;exact e1) fun p hp=>⟨(QU (Qd (hB p hp).1)).trans (hB p hp).1,(hB p hp).2⟩) rfl fun d h2 hR=>?_
   obtain⟨s',rfl,u⟩:=hR
   refine Qc hb ?_
   simp only[go_sem,simprocAttr]
   exact⟨s',rfl,u.under⟩
  have d1:((it.ka:Int)==(a:Int)&&it.ki==k)=false:=by
   rw[Bool.eq_false_iff];intro hh;simp only[Bool.and_eq_true,beq_iff_eq]at hh;exact e1 ⟨by omega,hh.2⟩
  simp only[go_sem,simprocAttr,Qa,d1,Tr.kV,if_neg e1]
  refine QK hb oQ rfl ?_ (pT (i.app _).toR a k) rfl fun d hR=>?_
  ·simp only[go_sem,simprocAttr,Qa,h1,Qz]
  subst hR
  refine Qc hb ?_
  simp only[go_sem,simprocAttr,Qa,h1,Qz]
  by_cases e2:Z7 it.ka it.ki a k
  ·simp only[if_pos e2]
   refine Wj [10] Qe hb 200 mixed [(0,true),(1,true),(2,true),(3,true),(4,true),(5,true),(6,true),(7,true),(8,true),(9,true),(11,true),(12,true),(10,false),(13,true),(14,false)] [] (by kernel_rfl) (by kernel_rfl) ?_
   simp only[go_sem,simprocAttr,Qa,h1,Qz]
   refine WD hb GC rfl ?_ (G2 O hN r _ (i.2.2.app _) (by simp only[Tr.QB,List.nodup_cons,List.nodup_append,List.mem_cons,List.mem_append]at nd ⊢;grind) (by simp only[Tr.size]at hs;omega) sr (fun e=>Nv (by rw[Tr.find,if_neg e1,if_pos e2];exact e)) fun p hp=>⟨(QU (Qd (hB p hp).1)).trans (hB p hp).1,fun hm=>(hB p hp).2 (by simp only[Tr.QB,List.mem_cons,List.mem_append];grind)⟩) rfl fun d h6 hR=>?_
   ·simp only[go_sem,simprocAttr,G1]
   obtain⟨t',rfl,u⟩:=hR
   have u:=u.under
   have h7:h6[loc]? = _:=(u.keep loc Qz (by simp only[Tr.QB,List.nodup_cons,List.nodup_append,List.mem_cons,List.mem_append]at nd ⊢;grind)).trans h1
   have qM:=Qd h7
   have ul:=u.list
   have ZC:=Tr.kR t'
   rw[ul]at ZC
   have Jf:=hlen r
   have nt:loc ∉ t'.QB:=fun hm=>by
    rcases u.mem loc hm with h9|h9
    ·simp only[Tr.QB,List.nodup_cons,List.nodup_append,List.mem_cons,List.mem_append]at nd;grind
    ·omega
   have no:∀k∈l.QB,k ∉ t'.QB:=fun k hk hm=>by
    have G3:=i.2.1.lt k hk
    rcases u.mem k hm with h9|h9
    ·simp only[Tr.QB,List.nodup_cons,List.nodup_append,List.mem_cons,List.mem_append]at nd;grind
    ·omega
   have to:JF h6 l:=i.2.1.frame fun k hk=>u.keep k (i.2.1.lt k hk) (by simp only[Tr.QB,List.nodup_cons,List.nodup_append,List.mem_cons,List.mem_append]at nd ⊢;grind)
   refine QF hb ?_
   simp only[go_sem,simprocAttr,Qa,h7,qM]
   refine Qc hb ?_
   simp only[go_sem,simprocAttr]
   refine QT hb RP rfl ?_ (SF (loc:=loc) (l:=l) (r:=t') ⟨Qw qM,to.set _ nl,u.is.set _ nt⟩ (by
    have a1:=u.nd
    simp only[Tr.QB,List.nodup_cons,List.nodup_append,List.mem_cons,List.mem_append]at nd ⊢
    grind) (by simp only[Tr.size]at hs;omega)) rfl fun d h8 hR=>?_
   ·simp only[go_sem,simprocAttr]
   obtain⟨t'',rfl,v⟩:=hR
   refine Qc hb ?_
   simp only[go_sem,simprocAttr]
   have vl:=v.list
   refine⟨t'',rfl,v.is,by rw[vl,ul],v.nd,fun k hk=>?_,fun k hk hn=>?_,by have q1:=v.len;have q2:=u.len;simp only[List.length_set]at q1;omega⟩
   ·rcases v.mem k hk with h9|h9
    ·have a2:=u.mem k
     simp only[Tr.QB,List.mem_cons,List.mem_append]at h9 ⊢
     grind
    ·have:=u.len;simp only[List.length_set]at h9;exact .inr (by omega)
   ·have a2:=u.mem k
    have a3:=u.len
    rw[v.keep k (by simp only[List.length_set];omega) (fun h9=>by
     simp only[Tr.QB,List.mem_cons,List.mem_append]at h9 hn
     rcases h9 with h9|h9|h9
     ·exact hn (.inl h9)
     ·exact hn (.inr (.inl h9))
     ·rcases a2 h9 with YJ|YJ
      ·exact hn (.inr (.inr YJ))
      ·omega),Qt (fun h9=>hn (by rw[h9];simp [Tr.QB])),u.keep k hk (fun h9=>hn (by simp only[Tr.QB,List.mem_cons,List.mem_append];grind))]
  ·simp only[if_neg e2]
   refine Wj [10] Qe hb 200 mixed [(0,true),(1,true),(2,true),(3,true),(4,true),(5,true),(6,true),(7,true),(8,true),(9,true),(11,true),(12,true),(10,false),(13,true),(14,false)] [] (by kernel_rfl) (by kernel_rfl) ?_
   simp only[go_sem,simprocAttr,Qa,h1,Qz]
   refine WD hb GC rfl ?_ (G2 O hN l _ (i.2.1.app _) (by simp only[Tr.QB,List.nodup_cons,List.nodup_append,List.mem_cons,List.mem_append]at nd ⊢;grind) (by simp only[Tr.size]at hs;omega) sl (fun e=>Nv (by rw[Tr.find,if_neg e1,if_neg e2];exact e)) fun p hp=>⟨(QU (Qd (hB p hp).1)).trans (hB p hp).1,fun hm=>(hB p hp).2 (by simp only[Tr.QB,List.mem_cons,List.mem_append];grind)⟩) rfl fun d h6 hR=>?_
   ·simp only[go_sem,simprocAttr,G1]
   obtain⟨t',rfl,u⟩:=hR
   have u:=u.under
   have h7:h6[loc]? = _:=(u.keep loc Qz (by simp only[Tr.QB,List.nodup_cons,List.nodup_append,List.mem_cons,List.mem_append]at nd ⊢;grind)).trans h1
   have qM:=Qd h7
   have ul:=u.list
   have ZC:=Tr.kR t'
   rw[ul]at ZC
   have Jf:=hlen l
   have nt:loc ∉ t'.QB:=fun hm=>by
    rcases u.mem loc hm with h9|h9
    ·simp only[Tr.QB,List.nodup_cons,List.nodup_append,List.mem_cons,List.mem_append]at nd;grind
    ·omega
   have no:∀k∈r.QB,k ∉ t'.QB:=fun k hk hm=>by
    have G3:=i.2.2.lt k hk
    rcases u.mem k hm with h9|h9
    ·simp only[Tr.QB,List.nodup_cons,List.nodup_append,List.mem_cons,List.mem_append]at nd;grind
    ·omega
   have to:JF h6 r:=i.2.2.frame fun k hk=>u.keep k (i.2.2.lt k hk) (by simp only[Tr.QB,List.nodup_cons,List.nodup_append,List.mem_cons,List.mem_append]at nd ⊢;grind)
   refine QF hb ?_
   simp only[go_sem,simprocAttr,Qa,h7,qM]
   refine Qc hb ?_
   simp only[go_sem,simprocAttr]
   refine QT hb RP rfl ?_ (SF (loc:=loc) (l:=t') (r:=r) ⟨Qw qM,u.is.set _ nt,to.set _ nr⟩ (by
    have a1:=u.nd
    simp only[Tr.QB,List.nodup_cons,List.nodup_append,List.mem_cons,List.mem_append]at nd ⊢
    grind) (by simp only[Tr.size]at hs;omega)) rfl fun d h8 hR=>?_
   ·simp only[go_sem,simprocAttr]
   obtain⟨t'',rfl,v⟩:=hR
   refine Qc hb ?_
   simp only[go_sem,simprocAttr]
   have vl:=v.list
   refine⟨t'',rfl,v.is,by rw[vl,ul],v.nd,fun k hk=>?_,fun k hk hn=>?_,by have q1:=v.len;have q2:=u.len;simp only[List.length_set]at q1;omega⟩
   ·rcases v.mem k hk with h9|h9
    ·have a2:=u.mem k
     simp only[Tr.QB,List.mem_cons,List.mem_append]at h9 ⊢
     grind
    ·have:=u.len;simp only[List.length_set]at h9;exact .inr (by omega)
   ·have a2:=u.mem k
    have a3:=u.len
    rw[v.keep k (by simp only[List.length_set];omega) (fun h9=>by
     simp only[Tr.QB,List.mem_cons,List.mem_append]at h9 hn
     rcases h9 with h9|h9|h9
     ·exact hn (.inl h9)
     ·rcases a2 h9 with YJ|YJ
      ·exact hn (.inr (.inl YJ))
      ·omega
     ·exact hn (.inr (.inr h9))),Qt (fun h9=>hn (by rw[h9];simp [Tr.QB])),u.keep k hk (fun h9=>hn (by simp only[Tr.QB,List.mem_cons,List.mem_append];grind))]
def qN (t:Tr):Ob:=⟨.one,0,1,1,fun _=>[t.ptr]⟩
attribute [go_sem] qN
theorem pW {h:List Ob} {tl:Nat} {t:Tr} (ht:(h.map Ob.ro)[tl]? = some (qN t).ro) (i:Xs h t) (a:Nat) (k:Int) :
  QP prog 212 h [.ptr tl 0 0 0,.agg [u64 a,Qb k]] (fun d=>d=(t.find a k).ptr):=by
 refine Zi Qe 200 func212 rfl ntmps212 results212 rfl fun base w pl F hF QS hb=>?_
 rw[← hF]at ht
 have QY:=Qd ht
 simp only[go_sem,simprocAttr,Qa,ht,QY]
 refine Zv (fun j st=>∃s:Tr,s.size+j≤t.size∧Xs h s∧s.find a k=t.find a k∧st=⟨[(3,.ptr F.length 0 0 0),(5,s.ptr)],F++[⟨.one,0,2,1,fun _=>[u64 a,Qb k]⟩]⟩) t.size (s0:=⟨[(3,.ptr F.length 0 0 0),(5,t.ptr)],F++[⟨.one,0,2,1,fun _=>[u64 a,Qb k]⟩]⟩) ?_ ⟨t,by omega,i,rfl,rfl⟩ ?_
 ·exact Qk.frame (by simp only[go_sem,simprocAttr])
 rintro j _ hj ⟨s,hs,is,hf,rfl⟩
 cases s with
 | nil=>
  refine Qc hb ?_
  simp only[go_sem,simprocAttr,Qa]
  refine QA Qe hb 200 mixed [(0,true),(1,true),(2,true),(3,true),(4,true),(5,true),(6,true),(7,true),(8,true),(9,true),(10,true)] (by kernel_rfl) (by kernel_rfl) ?_
  simp only[go_sem,simprocAttr,Qa,Go.undef]
  refine Qc hb ?_
  simp only[go_sem,simprocAttr]
  exact⟨_,rfl,by rw[← hf];rfl⟩
 | node loc it l r=>
  have h3:=is.1
  rw[← hF]at h3
  have ZF:=Qd h3
  refine Qc hb ?_
  simp only[go_sem,simprocAttr,Qa]
  refine QA Qe hb 200 mixed [(0,true),(1,true),(2,true),(3,true),(4,true),(5,true),(6,true),(7,true),(8,true),(9,true),(10,true)] (by kernel_rfl) (by kernel_rfl) ?_
  simp only[go_sem,simprocAttr,Qa,h3,ZF]
  rw[Tr.find]at hf
  by_cases e1:it.ka=a∧it.ki=k
  ·have d1:((it.ka:Int)==(a:Int)&&it.ki==k)=true:=by simp [e1.1,e1.2]
   rw[if_pos e1]at hf
   simp only[go_sem,simprocAttr,Qa,d1,bne]
   refine Qc hb ?_
   simp only[go_sem,simprocAttr,ZF]
   exact⟨_,rfl,by rw[← hf];rfl⟩
  ·have d1:((it.ka:Int)==(a:Int)&&it.ki==k)=false:=by
    rw[Bool.eq_false_iff];intro hh;simp only[Bool.and_eq_true,beq_iff_eq]at hh;exact e1 ⟨by omega,hh.2⟩
   rw[if_neg e1]at hf
   simp only[go_sem,simprocAttr,Qa,d1,bne]
   refine QA Qe hb 200 mixed [(0,true),(1,true),(2,true),(4,true),(5,true),(3,false),(6,true),(7,true),(8,true)] (by kernel_rfl) (by kernel_rfl) ?_
   simp only[go_sem,simprocAttr,Qa,h3,ZF]
   refine Z3 hb oQ rfl ?_ (pT (is.more (Aq hF)) a k) rfl fun d hR=>?_
   ·simp only[go_sem,simprocAttr,Qa,h3,ZF]
   subst hR
   refine QF hb ?_
   simp only[go_sem,simprocAttr,Qa,h3,ZF]
   have ZC:l.size+j+1≤t.size∧r.size+j+1≤t.size:=by simp only[Tr.size]at hs;omega
   by_cases e2:Z7 it.ka it.ki a k
   ·rw[if_pos e2]at hf
    simp only[go_sem,simprocAttr,Qa,if_pos e2,h3,ZF]
    refine⟨by omega,_,Qk.frame (by simp only[go_sem,simprocAttr]),r,by omega,is.2.2,hf,rfl⟩
   ·rw[if_neg e2]at hf
    simp only[go_sem,simprocAttr,Qa,if_neg e2,h3,ZF]
    refine⟨by omega,_,Qk.frame (by simp only[go_sem,simprocAttr]),l,by omega,is.2.1,hf,rfl⟩
theorem QkN {h:List Ob} {lk lv:Nat} {x:It} (hk:h[lk]? = some ⟨.one,0,2,1,fun _=>[u64 x.ka,Qb x.ki]⟩) (hv:h[lv]? = some ⟨.one,0,2,1,fun _=>[u64 x.va,Qb x.vi]⟩) (s:Tr) :
  QH prog 214 h [s.ptr,.ptr lk 0 0 0,.ptr lv 0 0 0] (fun d h'=>∃s',d=s'.ptr∧XS h s [x] h' s'):=by
 refine QX Qe 200 func214 rfl ntmps214 results214 rfl fun base w pl hb=>?_
 have QkO:=Qd hk
 have QkP:=Qd hv
 simp only[go_sem,simprocAttr,Qa,hk,QkO,hv,QkP]
 refine QT hb vZ rfl ?_ (wj (loc:=h.length) (it:=x) (l:=.nil) (r:=.nil) (le:=⟨0,0,0,0⟩) (hi:=0) (n:=0) ⟨Kc rfl,trivial,trivial⟩ (by simp [Tr.size]) (by simp [Tr.size]) (by simp [Tr.QB]) (by simp [Tr.QB])) rfl fun d h2 hR=>?_
 ·simp only[go_sem,simprocAttr]
 refine Qc hb ?_
 simp only[go_sem,simprocAttr]
 refine⟨.node h.length x .nil .nil,rfl,⟨?_,trivial,trivial⟩,rfl,by simp [Tr.QB],fun l hl=>.inr (by simp [Tr.QB]at hl;omega),fun l hl _=>?_,by rw[hR];simp⟩
 ·rw[hR,Qw (by simp)]
 ·rw[hR,Qt (by omega),QU hl]
structure ju (h:List Ob) (tl:Nat) (t:Tr) (L:List It):Prop where
 o:h[tl]? = some (qN t)
 is:JF h t
 list:t.list=L
 nd:t.QB.Nodup
 out:tl ∉ t.QB
 sorted:JG L
structure G4 (h:List Ob) (tl:Nat) (t:Tr) (L:List It) (h':List Ob) (t':Tr):Prop where
 is:ju h' tl t' L
 mem:∀l∈t'.QB,l∈t.QB∨h.length≤l
 keep:∀l,l<h.length→l≠tl→l ∉ t.QB→h'[l]? = h[l]?
 len:h.length≤h'.length
theorem ju.app {h:List Ob} {tl:Nat} {t:Tr} {L:List It} (a:ju h tl t L) (g:List Ob):ju (h++g) tl t L:=⟨(QU (Qd a.o)).trans a.o,a.is.app g,a.list,a.nd,a.out,a.sorted⟩
theorem ju.to {h g h2:List Ob} {tl:Nat} {t t':Tr} {L L':List It} (a:ju h tl t L) (u:XS (h++g) t L' h2 t') (hs:JG L'):G4 h tl t L' (h2.set tl (qN t')) t':=by
 have v:=u.under
 have hl:=Qd a.o
 have h1:h2[tl]? = some (qN t):=(v.keep tl hl a.out).trans a.o
 have nt:tl ∉ t'.QB:=fun hm=>by
  rcases v.mem tl hm with h3|h3
  ·exact a.out h3
  ·omega
 exact⟨⟨Qw (Qd h1),v.is.set _ nt,v.list,v.nd,nt,hs⟩,v.mem,fun l h3 h4 h5=>by rw[Qt (Ne.symm h4)];exact v.keep l h3 h5,by rw[List.length_set];exact v.len⟩
theorem G5 {h:List Ob} {tl:Nat} {t:Tr} {L:List It} (A:ju h tl t L) (x:It) (hf:V7 x.ka x.ki L=none) (hs:L.length<600000) :
  QH prog 174 h [.ptr tl 0 0 0,.agg [u64 x.ka,Qb x.ki],.agg [u64 x.va,Qb x.vi]] (fun d h'=>d=Qb 0∧∃t',G4 h tl t (VJ x L) h' t'):=by
 have h1:=A.o
 have hl:t.size=L.length:=by rw[← Tr.kR,A.list]
 have SJ:(t.find x.ka x.ki)=.nil:=by
  have h2:=Tr.GW (a:=x.ka) (i:=x.ki) t (by rw[A.list];exact A.sorted)
  rw[A.list,hf]at h2
  cases hc:t.find x.ka x.ki with
  | nil=>rfl
  | node a b c d=>rw[hc]at h2;cases h2
 have cf:=fun g=>pW (h:=h++g) (ZA (A.app g).o) (A.is.app g).toR x.ka x.ki
 rw[SJ]at cf
 refine QX Qe 200 func174 rfl ntmps174 results174 rfl fun base w pl hb=>?_
 have Qz:=Qd h1
 simp only[go_sem,simprocAttr,Qa,h1,Qz]
 refine QK hb oI rfl ?_ (cf _) rfl fun d hR=>?_
 ·simp only[go_sem,simprocAttr,Qa,h1,Qz]
 subst hR
 refine Qc hb ?_
 simp only[go_sem,simprocAttr,Qa,h1,Qz]
 refine Wj [7] Qe hb 200 mixed [(0,true),(1,true),(2,true),(3,true),(4,true),(5,true),(6,true),(7,false),(8,true),(9,true),(10,false)] [] (by kernel_rfl) (by kernel_rfl) ?_
 simp only[go_sem,simprocAttr,Qa,h1,Qz]
 have O:SH (.clo 214 0 [.ptr h.length 0 0 0,.ptr (h.length+1) 0 0 0]) 214 0 [.ptr h.length 0 0 0,.ptr (h.length+1) 0 0 0] [(h.length,⟨.one,0,2,1,fun _=>[u64 x.ka,Qb x.ki]⟩),(h.length+1,⟨.one,0,2,1,fun _=>[u64 x.va,Qb x.vi]⟩)] x.ka x.ki (fun _=>[x]) 600000 True:=
  ⟨Qjb,rfl,fun s=>by simp,fun h' s i2 qL Ji _ _ _ hB=>by
   have b1:=(hB (h.length,_) (List.mem_cons_self ..)).1
   have b2:=(hB (h.length+1,_) (List.mem_cons_of_mem _ (List.mem_cons_self ..))).1
   exact QkN (x:=x) b1 b2 s⟩
 refine WD hb GC rfl ?_ (G2 O (by decide) t _ (A.is.app _) A.nd (by omega) (by rw[A.list];exact A.sorted) (fun _=>trivial) ?_) rfl fun d h6 hR=>?_
 ·simp only[go_sem,simprocAttr]
 ·intro p hp
  have hm:∀q,h.length≤q→q ∉ t.QB:=fun q hq hm=>by have:=A.is.lt q hm;omega
  simp only[List.mem_cons,List.not_mem_nil,or_false]at hp
  rcases hp with rfl|rfl
  ·exact⟨Kc rfl,hm _ (Nat.le_refl _)⟩
  ·exact⟨KW rfl,hm _ (by show h.length≤h.length+1;omega)⟩
 obtain⟨t',rfl,u⟩:=hR
 rw[Ss rfl t (by rw[A.list];exact A.sorted) (by rw[A.list];exact hf),A.list]at u
 have h2:=(u.under.keep tl Qz A.out).trans A.o
 have Jn:=Qd h2
 refine QF hb ?_
 simp only[go_sem,simprocAttr,Qa,h2,Jn]
 exact⟨t',A.to u (Sr A.sorted hf)⟩
theorem Tr.QkQ:∀t:Tr,t≠.nil→∃rest,t.list=t.xT::rest:=fun t h=>by
 have h1:=Tr.Su t h
 cases hl:t.list with
 | nil=>rw[hl]at h1;cases h1
 | cons a b=>rw[hl]at h1;simp only[List.head?_cons,Option.some.injEq]at h1;exact⟨b,by rw[h1]⟩
theorem QkR {x:It} {L:List It}:V7 x.ka x.ki (x::L)=some x:=by
 unfold V7
 rw[List.find?_cons,qK.2 ⟨rfl,rfl⟩]
theorem QkS {x:It} {L:List It} (hs:JG (x::L)):Vd x.ka x.ki (x::L)=L:=by
 have h:=pM x.ka x.ki [] L x hs
 rw[if_pos ⟨rfl,rfl⟩]at h
 exact h
def pX (N:Nat):Prop:=∀(h:List Ob) (s:Tr),JF h s→s.QB.Nodup→s.size≤N→JG s.list→s≠.nil →
 QH prog 216 h [s.ptr] (fun d h'=>∃s',d=s'.ptr∧XS h s s.BX h' s')
theorem pY {N:Nat} (W:pX N) (a:Nat) (k:Int):SH (.raw (.func (.func 216) #[] #[])) 216 0 [] [] a k Tr.BX N False:=
 ⟨Qjc,rfl,fun s=>by
  cases s with
  | nil=>simp [Tr.BX]
  | node loc it l r=>simp only[Tr.BX,List.length_append,Tr.kR,Tr.size];omega,fun h s i nd hs JY hn _ _=>W h s i nd hs JY fun e=>hn e⟩
theorem pZ:∀N,N<600000→pX N
 | 0,_,_,.nil,_,_,_,_,hn=>absurd rfl hn
 | 0,_,_,.node _ _ _ _,_,_,hs,_,_=>by simp only[Tr.size]at hs;omega
 | _+1,_,_,.nil,_,_,_,_,hn=>absurd rfl hn
 | N+1,hN,h,.node loc it l .nil,i,nd,hs,JY,_=>by
  have h1:=i.1
  refine QX Qe 200 func216 rfl ntmps216 results216 rfl fun base w pl hb=>?_
  have Qz:=Qd h1
  simp only[go_sem,simprocAttr,Qa,h1,Qz]
  refine⟨l,rfl,?_⟩
  have u:=XS.refl i.2.1 (t:=l) (by simp only[Tr.QB,List.nodup_cons,List.nodup_append]at nd;exact nd.2.1)
  simp only[Tr.BX,Tr.list,List.append_nil]
  exact⟨u.is,rfl,u.nd,fun x hx=>.inl (by simp [Tr.QB,hx]),fun _ _ _=>rfl,Nat.le_refl _⟩
 | N+1,hN,h,.node loc it l (.node lr ir rl rr),i,nd,hs,JY,_=>by
  have h1:=i.1
  refine QX Qe 200 func216 rfl ntmps216 results216 rfl fun base w pl hb=>?_
  have Qz:=Qd h1
  simp only[go_sem,simprocAttr,Qa,h1,Qz]
  have qL:=nd
  simp only[Tr.QB,List.nodup_cons,List.nodup_append,List.mem_cons,List.mem_append,not_or]at qL
  generalize hr:Tr.node lr ir rl rr=r at *
  have p5:r≠.nil:=by rw[← hr];simp
  have hrp:D.ptr lr 0 0 0=r.ptr:=by rw[← hr];rfl
  rw[hrp]
  refine Zv (fun j st=>∃s:Tr,s.size+j≤r.size∧s≠.nil∧JF h s∧s.xT=r.xT∧(∀x∈s.QB,x∈r.QB)∧st=⟨[(0,.ptr loc 0 0 0),(3,s.ptr)],h⟩) r.size (s0:=⟨[(0,.ptr loc 0 0 0),(3,r.ptr)],h⟩) (Qk.frame (by simp only[go_sem,simprocAttr])) ⟨r,by omega,p5,i.2.2,rfl,fun _ hx=>hx,rfl⟩ ?_
  rintro j _ hj ⟨s,XT,kj,is,hf,Ve,rfl⟩
  rcases s with _|⟨ls,im,sl,sr⟩
  ·exact absurd rfl kj
  have h3:=is.1
  have ZF:=Qd h3
  rcases sl with _|⟨a1,a2,a3,a4⟩
  ·have W9:ls∈r.QB:=Ve ls (by simp [Tr.QB])
   have QD:loc≠ls:=by rintro rfl;simp only[Tr.QB,List.nodup_cons,List.nodup_append,List.mem_cons,List.mem_append]at nd;grind
   have nl:loc ∉ l.QB:=by simp only[Tr.QB,List.nodup_cons,List.nodup_append,List.mem_cons,List.mem_append]at nd;grind
   have nr:loc ∉ r.QB:=by simp only[Tr.QB,List.nodup_cons,List.nodup_append,List.mem_cons,List.mem_append]at nd;grind
   have Zy:=Qt (h:=h) (o:=xR im l.ptr r.ptr (Tr.node loc it l r).least ((Tr.node loc it l r).high:Nat) ((Tr.node loc it l r).size:Nat)) QD
   obtain⟨s1,s2,s3,s4⟩:=xS.1 (show JG (l.list++it::r.list) from JY)
   obtain⟨rest,Z6⟩:=Tr.QkQ r p5
   have him:r.xT=im:=by rw[← hf];rfl
   rw[him]at Z6
   have SJ:r.find im.ka im.ki=.nil→False:=fun e=>by
    have h5:=Tr.GW (a:=im.ka) (i:=im.ki) r s2
    rw[e,Z6,QkR]at h5
    cases h5
   have ndr:r.QB.Nodup:=by simp only[Tr.QB,List.nodup_cons,List.nodup_append,List.mem_cons,List.mem_append]at nd;grind
   refine Qc hb ?_
   simp only[go_sem,simprocAttr,Qa,h3,ZF]
   refine Qc hb ?_
   simp only[go_sem,simprocAttr,Qa,h1,Qz,h3,ZF]
   refine Wj [11] Qe hb 200 mixed [(0,true),(1,true),(2,true),(3,true),(4,true),(5,true),(6,true),(7,true),(8,true),(9,true),(10,true),(12,true),(13,true),(11,false),(14,true),(15,false)] [] (by kernel_rfl) (by kernel_rfl) ?_
   simp only[go_sem,simprocAttr,Qa,h1,Qz,Qw Qz,Qt QD,h3]
   refine WD hb GC rfl ?_ (G2 (pY (pZ N (by omega)) im.ka im.ki) (by omega) r _ (i.2.2.set _ nr) ndr (by simp only[Tr.size]at hs;omega) s2 SJ (fun p hp=>by cases hp)) rfl fun d h6 hR=>?_
   ·simp only[go_sem,simprocAttr,G1]
   obtain⟨t',rfl,u⟩:=hR
   rw[Nq r s2,Z6,QkS (by rw[← Z6];exact s2)]at u
   have h7:=(u.keep loc (by simpa using Qz) nr).trans (Qw Qz)
   have qM:=Qd h7
   have nt:loc ∉ t'.QB:=fun hm=>by
    rcases u.mem loc hm with h9|h9
    ·exact nr h9
    ·simp only[List.length_set]at h9;omega
   have no:∀k∈l.QB,k ∉ t'.QB:=fun k hk hm=>by
    have G3:=i.2.1.lt k hk
    rcases u.mem k hm with h9|h9
    ·simp only[Tr.QB,List.nodup_cons,List.nodup_append,List.mem_cons,List.mem_append]at nd;grind
    ·simp only[List.length_set]at h9;omega
   have to:JF h6 l:=(i.2.1.set _ nl).frame fun k hk=>u.keep k (by simpa using i.2.1.lt k hk) (by simp only[Tr.QB,List.nodup_cons,List.nodup_append,List.mem_cons,List.mem_append]at nd ⊢;grind)
   refine QF hb ?_
   simp only[go_sem,simprocAttr,Qa,h7,qM]
   refine Qc hb ?_
   simp only[go_sem,simprocAttr]
   have ul:=u.list
   have ZC:=Tr.kR t'
   rw[ul]at ZC
   have jl:=Tr.kR r
   rw[Z6,List.length_cons]at jl
   refine QT hb RP rfl ?_ (SF (loc:=loc) (l:=l) (r:=t') (it:=im) ⟨Qw qM,to.set _ nl,u.is.set _ nt⟩ (by
    have a1:=u.nd
    simp only[Tr.QB,List.nodup_cons,List.nodup_append,List.mem_cons,List.mem_append]at nd ⊢
    grind) (by simp only[Tr.size]at hs;omega)) rfl fun d h8 hR=>?_
   ·simp only[go_sem,simprocAttr]
   obtain⟨t'',rfl,v⟩:=hR
   refine Qc hb ?_
   simp only[go_sem,simprocAttr]
   have vl:=v.list
   refine⟨t'',rfl,v.is,by rw[vl,ul,Tr.BX,Z6],v.nd,fun k hk=>?_,fun k hk hn=>?_,by have q1:=v.len;have q2:=u.len;simp only[List.length_set]at q1 q2;omega⟩
   ·have q2:=u.len
    rcases v.mem k hk with h9|h9
    ·have a2:=u.mem k
     simp only[Tr.QB,List.mem_cons,List.mem_append,List.length_set]at h9 a2 ⊢
     grind
    ·simp only[List.length_set]at h9 q2;exact .inr (by omega)
   ·have a2:=u.mem k
    have a3:=u.len
    simp only[List.length_set]at a2 a3
    rw[v.keep k (by simp only[List.length_set];omega) (fun h9=>by
     simp only[Tr.QB,List.mem_cons,List.mem_append]at h9 hn
     rcases h9 with h9|h9|h9
     ·exact hn (.inl h9)
     ·exact hn (.inr (.inl h9))
     ·rcases a2 h9 with YJ|YJ
      ·exact hn (.inr (.inr YJ))
      ·omega),Qt (fun h9=>hn (by rw[h9];simp [Tr.QB])),u.keep k (by simpa using hk) (fun h9=>hn (by simp only[Tr.QB,List.mem_cons,List.mem_append];grind)),Qt (fun h9=>hn (by rw[h9];simp [Tr.QB]))]
  ·refine Qc hb ?_
   simp only[go_sem,simprocAttr,Qa,h3,ZF]
   refine⟨by simp only[Tr.size]at XT;omega,_,Qk.frame (by simp only[go_sem,simprocAttr]),.node a1 a2 a3 a4,by simp only[Tr.size]at XT ⊢;omega,by simp,is.2.1,by rw[← hf];rfl,fun x hx=>Ve x (by rw[Tr.QB];simp [hx]),rfl⟩
@[go_sem] def SK (o:Option It):D:=.tup [.agg (o.getD default).cells,QN o.isSome]
theorem SL {h:List Ob} {tl:Nat} {t:Tr} {L:List It} (A:ju h tl t L) (a:Nat) (k:Int) (hf:V7 a k L≠none) (hs:L.length<500000) :
  QH prog 175 h [.ptr tl 0 0 0,.agg [u64 a,Qb k]] (fun d h'=>d=Qb 0∧∃t',G4 h tl t (Vd a k L) h' t'):=by
 have h1:=A.o
 have hl:t.size=L.length:=by rw[← Tr.kR,A.list]
 have h2:=Tr.GW (a:=a) (i:=k) t (by rw[A.list];exact A.sorted)
 rw[A.list]at h2
 have cf:=fun g=>pW (h:=h++g) (ZA (A.app g).o) (A.is.app g).toR a k
 cases hc:t.find a k with
 | nil=>rw[hc]at h2;exact absurd h2.symm hf
 | node b1 b2 b3 b4=>
  rw[hc]at cf
  refine QX Qe 200 func175 rfl ntmps175 results175 rfl fun base w pl hb=>?_
  have Qz:=Qd h1
  simp only[go_sem,simprocAttr,Qa,h1,Qz]
  refine QK hb oI rfl ?_ (cf _) rfl fun d hR=>?_
  ·simp only[go_sem,simprocAttr,Qa,h1,Qz]
  subst hR
  refine Qc hb ?_
  simp only[go_sem,simprocAttr,Qa,h1,Qz]
  refine Wj [6] Qe hb 200 mixed [(0,true),(1,true),(2,true),(3,true),(4,true),(5,true),(6,false),(7,true),(8,true),(9,false)] [] (by kernel_rfl) (by kernel_rfl) ?_
  simp only[go_sem,simprocAttr,Qa,h1,Qz]
  refine WD hb GC rfl ?_ (G2 (pY (pZ 500000 (by decide)) a k) (by decide) t _ (A.is.app _) A.nd (by omega) (by rw[A.list];exact A.sorted) (fun e=>by rw[hc]at e;cases e) (fun p hp=>by cases hp)) rfl fun d h6 hR=>?_
  ·simp only[go_sem,simprocAttr,G1]
  obtain⟨t',rfl,u⟩:=hR
  rw[Nq t (by rw[A.list];exact A.sorted),A.list]at u
  have h2:=(u.under.keep tl Qz A.out).trans A.o
  have Jn:=Qd h2
  refine QF hb ?_
  simp only[go_sem,simprocAttr,Qa,h2,Jn]
  exact⟨t',A.to u (Qky A.sorted)⟩
section
variable {h:List Ob} {tl:Nat} {t:Tr} (ht:(h.map Ob.ro)[tl]? = some (qN t).ro) (i:Xs h t)
include ht i
theorem p6:QP prog 164 h [.ptr tl 0 0 0] (fun d=>d=Qb t.size):=by
 refine Zi Qe 200 func164 rfl ntmps164 results164 rfl fun base w pl F hF QS hb=>?_
 rw[← hF]at ht
 have QY:=Qd ht
 simp only[go_sem,simprocAttr,Qa,ht,QY]
 refine QK hb xI rfl ?_ (xV (i.more fun l o e=>by have:=Aq (g:=[]) hF l o e;rwa [List.append_nil]at this)) rfl fun d hR=>?_
 ·simp only[go_sem,simprocAttr,Qa,ht,QY]
 subst hR
 refine Qc hb ?_
 simp only[go_sem,simprocAttr,Qa,ht,QY]
 exact⟨[],by simp⟩
theorem p7:QP prog 102 h [.ptr tl 0 0 0] (fun d=>d=SK t.list.head?):=by
 have i2:∀{F:List Ob},F=h.map Ob.ro→∀g,Xs (F++g) t:=fun hF g=>i.more (Aq hF)
 have Ym:∀{F:List Ob},F=h.map Ob.ro→∀g,((F++g).map Ob.ro)[tl]? = some (qN t).ro:=fun hF g=>Aq hF _ _ ht
 by_cases hn:t=.nil
 ·subst hn
  refine Zi Qe 200 func102 rfl ntmps102 results102 rfl fun base w pl F hF QS hb=>?_
  rw[← hF]at ht
  have QY:=Qd ht
  simp only[go_sem,simprocAttr,Qa,ht,QY]
  refine QK hb oy rfl ?_ (p6 (Ym hF _) (i2 hF _)) rfl fun d hR=>?_
  ·simp only[go_sem,simprocAttr,Qa,ht,QY,Tr.size]
  subst hR
  refine Qc hb ?_
  simp only[go_sem,simprocAttr,Qa,ht,QY,Tr.size]
  exact⟨_,rfl,rfl⟩
 ·rw[Tr.Su t hn]
  have ZC:t.size≠0:=by cases t with
   | nil=>exact absurd rfl hn
   | node a b c d=>simp only[Tr.size];omega
  have d0:((t.size:Int)==0)=false:=by simpa using ZC
  refine Zi Qe 200 func102 rfl ntmps102 results102 rfl fun base w pl F hF QS hb=>?_
  rw[← hF]at ht
  have QY:=Qd ht
  simp only[go_sem,simprocAttr,Qa,ht,QY]
  refine QK hb oy rfl ?_ (p6 (Ym hF _) (i2 hF _)) rfl fun d hR=>?_
  ·simp only[go_sem,simprocAttr,Qa,ht,QY,d0]
  subst hR
  refine Qc hb ?_
  simp only[go_sem,simprocAttr,Qa,ht,QY,d0]
  refine Zv (fun j st=>∃s:Tr,s.size+j≤t.size∧s≠.nil∧Xs h s∧s.xT=t.xT∧st=⟨[(2,.ptr F.length 0 0 0),(4,s.ptr)],F++[⟨.one,0,4,1,fun _=>[u64 0,Qb 0,u64 0,Qb 0]⟩]⟩) t.size (s0:=⟨[(2,.ptr F.length 0 0 0),(4,t.ptr)],F++[⟨.one,0,4,1,fun _=>[u64 0,Qb 0,u64 0,Qb 0]⟩]⟩) (Qk.frame (by simp only[go_sem,simprocAttr])) ⟨t,by omega,hn,i,rfl,rfl⟩ ?_
  rintro j _ hj ⟨s,XT,kj,is,hf,rfl⟩
  rcases s with _|⟨ls,im,sl,sr⟩
  ·exact absurd rfl kj
  have h3:=is.1
  rw[← hF]at h3
  have ZF:=Qd h3
  rcases sl with _|⟨a1,a2,a3,a4⟩
  ·refine Qc hb ?_
   simp only[go_sem,simprocAttr,Qa,h3,ZF]
   refine Qc hb ?_
   simp only[go_sem,simprocAttr,Qa,h3,ZF]
   rw[← hf]
   exact⟨_,rfl,rfl⟩
  ·refine Qc hb ?_
   simp only[go_sem,simprocAttr,Qa,h3,ZF]
   refine⟨by simp only[Tr.size]at XT;omega,_,Qk.frame (by simp only[go_sem,simprocAttr]),.node a1 a2 a3 a4,by simp only[Tr.size]at XT ⊢;omega,by simp,is.2.1,by rw[← hf];rfl,rfl⟩
omit ht i in
theorem QkW {n loc:Nat} {it:It} {l r:Tr} (h:(Tr.node loc it l r).hasB n=true) (hl:l.hasB n=false) (hi:¬ it.va≤n):r.hasB n=true:=by
 rw[Tr.GX]at h ⊢
 obtain⟨x,hx,hv⟩:=h
 simp only[Tr.list,List.mem_append,List.mem_cons]at hx
 rcases hx with hx|rfl|hx
 ·have:=(Tr.GX n l).2 ⟨x,hx,hv⟩
  rw[hl]at this;cases this
 ·exact absurd hv hi
 ·exact⟨x,hx,hv⟩
theorem QkX (n:Nat):QP prog 167 h [.ptr tl 0 0 0,u64 n] (fun d=>d=SK (t.list.find? fun x=>decide (x.va≤n))):=by
 have i2:∀{F:List Ob},F=h.map Ob.ro→∀g,Xs (F++g) t:=fun hF g=>i.more (Aq hF)
 rw[← Tr.Nr]
 cases hB:t.hasB n with
 | false=>
  have Z9:t.first n=none:=by
   rw[Tr.Nr,List.find?_eq_none]
   intro x hx hv
   have:=(Tr.GX n t).2 ⟨x,hx,by simpa using hv⟩
   rw[hB]at this;cases this
  rw[Z9]
  refine Zi Qe 200 func167 rfl ntmps167 results167 rfl fun base w pl F hF QS hb=>?_
  rw[← hF]at ht
  have QY:=Qd ht
  simp only[go_sem,simprocAttr,Qa,ht,QY]
  refine QK hb RN rfl ?_ (SC (i2 hF _) n) rfl fun d hR=>?_
  ·simp only[go_sem,simprocAttr,Qa,ht,QY,hB]
  subst hR
  refine Qc hb ?_
  simp only[go_sem,simprocAttr,Qa,ht,QY,hB]
  exact⟨_,rfl,rfl⟩
 | true=>
  refine Zi Qe 200 func167 rfl ntmps167 results167 rfl fun base w pl F hF QS hb=>?_
  rw[← hF]at ht
  have QY:=Qd ht
  simp only[go_sem,simprocAttr,Qa,ht,QY]
  refine QK hb RN rfl ?_ (SC (i2 hF _) n) rfl fun d hR=>?_
  ·simp only[go_sem,simprocAttr,Qa,ht,QY,hB]
  subst hR
  refine Qc hb ?_
  simp only[go_sem,simprocAttr,Qa,ht,QY,hB]
  have hn:t≠.nil:=by rintro rfl;simp [Tr.hasB]at hB
  refine Zv (fun j st=>∃s:Tr,s.size+j≤t.size∧s≠.nil∧Xs h s∧s.hasB n=true∧s.first n=t.first n∧st=⟨[(1,u64 n),(4,.ptr F.length 0 0 0),(6,s.ptr)],F++[⟨.one,0,4,1,fun _=>[u64 0,Qb 0,u64 0,Qb 0]⟩]⟩) t.size (s0:=⟨[(1,u64 n),(4,.ptr F.length 0 0 0),(6,t.ptr)],F++[⟨.one,0,4,1,fun _=>[u64 0,Qb 0,u64 0,Qb 0]⟩]⟩) (Qk.frame (by simp only[go_sem,simprocAttr])) ⟨t,by omega,hn,i,hB,rfl,rfl⟩ ?_
  rintro j _ hj ⟨s,XT,kj,is,hsB,hf,rfl⟩
  rcases s with _|⟨ls,im,sl,sr⟩
  ·exact absurd rfl kj
  have h3:=is.1
  rw[← hF]at h3
  have ZF:=Qd h3
  rw[Tr.first]at hf
  refine Qc hb ?_
  simp only[go_sem,simprocAttr,Qa,h3,ZF]
  refine QK hb RN rfl ?_ (SC (is.2.1.more (Aq hF)) n) rfl fun d hR=>?_
  ·simp only[go_sem,simprocAttr,Qa,h3,ZF]
  subst hR
  refine Qc hb ?_
  simp only[go_sem,simprocAttr,Qa,h3,ZF]
  cases hL:sl.hasB n with
  | true=>
   rw[hL,if_pos rfl]at hf
   simp only[go_sem,simprocAttr,Qa,hL,h3,ZF]
   refine⟨by simp only[Tr.size]at XT;omega,_,Qk.frame (by simp only[go_sem,simprocAttr]),sl,by simp only[Tr.size]at XT;omega,by rintro rfl;simp [Tr.hasB]at hL,is.2.1,hL,hf,rfl⟩
  | false=>
   rw[hL,if_neg (by decide)]at hf
   simp only[go_sem,simprocAttr,Qa,hL,h3,ZF]
   by_cases hv:im.va≤n
   ·have d1:=decide_eq_true hv
    rw[if_pos hv]at hf
    simp only[go_sem,simprocAttr,Qa,d1,h3,ZF]
    rw[← hf]
    exact⟨_,rfl,rfl⟩
   ·have d1:=decide_eq_false hv
    rw[if_neg hv]at hf
    simp only[go_sem,simprocAttr,Qa,d1,h3,ZF]
    have hR:=QkW hsB hL hv
    refine⟨by simp only[Tr.size]at XT;omega,_,Qk.frame (by simp only[go_sem,simprocAttr]),sr,by simp only[Tr.size]at XT;omega,by rintro rfl;simp [Tr.hasB]at hR,is.2.2,hR,hf,rfl⟩
end
@[go_sem] def SM (o:Option It):Ob:=⟨.one,0,4,1,fun _=>(o.getD default).cells⟩
@[go_sem] def SN (o:Option It):Ob:=⟨.one,0,1,1,fun _=>[QN o.isSome]⟩
theorem QkZ (x:It):XR x x=x:=by rw[pG,if_neg (GV x)]
theorem p8 {h:List Ob} {lm lo:Nat} {o:Option It} (hm:h[lm]? = some (SN o)) (ho:h[lo]? = some (SM o)) (QD:lm≠lo) (x:It) :
  QH prog 165 h [.agg x.cells,.ptr lm 0 0 0,.ptr lo 0 0 0] (fun _ h'=>∃g,h'=(h.set lm (SN (W8 o x))).set lo (SM (W8 o x))++g):=by
 have Wo:=Ne.symm QD
 cases o with
 | none=>
  have cb:=El x x
  rw[QkZ]at cb
  refine QX Qe 200 func165 rfl ntmps165 results165 rfl fun base w pl hb=>?_
  have QO:=Qd hm
  have Qf:=Qd ho
  simp only[go_sem,simprocAttr,Qa,hm,QO,ho,Qf,Qt QD,Qt Wo,Option.isSome_none,Option.isSome_some,Option.getD_some,Option.getD_none,W8,Qw QO,Qw Qf]
  refine QE hb DT rfl ?_ cb (Ql.flat rfl) rfl fun d h hR=>?_
  ·simp only[go_sem,simprocAttr,Qa,hm,QO,ho,Qf,Qt QD,Qt Wo,Option.isSome_none,Option.isSome_some,Option.getD_some,Option.getD_none,W8,Qw QO,Qw Qf]
  obtain⟨rfl,rfl⟩:=hR
  refine Qc hb ?_
  simp only[go_sem,simprocAttr,Qa,hm,QO,ho,Qf,Qt QD,Qt Wo,Option.isSome_none,Option.isSome_some,Option.getD_some,Option.getD_none,W8,Qw QO,Qw Qf]
  rw[List.set_comm _ _ Wo,List.set_set]
  exact⟨_,rfl⟩
 | some y=>
  have cb:=El y x
  refine QX Qe 200 func165 rfl ntmps165 results165 rfl fun base w pl hb=>?_
  have QO:=Qd hm
  have Qf:=Qd ho
  simp only[go_sem,simprocAttr,Qa,hm,QO,ho,Qf,Qt QD,Qt Wo,Option.isSome_none,Option.isSome_some,Option.getD_some,Option.getD_none,W8,Qw QO,Qw Qf]
  refine QE hb DT rfl ?_ cb (Ql.flat rfl) rfl fun d h hR=>?_
  ·simp only[go_sem,simprocAttr,Qa,hm,QO,ho,Qf,Qt QD,Qt Wo,Option.isSome_none,Option.isSome_some,Option.getD_some,Option.getD_none,W8,Qw QO,Qw Qf]
  obtain⟨rfl,rfl⟩:=hR
  refine Qc hb ?_
  simp only[go_sem,simprocAttr,Qa,hm,QO,ho,Qf,Qt QD,Qt Wo,Option.isSome_none,Option.isSome_some,Option.getD_some,Option.getD_none,W8,Qw QO,Qw Qf]
  exact⟨_,rfl⟩
theorem Tr.Qk0 (n loc:Nat) (it:It) (l r:Tr) (o:Option It):(Tr.node loc it l r).Ko n o=if n<it.ka then l.Ko n o else r.Ko n (match l with
  | .nil=>W8 o it
  | .node a b c d=>W8 (W8 o it) (Tr.node a b c d).least):=by cases l<;>rfl
def jv (F g:List Ob) (n:Nat) (s:Tr) (o:Option It):St:=
 ⟨[(1,u64 n),(4,.ptr F.length 0 0 0),(6,.ptr (F.length+1) 0 0 0),(7,.ptr (F.length+2) 0 0 0),(8,.clo 165 0 [.ptr (F.length+2) 0 0 0,.ptr (F.length+1) 0 0 0]),(9,s.ptr)],
  F++(⟨.one,0,4,1,fun _=>[u64 0,Qb 0,u64 0,Qb 0]⟩::SM o::SN o::g)⟩
section
variable {h:List Ob} {tl:Nat} {t:Tr} (ht:(h.map Ob.ro)[tl]? = some (qN t).ro) (i:Xs h t)
include ht i
theorem p9 (n:Nat):QP prog 104 h [.ptr tl 0 0 0,u64 n] (fun d=>d=SK (t.Ko n none)):=by
 refine Zi Qe 200 func104 rfl ntmps104 results104 rfl fun base w pl F hF QS hb=>?_
 rw[← hF]at ht
 have QY:=Qd ht
 simp only[go_sem,simprocAttr,Qa,ht,QY]
 refine Zv (fun j st=>∃(s:Tr) (o:Option It) (g:List Ob),s.size+j≤t.size∧Xs h s∧s.Ko n o=t.Ko n none∧st=jv F g n s o) t.size (s0:=jv F [] n t none) ?_ ⟨t,none,[],by omega,i,rfl,rfl⟩ ?_
 ·simp only[jv]
  exact Qk.frame (by simp only[go_sem,simprocAttr])
 rintro j _ hj ⟨s,o,g,XT,is,hf,rfl⟩
 rcases s with _|⟨ls,im,sl,sr⟩
 ·simp only[jv]
  refine Qc hb ?_
  simp only[go_sem,simprocAttr,Qa]
  refine Qc hb ?_
  simp only[go_sem,simprocAttr,Qa]
  refine Qd4 Qe hb 200 mixed [(0,true)] [1,2,3] (by kernel_rfl) (by kernel_rfl) ?_
  simp only[go_sem,simprocAttr,Qa]
  have YW:o=t.Ko n none:=hf
  subst YW
  refine⟨⟨_,rfl,rfl⟩,⟨_,rfl,rfl⟩⟩
 have h3:=is.1
 rw[← hF]at h3
 have ZF:=Qd h3
 rw[Tr.Qk0]at hf
 by_cases hv:n<im.ka
 ·have d1:=decide_eq_true hv
  rw[if_pos hv]at hf
  simp only[jv]
  refine Qc hb ?_
  simp only[go_sem,simprocAttr,Qa,h3,ZF,d1]
  refine⟨by simp only[Tr.size]at XT;omega,jv F g n sl o,?_,sl,o,g,by simp only[Tr.size]at XT;omega,is.2.1,hf,rfl⟩
  simp only[jv]
  exact Qk.frame (by simp only[go_sem,simprocAttr])
 ·have d1:=decide_eq_false hv
  rw[if_neg hv]at hf
  simp only[jv]
  refine Qc hb ?_
  simp only[go_sem,simprocAttr,Qa,h3,ZF,d1]
  refine QT hb oz rfl ?_ (p8 (lm:=F.length+2) (lo:=F.length+1) (o:=o) (KW rfl) (KW rfl) (by omega) im) rfl fun d h6 hR=>?_
  ·simp only[go_sem,simprocAttr]
  obtain⟨g2,rfl⟩:=hR
  simp only[go_sem,simprocAttr,Qa]
  cases sl with
  | nil=>
   refine Qc hb ?_
   simp only[go_sem,simprocAttr,Qa,h3,ZF]
   refine⟨by simp only[Tr.size]at XT;omega,jv F (g++g2) n sr (W8 o im),?_,sr,_,_,by simp only[Tr.size]at XT;omega,is.2.2,hf,rfl⟩
   simp only[jv]
   exact Qk.frame (by simp only[go_sem,simprocAttr])
  | node a b c e=>
   have h4:=is.2.1.1
   rw[← hF]at h4
   have zE:=Qd h4
   refine Qc hb ?_
   simp only[go_sem,simprocAttr,Qa,h3,ZF,h4,zE]
   refine QT hb oz rfl ?_ (p8 (lm:=F.length+2) (lo:=F.length+1) (o:=W8 o im) (KW rfl) (KW rfl) (by omega) (Tr.node a b c e).least) rfl fun d h6 hR=>?_
   ·simp only[go_sem,simprocAttr]
   obtain⟨g3,rfl⟩:=hR
   simp only[go_sem,simprocAttr,Qa]
   refine Qc hb ?_
   simp only[go_sem,simprocAttr,Qa,h3,ZF]
   refine⟨by simp only[Tr.size]at XT;omega,jv F (g++(g2++g3)) n sr (W8 (W8 o im) (Tr.node a b c e).least),?_,sr,_,_,by simp only[Tr.size]at XT;omega,is.2.2,hf,rfl⟩
   simp only[jv]
   exact Qk.frame (by simp only[go_sem,simprocAttr])
end
def Vl (e:QM):Int × D:=(e.k,e.v)
structure VK (es:List QM) (P:List (Int × D)):Prop where
 perm:(es.map Vl).Perm P
 nd:(P.map Prod.fst).Nodup
theorem VK.kJ {es:List QM} {P:List (Int × D)} (M:VK es P):Vq es:=by
 have h1:es.map (·.k)=(es.map Vl).map Prod.fst:=by simp [Vl,Function.comp_def]
 unfold Vq
 rw[h1,(M.perm.map Prod.fst).nodup_iff]
 exact M.nd
theorem SO:∀{es:List QM},Vq es→∀{k:Int} {v:D},JJ es k=some v↔(k,v)∈es.map Vl
 | [],_,k,v=>by simp [JJ]
 | e::es,hn,k,v=>by
  have Va:Vq es:=by unfold Vq at hn ⊢;simp only[List.map_cons,List.nodup_cons]at hn;exact hn.2
  simp only[JJ]
  by_cases h:e.k=k
  ·rw[if_pos h]
   constructor
   ·rintro⟨rfl⟩;simp [Vl,h]
   ·intro hm
    simp only[List.map_cons,List.mem_cons]at hm
    rcases hm with hm|hm
    ·simp only[Vl,Prod.mk.injEq]at hm;rw[hm.2]
    ·exfalso
     obtain⟨e',Vi,hh⟩:=List.mem_map.1 hm
     simp only[Vl,Prod.mk.injEq]at hh
     unfold Vq at hn
     simp only[List.map_cons,List.nodup_cons,List.mem_map,not_exists,not_and]at hn
     exact hn.1 e' Vi (by rw[hh.1,h])
  ·rw[if_neg h,SO Va]
   simp only[List.map_cons,List.mem_cons]
   constructor
   ·exact fun h=>.inr h
   ·rintro (hm|hm)
    ·simp only[Vl,Prod.mk.injEq]at hm;exact absurd hm.1.symm h
    ·exact hm
def look (P:List (Int × D)) (k:Int):Option D:=(P.find? fun p=>p.1==k).map Prod.snd
theorem Nw:∀{P:List (Int × D)},(P.map Prod.fst).Nodup→∀{k:Int} {v:D},look P k=some v↔(k,v)∈P
 | [],_,k,v=>by simp [look]
 | p::P,hn,k,v=>by
  simp only[List.map_cons,List.nodup_cons]at hn
  have ih:=Nw hn.2 (k:=k) (v:=v)
  unfold look at ih ⊢
  rw[List.find?_cons]
  by_cases h:p.1=k
  ·rw[beq_iff_eq.2 h]
   simp only[Option.map_some,Option.some.injEq,List.mem_cons]
   constructor
   ·rintro rfl;exact .inl (by rw[← h])
   ·rintro (hm|hm)
    ·rw[← hm]
    ·exact absurd (List.mem_map.2 ⟨_,hm,rfl⟩) (by rw[← h];exact hn.1)
  ·have hb:(p.1==k)=false:=by simpa using h
   rw[hb,ih,List.mem_cons]
   constructor
   ·exact fun h=>.inr h
   ·rintro (hm|hm)
    ·exact absurd (by rw[← hm]) h
    ·exact hm
theorem VK.look {es:List QM} {P:List (Int × D)} (M:VK es P) (k:Int):JJ es k=look P k:=by
 cases hf:X.look P k with
 | some v=>
  rw[SO M.kJ,M.perm.mem_iff]
  exact(Nw M.nd).1 hf
 | none=>
  cases ha:JJ es k with
  | none=>rfl
  | some v=>
   rw[SO M.kJ,M.perm.mem_iff]at ha
   rw[(Nw M.nd).2 ha]at hf;cases hf
theorem VK.len {es:List QM} {P:List (Int × D)} (M:VK es P):es.length=P.length:=by
 have:=M.perm.length_eq
 rwa [List.length_map]at this
def kW (P:List (Int × D)) (k:Int):List (Int × D):=P.filter fun p=>p.1 != k
def xW (P:List (Int × D)) (k:Int) (v:D):List (Int × D):=(k,v)::kW P k
theorem rb {P:List (Int × D)} (k:Int) (h:(P.map Prod.fst).Nodup):((kW P k).map Prod.fst).Nodup:=by
 unfold kW
 exact List.Nodup.sublist (List.Sublist.map _ List.filter_sublist) h
theorem re {P:List (Int × D)} (k:Int) (v:D) (h:(P.map Prod.fst).Nodup):((xW P k v).map Prod.fst).Nodup:=by
 rw[xW,List.map_cons,List.nodup_cons]
 refine⟨fun hm=>?_,rb k h⟩
 obtain⟨p,hp,e⟩:=List.mem_map.1 hm
 simp only[kW,List.mem_filter,bne_iff_ne,ne_eq]at hp
 exact hp.2 e
theorem rf:∀{es:List QM} (k:Int) (v:D),Vq es→(∃u,JJ es k=some u)→((je es k v).map Vl).Perm ((k,v)::(es.map Vl).filter fun p=>p.1 != k)
 | [],k,v,_,h=>by obtain⟨u,hu⟩:=h;cases hu
 | e::es,k,v,hn,h=>by
  have Va:Vq es∧∀e'∈es,e'.k≠e.k:=by
   unfold Vq at hn ⊢
   simp only[List.map_cons,List.nodup_cons,List.mem_map,not_exists,not_and]at hn
   exact⟨hn.2,hn.1⟩
  simp only[je]
  by_cases he:e.k=k
  ·rw[if_pos he,List.map_cons,List.map_cons]
   have h1:(Vl e).1=k:=he
   rw[List.filter_cons,show ((Vl e).1 != k)=false by rw[h1];simp]
   simp only[Bool.false_eq_true,if_false]
   rw[List.filter_eq_self.2]
   ·exact List.Perm.refl _
   ·intro p hp
    obtain⟨e',Vi,rfl⟩:=List.mem_map.1 hp
    have:=Va.2 e' Vi
    simpa [Vl,← he] using this
  ·rw[if_neg he,List.map_cons,List.map_cons,List.filter_cons]
   have h1:((Vl e).1 != k)=true:=by simpa [Vl] using he
   rw[h1,if_pos rfl]
   have h2:∃u,JJ es k=some u:=by
    obtain⟨u,hu⟩:=h
    simp only[JJ,if_neg he]at hu
    exact⟨u,hu⟩
   exact(List.Perm.cons _ (rf k v Va.1 h2)).trans (List.Perm.swap _ _ _)
theorem VK.set {es:List QM} {P:List (Int × D)} (M:VK es P) (q:IntKind) (c:Nat) (k:Int) (v:D):∃c' es',Ka q c es k v=QG q c' es'∧VK es' (xW P k v):=by
 unfold Ka
 cases ha:JJ es k with
 | some u=>
  refine⟨c,je es k v,rfl,?_,re k v M.nd⟩
  exact(rf k v M.kJ ⟨u,ha⟩).trans (List.Perm.cons _ (M.perm.filter _))
 | none=>
  refine⟨c+1,es++[⟨k,v,c⟩],rfl,?_,re k v M.nd⟩
  rw[List.map_append,xW]
  have hd:kW P k=P:=by
   unfold kW
   rw[List.filter_eq_self]
   intro p hp
   rw[bne_iff_ne]
   intro e
   have:=(Nw M.nd (k:=k) (v:=p.2)).2 (by rw[← e];exact hp)
   rw[← M.look,ha]at this;cases this
  rw[hd]
  exact(List.perm_append_comm.trans (List.Perm.cons _ M.perm))
theorem rh:∀{es:List QM} (k:Int),Vq es→((ZQ es k).map Vl)=((es.map Vl).filter fun p=>p.1 != k)
 | [],_,_=>rfl
 | e::es,k,hn=>by
  have Va:Vq es∧∀e'∈es,e'.k≠e.k:=by
   unfold Vq at hn ⊢
   simp only[List.map_cons,List.nodup_cons,List.mem_map,not_exists,not_and]at hn
   exact⟨hn.2,hn.1⟩
  simp only[ZQ]
  by_cases he:e.k=k
  ·rw[if_pos he,List.map_cons,List.filter_cons,show ((Vl e).1 != k)=false by simpa [Vl] using he]
   simp only[Bool.false_eq_true,if_false]
   rw[List.filter_eq_self.2]
   intro p hp
   obtain⟨e',Vi,rfl⟩:=List.mem_map.1 hp
   have:=Va.2 e' Vi
   simpa [Vl,← he] using this
  ·rw[if_neg he,List.map_cons,List.map_cons,List.filter_cons,show ((Vl e).1 != k)=true by simpa [Vl] using he,if_pos rfl,rh k Va.1]
theorem VK.del {es:List QM} {P:List (Int × D)} (M:VK es P) (k:Int):VK (ZQ es k) (kW P k):=by
 refine⟨?_,rb k M.nd⟩
 rw[rh k M.kJ]
 exact M.perm.filter _
theorem VK.nil:VK [] []:=⟨by simp,by simp⟩
theorem VK.to {es:List QM} {P Q:List (Int × D)} (M:VK es P) (h:P.Perm Q):VK es Q:=⟨M.perm.trans h,((h.map Prod.fst).nodup_iff).1 M.nd⟩
structure Step (S:Nat→Prop) (h h':List Ob):Prop where
 keep:∀l,l<h.length→¬ S l→h'[l]? = h[l]?
 len:h.length≤h'.length
def more (S:Nat→Prop) (h:List Ob):Nat→Prop:=fun l=>S l∨h.length≤l
theorem Step.trans {S:Nat→Prop} {h h' XE:List Ob} (a:Step S h h') (b:Step (more S h) h' XE):Step S h XE:=
 ⟨fun l hl hn=>by rw[b.keep l (Nat.lt_of_lt_of_le hl a.len) (fun h1=>h1.elim hn (by omega)),a.keep l hl hn],Nat.le_trans a.len b.len⟩
theorem Step.refl (S:Nat→Prop) (h:List Ob):Step S h h:=⟨fun _ _ _=>rfl,Nat.le_refl _⟩
theorem Step.app (S:Nat→Prop) (h g:List Ob):Step S h (h++g):=⟨fun l hl _=>QU hl,by simp⟩
structure Jz (es:List QM) (f:Int→Option D):Prop where
 nd:Vq es
 at_:∀k,JJ es k=f k
section
variable {es:List QM} {f:Int→Option D}
theorem Jz.p (M:Jz es f):VK es (es.map Vl):=⟨List.Perm.refl _,by
 have h1:(es.map Vl).map Prod.fst=es.map (·.k):=by simp [Vl,Function.comp_def]
 rw[h1];exact M.nd⟩
theorem Jz.to {g:Int→Option D} (M:Jz es f) (h:∀k,f k=g k):Jz es g:=⟨M.nd,fun k=>(M.at_ k).trans (h k)⟩
theorem ri (P:List (Int × D)) (k j:Int):look (kW P k) j=if j=k then none else look P j:=by
 unfold look kW
 rw[List.find?_filter]
 by_cases h:j=k
 ·subst h
  rw[if_pos rfl,Option.map_eq_none_iff,List.find?_eq_none]
  intro p _ hp
  simp at hp
 ·rw[if_neg h]
  congr 2
  funext p
  by_cases h2:p.1=j
  ·simp [h2,h]
  ·simp [h2]
theorem Qk1 (P:List (Int × D)) (k:Int) (v:D) (j:Int):look (xW P k v) j=if j=k then some v else look P j:=by
 have h0:=ri P k j
 unfold look at h0 ⊢
 unfold xW
 rw[List.find?_cons]
 by_cases h:j=k
 ·subst h;simp
 ·have hb:((k,v).1==j)=false:=by simpa using Ne.symm h
  rw[hb,if_neg h]
  rw[if_neg h]at h0
  exact h0
theorem Jz.set (M:Jz es f) (q:IntKind) (c:Nat) (k:Int) (v:D):∃c' es',Ka q c es k v=QG q c' es'∧Jz es' (fun j=>if j=k then some v else f j):=by
 obtain⟨c',es',h1,h2⟩:=M.p.set q c k v
 refine⟨c',es',h1,h2.kJ,fun j=>?_⟩
 rw[h2.look,Qk1]
 split
 ·rfl
 ·rw[← M.p.look,M.at_]
theorem Jz.del (M:Jz es f) (k:Int):Jz (ZQ es k) (fun j=>if j=k then none else f j):=by
 have h2:=M.p.del k
 refine⟨h2.kJ,fun j=>?_⟩
 rw[h2.look,ri]
 split
 ·rfl
 ·rw[← M.p.look,M.at_]
theorem Jz.nil:Jz [] (fun _=>none):=⟨by simp [Vq],fun _=>rfl⟩
theorem Jz.rj (M:Jz es f):es.length=0↔∀k,f k=none:=by
 constructor
 ·intro h k
  rw[List.length_eq_zero_iff]at h
  rw[← M.at_,h];rfl
 ·intro h
  cases es with
  | nil=>rfl
  | cons e es=>
   have h1:=M.at_ e.k
   rw[h,JJ,if_pos rfl]at h1
   cases h1
end
def BZ (b:Bool):Int:=if b then 1 else 0
def YX (T:List Qj) (k:Int):Option D:=match Qr T k with
 | some c=>if 1<QI c.ls then some (.agg [Qb c.parent,Qb (BZ c.leaf)]) else none
 | none=>none
def jw (T:List Qj) (A:List Int) (k:Int):Option D:=if k∈A then some (Qb ((Qr T k).getD default).parent) else none
def wk (kl:Int→Option Nat) (k:Int):Option D:=(kl k).map fun l=>.mref l 0
def zF (f:Int→Bool) (i:Int):Option D:=if f i then some (Qb 1) else none
@[go_sem] def Nx (b1 b2 b3:Nat):Ob:=⟨.one,0,3,1,fun _=>[.mref b1 0,.mref b2 0,.mref b3 0]⟩
structure Xu (S:Nat→Prop) (h:List Ob) (p b1 b2 b3 c1 c2 c3:Nat) (Jd Jj Jo:List QM) (kl:Int→Option Nat) (T:List Qj) (A:List Int) (Kd:Int→Int→Bool):Prop where
 o:h[p]? = some (Nx b1 b2 b3)
 m1:h[b1]? = some (QG .i64 c1 Jd)
 f1:Jz Jd (YX T)
 m2:h[b2]? = some (QG .i64 c2 Jj)
 f2:Jz Jj (jw T A)
 m3:h[b3]? = some (QG .i64 c3 Jo)
 f3:Jz Jo (wk kl)
 ks:∀k l,kl k=some l→∃c es,h[l]? = some (QG .i64 c es)∧Jz es (zF (Kd k))
 kn:∀k i,kl k=none→Kd k i=false
 ki:∀k k' l,kl k=some l→kl k'=some l→k=k'
 G6:b1≠b2
 G7:b1≠b3
 Em:b2≠b3
 Ny:p≠b1
 G8:p≠b2
 xX:p≠b3
 nk:∀k l,kl k=some l→l≠p∧l≠b1∧l≠b2∧l≠b3
 sp:S p
 s1:S b1
 s2:S b2
 s3:S b3
 sk:∀k l,kl k=some l→S l
def Xv (S:Nat→Prop) (h:List Ob) (p:Nat) (T:List Qj) (A:List Int):Prop:=∃b1 b2 b3 c1 c2 c3 Jd Jj Jo kl,Xu S h p b1 b2 b3 c1 c2 c3 Jd Jj Jo kl T A (W6 T A)
theorem Xu.step {S S':Nat→Prop} {h h':List Ob} {p b1 b2 b3 c1 c2 c3:Nat} {Jd Jj Jo:List QM} {kl:Int→Option Nat} {T:List Qj} {A:List Int} {Kd:Int→Int→Bool}
  (e:∀l,l<h.length→S l→S' l∧h'[l]? = h[l]?) (T0:Xu S h p b1 b2 b3 c1 c2 c3 Jd Jj Jo kl T A Kd):Xu S' h' p b1 b2 b3 c1 c2 c3 Jd Jj Jo kl T A Kd:=by
 have k:∀l o,S l→h[l]? = some o→S' l∧h'[l]? = some o:=fun l o h1 h2=>⟨(e l (Qd h2) h1).1,(e l (Qd h2) h1).2.trans h2⟩
 refine⟨(k _ _ T0.sp T0.o).2,(k _ _ T0.s1 T0.m1).2,T0.f1,(k _ _ T0.s2 T0.m2).2,T0.f2,(k _ _ T0.s3 T0.m3).2,T0.f3,fun q l hl=>?_,T0.kn,T0.ki,T0.G6,T0.G7,T0.Em,T0.Ny,T0.G8,T0.xX,T0.nk,(k _ _ T0.sp T0.o).1,(k _ _ T0.s1 T0.m1).1,(k _ _ T0.s2 T0.m2).1,(k _ _ T0.s3 T0.m3).1,fun q l hl=>?_⟩
 ·obtain⟨c,es,h1,h2⟩:=T0.ks q l hl
  exact⟨c,es,(k _ _ (T0.sk q l hl) h1).2,h2⟩
 ·obtain⟨c,es,h1,h2⟩:=T0.ks q l hl
  exact(k _ _ (T0.sk q l hl) h1).1
theorem Xv.step {S S':Nat→Prop} {h h':List Ob} {p:Nat} {T:List Qj} {A:List Int} (e:∀l,l<h.length→S l→S' l∧h'[l]? = h[l]?):Xv S h p T A→Xv S' h' p T A:=
 fun⟨b1,b2,b3,c1,c2,c3,Jd,Jj,Jo,kl,O⟩=>⟨b1,b2,b3,c1,c2,c3,Jd,Jj,Jo,kl,O.step e⟩
structure Qk2 (h:List Ob) (p b1 b2 b3 c1 c2 c3:Nat) (Jd Jj Jo:List QM) (kl:Int→Option Nat) (T:List Qj) (A:List Int) (Kd:Int→Int→Bool):Prop where
 o:(h.map Ob.ro)[p]? = some (Nx b1 b2 b3).ro
 m1:(h.map Ob.ro)[b1]? = some (QG .i64 c1 Jd).ro
 f1:Jz Jd (YX T)
 m2:(h.map Ob.ro)[b2]? = some (QG .i64 c2 Jj).ro
 f2:Jz Jj (jw T A)
 m3:(h.map Ob.ro)[b3]? = some (QG .i64 c3 Jo).ro
 f3:Jz Jo (wk kl)
 ks:∀k l,kl k=some l→∃c es,(h.map Ob.ro)[l]? = some (QG .i64 c es).ro∧Jz es (zF (Kd k))
 kn:∀k i,kl k=none→Kd k i=false
def Av (h:List Ob) (p:Nat) (T:List Qj) (A:List Int):Prop:=∃b1 b2 b3 c1 c2 c3 Jd Jj Jo kl,Qk2 h p b1 b2 b3 c1 c2 c3 Jd Jj Jo kl T A (W6 T A)
theorem Xv.toR {S:Nat→Prop} {h:List Ob} {p:Nat} {T:List Qj} {A:List Int}:Xv S h p T A→Av h p T A:=
 fun⟨b1,b2,b3,c1,c2,c3,Jd,Jj,Jo,kl,O⟩=>⟨b1,b2,b3,c1,c2,c3,Jd,Jj,Jo,kl,ZA O.o,ZA O.m1,O.f1,ZA O.m2,O.f2,ZA O.m3,O.f3,fun k l hl=>by
  obtain⟨c,es,h1,h2⟩:=O.ks k l hl
  exact⟨c,es,ZA h1,h2⟩,O.kn⟩
theorem Av.more {h h':List Ob} {p:Nat} {T:List Qj} {A:List Int} (e:∀(l:Nat) (o:Ob),(h.map Ob.ro)[l]? = some o→(h'.map Ob.ro)[l]? = some o):Av h p T A→Av h' p T A:=
 fun⟨b1,b2,b3,c1,c2,c3,Jd,Jj,Jo,kl,O⟩=>⟨b1,b2,b3,c1,c2,c3,Jd,Jj,Jo,kl,e _ _ O.o,e _ _ O.m1,O.f1,e _ _ O.m2,O.f2,e _ _ O.m3,O.f3,fun k l hl=>by
  obtain⟨c,es,h1,h2⟩:=O.ks k l hl
  exact⟨c,es,e _ _ h1,h2⟩,O.kn⟩
theorem Qk3 {T:List Qj} (I:JD T) {A:List Int} (hA:zC T A) (id:Int) (h0:id≠0):(id∈A∨∃i,W6 T A id i=true)↔Zu T A id=true:=by
 constructor
 ·rintro (h|⟨i,hi⟩)
  ·obtain⟨c,h1,h2,h3⟩:=hA id h
   exact V6.2 ⟨id,h,VH I h1⟩
  ·obtain⟨c,h1,h2,h3⟩:=qJ.1 hi
   obtain⟨d,hd,_⟩:=I.XN c (zB I h1) (by rw[h2];exact h0)
   rw[h2]at hd
   exact BT I h3 (by rw[JS I h1,h2];exact List.mem_cons_of_mem _ (VH I hd))
 ·intro h
  obtain⟨a,ha,hi⟩:=V6.1 h
  by_cases QD:a=id
  ·subst QD;exact .inl ha
  ·obtain⟨i,c,h1,h2,h3⟩:=Nk I hi QD
   exact .inr ⟨i,qJ.2 ⟨c,h2,h3,V6.2 ⟨a,ha,h1⟩⟩⟩
end Go.Fg.X
namespace Go.Fg.X
open Go.Proofs Go.Fg
open Go.RowKit (Below)
open Go.Proofs.Tryz
theorem SP {P:Program} {f:FuncId} {h:List Ob} {args:List D} {R:D→List Ob→Prop} (d2:D) (hu:∀k,d2.upto k=true)
  (hd:∀d g,R d g→Jb 6 d d2∨∃lo gn sz n row,h.length≤lo∧(h++g)[lo]? = some ⟨.arr,gn,sz,n,row⟩∧(∀i,i<n→(row i).all D.ko=true)∧Jb 6 (D.fz lo gn n sz row d) d2) (H:J8 P f h args R):QP P f h args (fun d=>d=d2):=by
 intro Z base w pl vs h1 h2 h3 hl hc
 have Gw:QW Z w.heap.size (h.map Ob.ro) pl w:=by
  refine⟨h3.len,h3.inj,h3.J2,fun l o b q ho hp=>⟨fun hr=>?_,(h3.at_ l o b q ho hp).2⟩⟩
  obtain⟨o',_,rfl⟩:=Ac ho
  rw[LJ,Kd.toRo_ro]at hr;cases hr
 refine(H Z w.heap.size w pl vs (Nat.le_refl _) h2 Gw hl hc).mono fun e w' he=>?_
 obtain⟨v,d,_,Qi,rfl,⟨g,rfl,hR⟩,hO,hV,hT,hB⟩:=he
 have hE:∀b,b<w.heap.size→w'.heap[b]? = w.heap[b]? := fun b hb=>hB.block b hb
 have Q4:∀(l:Nat),l<h.length→Qi[l]? = pl[l]? := fun l hl=>by
  have Jf:l<pl.length:=by rw[h3.len];simpa using hl
  obtain⟨o',p',m1,m2,_,_,m3⟩:=hT.obj l _ _ (ZA (List.getElem?_eq_getElem hl)) (List.getElem?_eq_getElem Jf)
  rw[List.getElem?_append_left (by simpa using hl),ZA (List.getElem?_eq_getElem hl)]at m1
  cases m1
  obtain⟨_,rfl⟩:=m3 rfl
  rw[m2,List.getElem?_eq_getElem Jf]
 have e1:(h.map Ob.ro++g).take h.length=h.map Ob.ro:=List.take_left' (by simp)
 have Nz:Qv Z (h.map Ob.ro) pl w' d2 v→_:=fun hx=>(⟨v,d2,h.map Ob.ro,pl,rfl,⟨[],(List.append_nil _).symm,hu _,rfl⟩,h3.ext hE,hx,Go.Fg.Tr.ext h3 hE,hB.mono h1⟩:∃v' d h' Qi,Ending.returned v=.returned v'∧(∃g,h'=h.map Ob.ro++g∧d.upto h.length=true∧d=d2)∧QW Z base h' Qi w'∧Qv Z h' Qi w' d v'∧Go.Fg.Tr (h.map Ob.ro) pl w h' Qi w'∧Below base w w')
 refine Nz ?_
 rcases hd _ _ hR with hle|⟨lo,gn,sz,n,row,rk,Zr,ZP,hle⟩
 ·have r:=(vV 6 hle hV).take (hu h.length)
  have e2:Qi.take h.length=pl:=by
   apply List.ext_getElem?
   intro i
   rw[List.getElem?_take]
   by_cases hi:i<h.length
   ·rw[if_pos hi,Q4 i hi]
   ·rw[if_neg hi,List.getElem?_eq_none (by rw[h3.len];simp;omega)]
  rw[e1,e2]at r
  exact r
 have zG:(h.map Ob.ro++g)[lo]? = some ⟨.arr,gn,sz,n,row⟩:=by
  rw[List.getElem?_append_right (by omega)]at Zr
  rw[List.getElem?_append_right (by simpa using rk)];simpa using Zr
 have Qd:lo<Qi.length:=by rw[hO.len];exact(List.getElem?_eq_some_iff.1 zG).1
 obtain⟨p,hp⟩:∃p,Qi[lo]? = some p:=⟨_,List.getElem?_eq_getElem Qd⟩
 have Eo:=hV.fz (l:=lo) (o:=⟨.arr,gn,sz,n,row⟩) (p:=p) zG hp rfl (fun b q e=>by
  subst e
  refine⟨h2 b ?_,fun l' q' e'=>hO.inj _ _ _ _ _ e' hp,(hO.at_ lo _ b q zG hp).2.cells rfl⟩
  exact(hO.at_ lo _ b q zG hp).1 rfl) ZP (h':=(h.map Ob.ro++g).set lo (Ob.gone ⟨.arr,gn,sz,n,row⟩)) (fun l' o' QD e=>by
  exact⟨o',by rw[List.getElem?_set_ne (Ne.symm QD)];exact e,rfl,rfl,rfl⟩)
 have r:=(vV 6 hle Eo).take (hu h.length)
 have e3:((h.map Ob.ro++g).set lo (Ob.gone ⟨.arr,gn,sz,n,row⟩)).take h.length=h.map Ob.ro:=by
  rw[List.set_append_right _ _ (by simpa using rk)]
  exact List.take_left' (by simp)
 have e2:(Qi.set lo none).take h.length=pl:=by
  apply List.ext_getElem?
  intro i
  rw[List.getElem?_take]
  by_cases hi:i<h.length
  ·rw[if_pos hi,List.getElem?_set_ne (by omega),Q4 i hi]
  ·rw[if_neg hi,List.getElem?_eq_none (by rw[h3.len];simp;omega)]
 rw[e3,e2]at r
 exact r
end Go.Fg.X
namespace Go.Fg.X
open Go.Proofs Go.Fg
open Go.Proofs.Tryz
section
variable (h:List Ob) (t m c:Nat) {es:List QM} {L:List Qj} (T:JQ es L) (hlen:L.length<1000000)
 (ht:(h.map Ob.ro)[t]? = some ⟨.KF,0,1,1,fun _=>[.mref m 0]⟩) (hm:(h.map Ob.ro)[m]? = some (QG .i64 c es).ro)
include T ht hm hlen
theorem Qk4:J8 prog 139 h [.ptr t 0 0 0] (fun d g=>Z4 h.length (h++g) d ((L.filter (·.leaf)).map (·.iD))):=by
 refine Yk Qe 200 func139 rfl ntmps139 results139 rfl fun base w pl F hF QS hb=>?_
 rw[← hF]at ht hm
 have QY:=Qd ht
 have QO:=Qd hm
 simp only[go_sem,simprocAttr,Qa,ht,QY,hm,QO]
 have hT:GL (F.map Ob.ro) 193 0 [] (fun x=>x.leaf):=fun h' x zf=>by
  refine Zi Qe 200 func193 rfl ntmps193 results193 rfl fun base w pl F hF QS hb=>?_
  simp only[go_sem,simprocAttr,Qa]
  exact⟨_,rfl⟩
 refine Ad hb MK rfl ?_ (Nf _ t m c T hlen (ZA ht) (BO hm) (.raw (.func (.func 193) ⟨[]⟩ ⟨[]⟩)) 193 0 [] Qi8 rfl _ hT) rfl fun d g hs=>?_
 ·simp only[go_sem,simprocAttr]
 refine Qc hb ?_
 simp only[go_sem,simprocAttr,Qa]
 exact Z4.done QS ⟨_,rfl⟩ hs
end
theorem wm {h g:List Ob} (l:Nat) (o:Ob) (e:(h.map Ob.ro)[l]? = some o):((h++g).map Ob.ro)[l]? = some o:=by
 rw[List.map_append,List.getElem?_append_left (Jv e)];exact e
theorem Z4.closed {P:Program} {f:FuncId} {h:List Ob} {args:List D} {L:List Int} (H:J8 P f h args (fun d g=>Z4 h.length (h++g) d L)):QP P f h args (fun d=>d=ints L):=by
 refine SP (ints L) (fun _=>rfl) ?_ H
 rintro d g (⟨rfl,h3⟩|⟨lo,gn,off,row,rfl,⟨Zr,rfl⟩,ho,hr⟩)
 ·subst h3
  exact .inl rfl
 ·refine .inr ⟨lo,gn,1,_,row,Zr,ho,fun i hi=>?_,?_⟩
  ·have:=hr i (by omega)
   rw[Nat.zero_add]at this
   rw[this];rfl
  ·have e1:D.fz lo gn (0+L.length) 1 row (.ref lo gn 0 L.length)=.imm 1 L.length (rowFrom 0 row):=by simp [D.fz,Gg]
   rw[e1]
   simp only[ints]
   rw[Gv]
   refine⟨rfl,rfl,fun i hi=>?_⟩
   rw[DO,hr i hi,QjG]
   exact Aa (Ab _) _
theorem Qk5 (h:List Ob) (x:Qj):QP prog 62 h [Vw x] (fun d=>d=QN true):=by
 refine Zi Qe 200 func62 rfl ntmps62 results62 rfl fun base w pl F hF QS hb=>?_
 simp only[go_sem,simprocAttr,Qa]
 all_goals first|exact⟨_,rfl,rfl⟩|exact⟨_,rfl⟩|rfl|exact⟨[],(List.append_nil _).symm⟩|exact⟨[],(List.append_nil _).symm,rfl⟩
section
variable (h:List Ob) (t m c:Nat) {es:List QM} {L:List Qj} (T:JQ es L) (hlen:L.length<1000000)
 (ht:(h.map Ob.ro)[t]? = some ⟨.KF,0,1,1,fun _=>[.mref m 0]⟩) (hm:(h.map Ob.ro)[m]? = some (QG .i64 c es).ro)
include T ht hm hlen
theorem Qk6:J8 prog 21 h [.ptr t 0 0 0] (fun d g=>Z4 h.length (h++g) d ((L.filter (fun _=>true)).map (·.iD))):=by
 refine Yk Qe 200 func21 rfl ntmps21 results21 rfl fun base w pl F hF QS hb=>?_
 rw[← hF]at ht hm
 have QY:=Qd ht
 have QO:=Qd hm
 simp only[go_sem,simprocAttr,Qa,ht,QY,hm,QO]
 have hT:GL (F.map Ob.ro) 62 0 [] (fun x=>true):=fun h' x zf=>Qk5 h' x
 refine Ad hb MK rfl ?_ (Nf _ t m c T hlen (ZA ht) (BO hm) (.raw (.func (.func 62) ⟨[]⟩ ⟨[]⟩)) 62 0 [] QiA rfl _ hT) rfl fun d g hs=>?_
 ·simp only[go_sem,simprocAttr]
 refine Qc hb ?_
 simp only[go_sem,simprocAttr,Qa]
 exact Z4.done QS ⟨_,rfl⟩ hs
end
def Ke (S:Nat→Prop) (h:List Ob) (t:Nat) (T:List Qj):Prop:=∃m c es,h[t]? = some ⟨.one,0,1,1,fun _=>[.mref m 0]⟩∧h[m]? = some (QG .i64 c es)∧JQ es T∧S t∧S m
def Kz (h:List Ob) (t:Nat) (T:List Qj):Prop:=∃m c es,(h.map Ob.ro)[t]? = some ⟨.KF,0,1,1,fun _=>[.mref m 0]⟩∧(h.map Ob.ro)[m]? = some (QG .i64 c es).ro∧JQ es T
theorem Ke.toR {S:Nat→Prop} {h:List Ob} {t:Nat} {T:List Qj}:Ke S h t T→Kz h t T:=fun⟨m,c,es,h1,h2,h3,_,_⟩=>⟨m,c,es,ZA h1,ZA h2,h3⟩
theorem Ke.step {S S':Nat→Prop} {h h':List Ob} {t:Nat} {T:List Qj} (e:∀l,l<h.length→S l→S' l∧h'[l]? = h[l]?):Ke S h t T→Ke S' h' t T:=fun⟨m,c,es,h1,h2,h3,h4,h5⟩=>
 ⟨m,c,es,((e _ (Qd h1) h4).2).trans h1,((e _ (Qd h2) h5).2).trans h2,h3,(e _ (Qd h1) h4).1,(e _ (Qd h2) h5).1⟩
theorem Kz.more {h h':List Ob} {t:Nat} {T:List Qj} (e:∀(l:Nat) (o:Ob),(h.map Ob.ro)[l]? = some o→(h'.map Ob.ro)[l]? = some o):Kz h t T→Kz h' t T:=fun⟨m,c,es,h1,h2,h3⟩=>⟨m,c,es,e _ _ h1,e _ _ h2,h3⟩
section
variable {h:List Ob} {t:Nat} {T:List Qj} (R:Kz h t T) (hlen:T.length<1000000)
include R hlen
theorem NA:QP prog 21 h [.ptr t 0 0 0] (fun d=>d=ints (T.map (·.iD))):=by
 obtain⟨m,c,es,ht,hm,hT⟩:=R
 have:=Z4.closed (Qk6 h t m c hT hlen ht hm)
 rwa [List.filter_eq_self.2 (fun _ _=>rfl)]at this
theorem Qk7 (id:Int):QP prog 23 h [.ptr t 0 0 0,Qb id] (fun d=>d=ints (KZ T id)):=by
 obtain⟨m,c,es,ht,hm,hT⟩:=R
 exact Z4.closed (Se h t m c hT hlen ht hm id)
omit hlen in
theorem SQ (I:TreeInv T) (id:Int):QP prog 37 h [.ptr t 0 0 0,Qb id] (fun d=>d=ints (ZI T 16 id)):=by
 obtain⟨m,c,es,ht,hm,hT⟩:=R
 exact Z4.closed (pf h t m c hT ht hm id 16 (by decide) (I.ends id))
omit hlen in
theorem Ep (id:Int):QP prog 56 h [.ptr t 0 0 0,Qb id] (fun d=>d=.tup [Vw ((Qr T id).getD default),Qb (if (Qr T id).isSome then 0 else 6)]):=by
 obtain⟨m,c,es,ht,hm,hT⟩:=R
 exact pe h t m c hT ht hm id
end
theorem NB {f:Int→Bool} {es:List QM} (M:Jz es (zF f)):0<es.length↔∃i,f i=true:=by
 constructor
 ·intro h
  refine Classical.byContradiction fun h2=>?_
  have:=M.rj.2 fun k=>by
   unfold zF
   rw[if_neg (fun h3=>h2 ⟨k,h3⟩)]
  omega
 ·rintro⟨i,hi⟩
  refine Nat.pos_of_ne_zero fun h=>?_
  have:=M.rj.1 h i
  unfold zF at this
  rw[if_pos hi]at this
  cases this
theorem wo {h:List Ob} {p:Nat} {T:List Qj} {A:List Int} (O:Av h p T A) (I:JD T) (hA:zC T A) (id:Int) (h0:id≠0):QP prog 63 h [.ptr p 0 0 0,Qb id] (fun d=>d=QN (Zu T A id)):=by
 obtain⟨b1,b2,b3,c1,c2,c3,Jd,Jj,Jo,kl,O⟩:=O
 obtain⟨ho,m1,f1,m2,f2,m3,f3,ks,kn⟩:=O
 have hi:=Qk3 I hA id h0
 have k2:=f2.at_ id
 have k3:=f3.at_ id
 by_cases QQ:id∈A
 ·have e:Zu T A id=true:=hi.1 (.inl QQ)
  rw[jw,if_pos QQ]at k2
  rw[e]
  refine Zi Qe 200 func63 rfl ntmps63 results63 rfl fun base w pl F hF QS hb=>?_
  rw[← hF]at ho m2
  have Qf:=Qd ho
  have Aw:=Qd m2
  simp only[go_sem,simprocAttr,Qa,ho,Qf,m2,Aw,k2,Go.undef]
  all_goals first|exact⟨_,rfl,rfl⟩|exact⟨_,rfl⟩|rfl|exact⟨[],(List.append_nil _).symm⟩|exact⟨[],(List.append_nil _).symm,rfl⟩
 ·rw[jw,if_neg QQ]at k2
  cases hk:kl id with
  | none=>
   have e:Zu T A id=false:=by
    rw[Bool.eq_false_iff];intro h
    rcases hi.2 h with h|⟨i,h⟩
    ·exact QQ h
    ·rw[kn id i hk]at h;cases h
   rw[wk,hk,Option.map_none]at k3
   rw[e]
   refine Zi Qe 200 func63 rfl ntmps63 results63 rfl fun base w pl F hF QS hb=>?_
   rw[← hF]at ho m2 m3
   have Qf:=Qd ho
   have Aw:=Qd m2
   have WE:=Qd m3
   simp only[go_sem,simprocAttr,Qa,ho,Qf,m2,Aw,m3,WE,k2,k3,Go.undef]
   all_goals first|exact⟨_,rfl,rfl⟩|exact⟨_,rfl⟩|rfl|exact⟨[],(List.append_nil _).symm⟩|exact⟨[],(List.append_nil _).symm,rfl⟩
  | some l=>
   obtain⟨c,es,ml,fl⟩:=ks id l hk
   rw[wk,hk,Option.map_some]at k3
   have hl:=NB fl
   have Wz:0<es.length↔Zu T A id=true:=hl.trans ⟨fun h=>hi.1 (.inr h),fun h=>(hi.2 h).elim (fun h=>absurd h QQ) fun h=>h⟩
   have d0:decide (0<es.length)=Zu T A id:=by
    cases hq:Zu T A id with
    | true=>exact decide_eq_true (Wz.2 hq)
    | false=>exact decide_eq_false fun h=>by rw[Wz.1 h]at hq;cases hq
   have d1:decide ((0:Int)<(es.length:Int))=Zu T A id:=by rw[← d0];congr 1;rw[eq_iff_iff];omega
   refine Zi Qe 200 func63 rfl ntmps63 results63 rfl fun base w pl F hF QS hb=>?_
   rw[← hF]at ho m2 m3 ml
   have Qf:=Qd ho
   have Aw:=Qd m2
   have WE:=Qd m3
   have qO:=Qd ml
   simp only[go_sem,simprocAttr,Qa,ho,Qf,m2,Aw,m3,WE,ml,qO,k2,k3,Go.undef,d1]
   all_goals first|exact⟨_,rfl,rfl⟩|exact⟨_,rfl⟩|rfl|exact⟨[],(List.append_nil _).symm⟩|exact⟨[],(List.append_nil _).symm,rfl⟩
theorem Step.G9 {S:Nat→Prop} {h H:List Ob} (s:Step S h H) {l:Nat} (hl:more S h l) (o:Ob):Step S h (H.set l o):=
 ⟨fun j h1 h2=>by
  have QD:l≠j:=by
   rintro rfl
   rcases hl with h3|h3
   ·exact h2 h3
   ·omega
  rw[Qt QD];exact s.keep j h1 h2,by rw[List.length_set];exact s.len⟩
theorem Step.SR {S:Nat→Prop} {h H:List Ob} (s:Step S h H) (g:List Ob):Step S h (H++g):=
 ⟨fun j h1 h2=>by rw[QU (Nat.lt_of_lt_of_le h1 s.len)];exact s.keep j h1 h2,by have:=s.len;simp;omega⟩
structure Er (S:Nat→Prop) (h:List Ob) (p:Nat) (T:List Qj) (A:List Int) (leaf:Int) (n:Nat) (s:St):Prop where
 ex:∃id dn c lo g row H S' b1 b2 b3 c1 c2 c3 Jd Jj Jo kl,up T leaf=dn++up T id∧Qr T id=some c∧(up T id).length≤n∧(∀i∈dn++[id],Zu T A i=false) ∧
  Xu S' H p b1 b2 b3 c1 c2 c3 Jd Jj Jo kl T (leaf::A) (XQ T A dn)∧(∀l,S' l→more S h l∧l<H.length)∧¬ S' lo∧h.length≤lo∧Step S h H ∧
  H[lo]? = some ⟨.arr,g,1,dn.length+1,row⟩∧(∀i,i<dn.length+1→row i=[Qb ((dn++[id]).getD i 0)]) ∧
  s=⟨[(0,.ptr p 0 0 0),(6,.ref lo g 0 (dn.length+1)),(7,Qb id)],H⟩
section
variable {S:Nat→Prop} {h:List Ob} {p b1 b2 b3 c1 c2 c3:Nat} {Jd Jj Jo:List QM} {kl:Int→Option Nat} {T:List Qj} {A:List Int} {Kd:Int→Int→Bool} (O:Xu S h p b1 b2 b3 c1 c2 c3 Jd Jj Jo kl T A Kd)
include O
theorem Xu.rm {c2':Nat} {Es:List QM} {A':List Int} (M2:Jz Es (jw T A')):Xu S (h.set b2 (QG .i64 c2' Es)) p b1 b2 b3 c1 c2' c3 Jd Es Jo kl T A' Kd:=by
 refine⟨(Qt (Ne.symm O.G8)).trans O.o,(Qt (Ne.symm O.G6)).trans O.m1,O.f1,Qw (Qd O.m2),M2,(Qt O.Em).trans O.m3,O.f3,fun k l hl=>?_,O.kn,O.ki,O.G6,O.G7,O.Em,O.Ny,O.G8,O.xX,O.nk,O.sp,O.s1,O.s2,O.s3,O.sk⟩
 obtain⟨c,es,h1,h2⟩:=O.ks k l hl
 exact⟨c,es,(Qt (Ne.symm (O.nk k l hl).2.2.1)).trans h1,h2⟩
theorem Xu.rn {k:Int} {l c':Nat} {es':List QM} {Kd':Int→Int→Bool} (hk:kl k=some l) (M:Jz es' (zF (Kd' k))) (he:∀j,j≠k→∀i,Kd' j i=Kd j i):Xu S (h.set l (QG .i64 c' es')) p b1 b2 b3 c1 c2 c3 Jd Jj Jo kl T A Kd':=by
 obtain⟨n0,n1,n2,n3⟩:=O.nk k l hk
 have hl:l<h.length:=by
  obtain⟨c,es,h1,h2⟩:=O.ks k l hk
  exact Qd h1
 refine⟨(Qt n0).trans O.o,(Qt n1).trans O.m1,O.f1,(Qt n2).trans O.m2,O.f2,(Qt n3).trans O.m3,O.f3,fun j m hj=>?_,fun j i hj=>?_,O.ki,O.G6,O.G7,O.Em,O.Ny,O.G8,O.xX,O.nk,O.sp,O.s1,O.s2,O.s3,O.sk⟩
 ·by_cases Kv:j=k
  ·subst Kv
   rw[hk]at hj;cases hj
   exact⟨c',es',Qw hl,M⟩
  ·obtain⟨c,es,h1,h2⟩:=O.ks j m hj
   have QD:l≠m:=fun e=>Kv (O.ki j k m hj (by rw[← e];exact hk))
   exact⟨c,es,(Qt QD).trans h1,h2.to fun i=>by unfold zF;rw[he j Kv i]⟩
 ·have Kv:j≠k:=by rintro rfl;rw[hk]at hj;cases hj
  rw[he j Kv i];exact O.kn j i hj
theorem Xu.Qk8 {k:Int} {n c c3':Nat} {es es3':List QM} {Kd':Int→Int→Bool} (hn:h[n]? = some (QG .i64 c es)) (M:Jz es (zF (Kd' k))) (h0:n≠p) (h1:n≠b1) (h2:n≠b2) (h3:n≠b3) (h4:∀j l,kl j=some l→l≠n) (sn:S n)
  (M3:Jz es3' (fun j=>if j=k then some (.mref n 0) else wk kl j)) (he:∀j,j≠k→∀i,Kd' j i=Kd j i):Xu S (h.set b3 (QG .i64 c3' es3')) p b1 b2 b3 c1 c2 c3' Jd Jj es3' (fun j=>if j=k then some n else kl j) T A Kd':=by
 refine⟨(Qt (Ne.symm O.xX)).trans O.o,(Qt (Ne.symm O.G7)).trans O.m1,O.f1,(Qt (Ne.symm O.Em)).trans O.m2,O.f2,Qw (Qd O.m3),M3.to fun j=>?_,fun j m hj=>?_,fun j i hj=>?_,fun j j' m hj Ku=>?_,O.G6,O.G7,O.Em,O.Ny,O.G8,O.xX,fun j m hj=>?_,O.sp,O.s1,O.s2,O.s3,fun j m hj=>?_⟩
 ·by_cases Kv:j=k<;>simp [wk,Kv]
 ·by_cases Kv:j=k
  ·subst Kv
   rw[if_pos rfl]at hj;cases hj
   exact⟨c,es,(Qt (Ne.symm h3)).trans hn,M⟩
  ·rw[if_neg Kv]at hj
   obtain⟨c,es,g1,g2⟩:=O.ks j m hj
   exact⟨c,es,(Qt (Ne.symm (O.nk j m hj).2.2.2)).trans g1,g2.to fun i=>by unfold zF;rw[he j Kv i]⟩
 ·by_cases Kv:j=k
  ·subst Kv;rw[if_pos rfl]at hj;cases hj
  ·rw[if_neg Kv]at hj
   rw[he j Kv i];exact O.kn j i hj
 ·by_cases Kv:j=k
  ·by_cases Ha:j'=k
   ·rw[Kv,Ha]
   ·rw[if_pos Kv]at hj;rw[if_neg Ha]at Ku;cases hj
    exact absurd rfl (h4 _ _ Ku)
  ·by_cases Ha:j'=k
   ·rw[if_neg Kv]at hj;rw[if_pos Ha]at Ku;cases Ku
    exact absurd rfl (h4 _ _ hj)
   ·rw[if_neg Kv]at hj;rw[if_neg Ha]at Ku
    exact O.ki j j' m hj Ku
 ·by_cases Kv:j=k
  ·rw[if_pos Kv]at hj;cases hj;exact⟨h0,h1,h2,h3⟩
  ·rw[if_neg Kv]at hj;exact O.nk j m hj
 ·by_cases Kv:j=k
  ·rw[if_pos Kv]at hj;cases hj;exact sn
  ·rw[if_neg Kv]at hj;exact O.sk j m hj
theorem Xu.app (g:List Ob):Xu S (h++g) p b1 b2 b3 c1 c2 c3 Jd Jj Jo kl T A Kd:=O.step fun l hl h1=>⟨h1,QU hl⟩
end
theorem Er.of {S:Nat→Prop} {h:List Ob} {p:Nat} {T:List Qj} {A:List Int} {leaf:Int} {n:Nat} {id:Int} {dn:List Int} {c:Qj} {lo g k:Nat} (row:Nat→List D) {H:List Ob} (S':Nat→Prop) {b1 b2 b3 c1 c2 c3:Nat} {Jd Jj Jo:List QM} {kl:Int→Option Nat}
  (hu:up T leaf=dn++up T id) (hc:Qr T id=some c) (hn:(up T id).length≤n) (ha:∀i∈dn++[id],Zu T A i=false) (O:Xu S' H p b1 b2 b3 c1 c2 c3 Jd Jj Jo kl T (leaf::A) (XQ T A dn)) (hS:∀l,S' l→more S h l∧l<H.length) (h1:¬ S' lo) (h2:h.length≤lo) (hs:Step S h H)
  (hk:k=dn.length+1) (h3:H[lo]? = some ⟨.arr,g,1,k,row⟩) (h4:∀i,i<dn.length+1→row i=[Qb ((dn++[id]).getD i 0)]):Er S h p T A leaf n ⟨[(0,.ptr p 0 0 0),(6,.ref lo g 0 k),(7,Qb id)],H⟩:=by
 subst hk
 exact⟨⟨id,dn,c,lo,g,row,H,S',b1,b2,b3,c1,c2,c3,Jd,Jj,Jo,kl,hu,hc,hn,ha,O,hS,h1,h2,hs,h3,h4,rfl⟩⟩
theorem Qk9 (T:List Qj) (A:List Int) (leaf:Int) (k:Int):(if k=leaf then some (Qb ((Qr T leaf).getD default).parent) else jw T A k)=jw T (leaf::A) k:=by
 unfold jw
 by_cases h:k=leaf
 ·subst h;simp
 ·simp [h]
theorem rq {S:Nat→Prop} {h:List Ob} {p:Nat} {T:List Qj} {A:List Int} (O:Xv S h p T A) (I:JD T) (hA:zC T A) (leaf:Int) (c:Qj) (hc:Qr T leaf=some c) (Yr:c.leaf=true) (W9:1<QI c.ls) (Z9:Zu T A leaf=false) :
  QH prog 58 h [.ptr p 0 0 0,Qb leaf] (fun d h'=>∃d1,d=.tup [d1,Qb 0]∧Z4 h.length h' d1 (VI T A leaf)∧Xv (more S h) h' p T (leaf::A)∧Step S h h'):=by
 have O0:=O
 have hR:=O.toR
 obtain⟨b1,b2,b3,c1,c2,c3,Jd,Jj,Jo,kl,O⟩:=O
 have ho:=O.o
 have m1:=O.m1
 have m2:=O.m2
 have m3:=O.m3
 have k1:=O.f1.at_ leaf
 rw[YX,hc]at k1
 simp only[if_pos W9,Yr,BZ,if_true]at k1
 have SS:leaf≠0:=fun e=>by rw[e,BQ I]at hc;cases hc
 have B0:=wo hR I hA leaf SS
 rw[Z9]at B0
 obtain⟨c2',Es,e2,M2⟩:=O.f2.set .i64 c2 leaf (Qb c.parent)
 simp only[go_sem,simprocAttr]at e2
 refine QX Qe 200 func58 rfl ntmps58 results58 rfl fun base w pl hb=>?_
 have Qf:=Qd ho
 have YY:=Qd m1
 simp only[go_sem,simprocAttr,Qa,ho,Qf,m1,YY,k1]
 refine QK hb Ah rfl ?_ B0 rfl fun d hR=>?_
 ·simp only[go_sem,simprocAttr,Qa,ho,Qf]
 subst hR
 refine Qc hb ?_
 simp only[go_sem,simprocAttr,Qa,ho,Qf]
 refine QA Qe hb 200 mixed [(0,true),(1,true),(2,true),(3,true),(4,true),(5,true),(6,true),(7,true),(8,true),(9,true),(10,true),(11,true),(12,false)] (by kernel_rfl) (by kernel_rfl) ?_
 simp only[go_sem,simprocAttr,Qa,ho,Qf,m1,Qd m1,m2,Qd m2,k1]
 simp only[e2]
 have Hb:Er S h p T A leaf (up T leaf).length ⟨[(0,.ptr p 0 0 0),(6,.ref h.length 0 0 1),(7,Qb leaf)],h.set b2 (QG .i64 c2' Es)++[⟨.arr,0,1,1,fun _=>[Qb leaf]⟩]⟩:=by
  have O2:=((O.step (S':=fun l=>S l∧l<h.length) fun l h1 h2=>⟨⟨h2,h1⟩,rfl⟩).rm (c2':=c2') (M2.to fun k=>by
   have hp:(Qr T leaf).getD default=c:=by rw[hc];rfl
   have:=Qk9 T A leaf k
   rw[hp]at this;exact this)).app [⟨.arr,0,1,1,fun _=>[Qb leaf]⟩]
  refine⟨leaf,[],c,h.length,0,fun _=>[Qb leaf],_,fun l=>S l∧l<h.length,b1,b2,b3,c1,c2',c3,Jd,Es,Jo,kl,rfl,hc,Nat.le_refl _,fun i hi=>?_,?_,fun l h1=>⟨.inl h1.1,by have:=h1.2;simp;omega⟩,fun h1=>by have:=h1.2;omega,Nat.le_refl _,⟨fun l h1 h2=>?_,by simp⟩,?_,fun i hi=>?_,rfl⟩
  ·simp only[List.nil_append,List.mem_singleton]at hi;rw[hi];exact Z9
  ·rw[show XQ T A []=W6 T A from funext fun p=>funext fun i=>Qkl T A p i]
   exact O2
  ·rw[QU (by simpa using h1),Qt (fun (e:b2=l)=>h2 (e▸O.s2))]
  ·rw[Kc (by simp)];rfl
  ·obtain rfl:i=0:=by simp at hi;omega
   rfl
 refine Dt (Er S h p T A leaf) (up T leaf).length (Qk.frame (by simp only[go_sem,simprocAttr])) Hb ?_
 clear Hb O m1 m2 m3 ho k1 e2 M2 B0 O0 hR
 rintro n s ⟨id,dn,cc,lo,g,row,H,S',b1,b2,b3,c1,c2,c3,Jd,Jj,Jo,kl,hu,Kf,hn,Ax,O,hS,Zr,zG,ZJ,XU,ZR,rfl⟩
 have ho:=O.o
 have m1:=O.m1
 have m3:=O.m3
 have Qf:=Qd ho
 have YY:=Qd m1
 have WE:=Qd m3
 have Ay:=Qd XU
 obtain⟨d0,Az,ZW⟩:=pC I hc W9 id (by rw[hu];exact List.mem_append_right _ (VH I Kf))
 rw[Kf]at Az;cases Az
 have k1:=O.f1.at_ id
 rw[YX,Kf]at k1
 simp only[if_pos ZW]at k1
 have k3:=O.f3.at_ cc.parent
 have Zj:=Qkj I hA hu Kf Ax
 have NC:=Qkk I (A:=A) (dn:=dn) Kf
 have SU:b3≠lo:=fun e=>Zr (e▸O.s3)
 have Que:p≠lo:=fun e=>Zr (e▸O.sp)
 have Quf:b1≠lo:=fun e=>Zr (e▸O.s1)
 have fin:∀(H2:List Ob) (S2:Nat→Prop) c3' es3' ru,Xu S2 H2 p b1 b2 b3 c1 c2 c3' Jd Jj es3' ru T (leaf::A) (XQ T A (dn++[id]))→(∀l,S2 l→more S h l)→Step S h H2→H2[lo]? = some ⟨.arr,g,1,dn.length+1,row⟩→(cc.parent=0∨Zu T A cc.parent=true) →
   Z4 h.length H2 (.ref lo g 0 (dn.length+1)) (VI T A leaf)∧Xv (more S h) H2 p T (leaf::A)∧Step S h H2:=fun H2 S2 c3' es3' ru O2 B1 AA Qla he=>by
  obtain⟨e1,e2⟩:=Qkm I hA hu Kf Ax he
  rw[← e1]
  refine⟨.inr ⟨lo,g,0,row,by simp,⟨zG,rfl⟩,by simpa using Qla,fun i hi=>?_⟩,?_,AA⟩
  ·rw[Nat.zero_add];exact ZR i (by simpa using hi)
  ·rw[show XQ T A (dn++[id])=W6 T (leaf::A) from funext fun p=>funext fun i=>e2 p i]at O2
   exact⟨_,_,_,_,_,_,_,_,_,_,O2.step fun l h1 h2=>⟨B1 l h2,rfl⟩⟩
 by_cases Et:∃i,XQ T A dn cc.parent i=true
 ·
  cases hk:kl cc.parent with
  | none=>obtain⟨i,hi⟩:=Et;rw[O.kn _ i hk]at hi;cases hi
  | some l=>
   obtain⟨c,es,ml,fl⟩:=O.ks _ l hk
   have qO:=Qd ml
   rw[wk,hk,Option.map_some]at k3
   have j9:0<es.length:=(NB fl).2 Et
   have d1:((es.length:Int)==0)=false:=VG (by omega)
   have d2:decide ((0:Int)<(es.length:Int))=true:=decide_eq_true (by omega)
   have SV:=(O.nk _ l hk).2.2.2
   have SW:l≠lo:=fun e=>Zr (e▸O.sk _ l hk)
   obtain⟨c',es',ea,M'⟩:=fl.set .i64 c id (Qb 1)
   simp only[go_sem,simprocAttr]at ea
   have he:cc.parent=0∨Zu T A cc.parent=true:=by
    by_cases h0:cc.parent=0
    ·exact .inl h0
    ·obtain⟨d,hd,xQ⟩:=I.XN cc (zB I Kf) h0
     exact .inr ((pB I hA hd xQ).2 (Zj.1 Et))
   have O2:=O.rn (c':=c') (es':=es') (Kd':=XQ T A (dn++[id])) hk (M'.to fun j=>by
    unfold zF;rw[NC]
    by_cases hj:j=id
    ·simp [hj]
    ·simp [hj]) (fun j hj i=>by rw[NC,if_neg (fun h=>hj h.1)])
   refine Qc hb ?_
   simp only[go_sem,simprocAttr,Qa,ho,Qf,m1,YY,m3,WE,k1,k3,ml,qO,d1,d2,Go.undef]
   simp only[ea]
   exact⟨_,rfl,fin _ _ _ _ _ O2 (fun l h=>(hS l h).1) (ZJ.G9 (hS l (O.sk _ l hk)).1 _) ((Qt SW).trans XU) he⟩
 ·
  have hz:∀i,XQ T A dn cc.parent i=false:=fun i=>by
   rw[Bool.eq_false_iff];exact fun h=>Et ⟨i,h⟩
  have hB:(kl cc.parent=none∧True∧True∧True)∨∃l c es,kl cc.parent=some l∧H[l]? = some (QG .i64 c es)∧l<H.length∧es.length=0:=by
   cases hk:kl cc.parent with
   | none=>exact .inl ⟨rfl,trivial,trivial,trivial⟩
   | some l=>
    obtain⟨c,es,ml,fl⟩:=O.ks _ l hk
    refine .inr ⟨l,c,es,rfl,ml,Qd ml,?_⟩
    have:=(NB fl).1
    by_cases h0:0<es.length
    ·exact absurd (this h0) Et
    ·omega
  obtain⟨c3',es3',e3,M3⟩:=O.f3.set .i64 c3 cc.parent (.mref H.length 0)
  obtain⟨Eu,Ew,e0,M0⟩:=Jz.nil.set .i64 0 id (Qb 1)
  simp only[go_sem,simprocAttr]at e3 e0
  have Hc:=M3.at_ cc.parent
  rw[if_pos rfl]at Hc
  have He:∀l,S' l→l≠H.length:=fun l hl e=>by have:=(hS l hl).2;omega
  have Qug:=ZJ.len
  have O2:=((O.app [QG .i64 Eu Ew]).step (S':=fun l=>S' l∨l=H.length) fun l _ h2=>⟨.inl h2,rfl⟩).Qk8 (k:=cc.parent) (n:=H.length) (c3':=c3') (es3':=es3') (Kd':=XQ T A (dn++[id])) (Kc rfl) (M0.to fun j=>by
    unfold zF;rw[NC,hz]
    by_cases hj:j=id
    ·simp [hj]
    ·simp [hj]) (fun e=>He p O.sp e.symm) (fun e=>He b1 O.s1 e.symm) (fun e=>He b2 O.s2 e.symm) (fun e=>He b3 O.s3 e.symm) (fun j l hj=>He l (O.sk j l hj)) (.inr rfl) M3 (fun j hj i=>by rw[NC,if_neg (fun h=>hj h.1)])
  rw[xG WE]at O2
  have AA:=(ZJ.G9 (hS b3 O.s3).1 (QG .i64 c3' es3')).SR [QG .i64 Eu Ew]
  have B2:((H.set b3 (QG .i64 c3' es3'))++[QG .i64 Eu Ew])[lo]? = some ⟨.arr,g,1,dn.length+1,row⟩:=by
   rw[QU (by simpa using Ay),Qt SU];exact XU
  have B1:∀l,(S' l∨l=H.length)→more S h l:=fun l hl=>hl.elim (fun h=>(hS l h).1) fun e=>.inr (by omega)
  have xQ:dn.length≤16:=by
   have e:=congrArg List.length hu
   have:=kQ (L:=T) (n:=16) (id:=leaf)
   rw[List.length_append]at e
   unfold up at e;omega
  have vQ:cc.parent≠0→Er S h p T A leaf (up T cc.parent).length ⟨[(0,.ptr p 0 0 0),(6,.ref lo (g+1) 0 (dn.length+1+1)),(7,Qb cc.parent)],
    (H.set b3 (QG .i64 c3' es3')).set lo ⟨.arr,g+1,1,dn.length+1+1,Jx (dn.length+1) 0 row fun _=>[Qb cc.parent]⟩++[QG .i64 Eu Ew,⟨.arr,0,1,1,fun _=>[Qb cc.parent]⟩]⟩:=fun h0=>by
   obtain⟨d,hd,rv⟩:=I.XN cc (zB I Kf) h0
   have e1:(dn++[id]).length+1=dn.length+1+1:=by simp
   have V8:Zu T A cc.parent=false:=by
    rw[Bool.eq_false_iff]
    exact fun hq=>Et (Zj.2 ((pB I hA hd rv).1 hq))
   have hl4:lo<(H.set b3 (QG .i64 c3' es3')).length:=by simpa using Ay
   have e2:(H.set b3 (QG .i64 c3' es3')).set lo ⟨.arr,g+1,1,dn.length+1+1,Jx (dn.length+1) 0 row fun _=>[Qb cc.parent]⟩++[QG .i64 Eu Ew,⟨.arr,0,1,1,fun _=>[Qb cc.parent]⟩] =
     (H.set b3 (QG .i64 c3' es3')++[QG .i64 Eu Ew]).set lo ⟨.arr,g+1,1,dn.length+1+1,Jx (dn.length+1) 0 row fun _=>[Qb cc.parent]⟩++[⟨.arr,0,1,1,fun _=>[Qb cc.parent]⟩]:=by
    rw[xG hl4];simp
   rw[e2]
   have ry:∀l,(S' l∨l=H.length)→l≠lo:=fun l hl e=>by
    subst e
    rcases hl with hl|hl
    ·exact Zr hl
    ·omega
   refine Er.of (Jx (dn.length+1) 0 row fun _=>[Qb cc.parent]) (fun l=>S' l∨l=H.length) (dn:=dn++[id]) ?_ hd (Nat.le_refl _) (fun i hi=>?_) (O2.step (fun l h1 h2=>⟨h2,?_⟩)) (fun l hl=>⟨B1 l hl,?_⟩) (fun h1=>ry lo h1 rfl) zG ((AA.G9 (.inr zG) _).SR _) e1.symm ?_ ?_
   ·rw[hu,JS I Kf];simp
   ·rcases List.mem_append.1 hi with hi|hi
    ·exact Ax i hi
    ·rw[List.mem_singleton.1 hi];exact V8
   ·rw[QU (by simpa using h1),Qt (Ne.symm (ry l h2))]
   ·rcases hl with hl|hl
    ·have:=(hS l hl).2;simp;omega
    ·simp;omega
   ·rw[QU (by simp;omega),Qw (by simp;omega)]
   ·intro i hi
    have:=BN (dn:=dn++[id]) (off:=0) (row:=row) (v:=cc.parent) (fun i hi=>by rw[Nat.zero_add];exact ZR i (by simpa using hi)) i (by simpa using hi)
    rw[Nat.zero_add]at this
    simpa using this
  rcases hB with ⟨hk,ml,qO,F9⟩|⟨l,c,es,hk,ml,qO,F9⟩
  ·rw[wk,hk,Option.map_none]at k3
   refine Qc hb ?_
   simp only[go_sem,simprocAttr,Qa,ho,Qf,m1,YY,m3,WE,k1,k3,ml,qO,F9,Go.undef]
   simp only[e3]
   by_cases h0:cc.parent=0
   ·have d0:(cc.parent==0)=true:=by simpa using h0
    simp only[go_sem,simprocAttr,Qa,ho,Qf,Qt (Ne.symm O.xX),Qw WE,WE,Hc,e0,d0]
    exact⟨_,rfl,fin _ _ _ _ _ O2 B1 AA B2 (.inl h0)⟩
   ·have d0:(cc.parent==0)=false:=by simpa using h0
    simp only[go_sem,simprocAttr,Qa,ho,Qf,Qt (Ne.symm O.xX),Qw WE,WE,Hc,e0,d0,B2,XU,Qt SU,Ay]
    refine⟨by omega,(up T cc.parent).length,⟨[(0,.ptr p 0 0 0),(6,.ref lo (g+1) 0 (dn.length+1+1)),(7,Qb cc.parent)],_⟩,?_,Qk.frame (by simp only[go_sem,simprocAttr]),vQ h0⟩
    have:=congrArg List.length (JS I Kf)
    simp only[List.length_cons]at this
    omega
  ·rw[wk,hk,Option.map_some]at k3
   refine Qc hb ?_
   simp only[go_sem,simprocAttr,Qa,ho,Qf,m1,YY,m3,WE,k1,k3,ml,qO,F9,Go.undef]
   simp only[e3]
   by_cases h0:cc.parent=0
   ·have d0:(cc.parent==0)=true:=by simpa using h0
    simp only[go_sem,simprocAttr,Qa,ho,Qf,Qt (Ne.symm O.xX),Qw WE,WE,Hc,e0,d0]
    exact⟨_,rfl,fin _ _ _ _ _ O2 B1 AA B2 (.inl h0)⟩
   ·have d0:(cc.parent==0)=false:=by simpa using h0
    simp only[go_sem,simprocAttr,Qa,ho,Qf,Qt (Ne.symm O.xX),Qw WE,WE,Hc,e0,d0,B2,XU,Qt SU,Ay]
    refine⟨by omega,(up T cc.parent).length,⟨[(0,.ptr p 0 0 0),(6,.ref lo (g+1) 0 (dn.length+1+1)),(7,Qb cc.parent)],_⟩,?_,Qk.frame (by simp only[go_sem,simprocAttr]),vQ h0⟩
    have:=congrArg List.length (JS I Kf)
    simp only[List.length_cons]at this
    omega
structure Ex (S:Nat→Prop) (h:List Ob) (p:Nat) (T:List Qj) (A:List Int) (leaf:Int) (n:Nat) (s:St):Prop where
 ex:∃id dn c lo g row H S' b1 b2 b3 c1 c2 c3 Jd Jj Jo kl,up T leaf=dn++up T id∧Qr T id=some c∧(up T id).length≤n∧(∀i∈dn++[id],Zu T (Z1 A leaf) i=false) ∧
  Xu S' H p b1 b2 b3 c1 c2 c3 Jd Jj Jo kl T (Z1 A leaf) (Yn T A dn)∧(∀l,S' l→more S h l∧l<H.length)∧¬ S' lo∧h.length≤lo∧Step S h H ∧
  H[lo]? = some ⟨.arr,g,1,dn.length+1,row⟩∧(∀i,i<dn.length+1→row i=[Qb ((dn++[id]).getD i 0)]) ∧
  s=⟨[(0,.ptr p 0 0 0),(6,.ref lo g 0 (dn.length+1)),(7,Qb id)],H⟩
theorem Ex.of {S:Nat→Prop} {h:List Ob} {p:Nat} {T:List Qj} {A:List Int} {leaf:Int} {n:Nat} {id:Int} {dn:List Int} {c:Qj} {lo g k:Nat} (row:Nat→List D) {H:List Ob} (S':Nat→Prop) {b1 b2 b3 c1 c2 c3:Nat} {Jd Jj Jo:List QM} {kl:Int→Option Nat}
  (hu:up T leaf=dn++up T id) (hc:Qr T id=some c) (hn:(up T id).length≤n) (ha:∀i∈dn++[id],Zu T (Z1 A leaf) i=false) (O:Xu S' H p b1 b2 b3 c1 c2 c3 Jd Jj Jo kl T (Z1 A leaf) (Yn T A dn)) (hS:∀l,S' l→more S h l∧l<H.length) (h1:¬ S' lo) (h2:h.length≤lo) (hs:Step S h H)
  (hk:k=dn.length+1) (h3:H[lo]? = some ⟨.arr,g,1,k,row⟩) (h4:∀i,i<dn.length+1→row i=[Qb ((dn++[id]).getD i 0)]):Ex S h p T A leaf n ⟨[(0,.ptr p 0 0 0),(6,.ref lo g 0 k),(7,Qb id)],H⟩:=by
 subst hk
 exact⟨⟨id,dn,c,lo,g,row,H,S',b1,b2,b3,c1,c2,c3,Jd,Jj,Jo,kl,hu,hc,hn,ha,O,hS,h1,h2,hs,h3,h4,rfl⟩⟩
theorem Qlc (T:List Qj) (A:List Int) (leaf:Int) (k:Int):(if k=leaf then none else jw T A k)=jw T (Z1 A leaf) k:=by
 unfold jw Z1
 by_cases h:k=leaf
 ·subst h;simp
 ·simp [h,List.mem_filter]
theorem Qld {S:Nat→Prop} {h:List Ob} {p:Nat} {T:List Qj} {A:List Int} (O:Xv S h p T A) (I:JD T) (hA:zC T A) (leaf:Int) (c:Qj) (hc:Qr T leaf=some c) (Yr:c.leaf=true) (W9:1<QI c.ls) (V3:leaf∈A) (Z9:Zu T (Z1 A leaf) leaf=false) :
  QH prog 118 h [.ptr p 0 0 0,Qb leaf] (fun d h'=>∃d1,d=.tup [d1,Qb 0]∧Z4 h.length h' d1 (VI T (Z1 A leaf) leaf)∧Xv (more S h) h' p T (Z1 A leaf)∧Step S h h'):=by
 have O0:=O
 have hR:=O.toR
 obtain⟨b1,b2,b3,c1,c2,c3,Jd,Jj,Jo,kl,O⟩:=O
 have ho:=O.o
 have m1:=O.m1
 have m2:=O.m2
 have m3:=O.m3
 have Aw:=Qd m2
 have k1:=O.f1.at_ leaf
 rw[YX,hc]at k1
 simp only[if_pos W9,Yr,BZ,if_true]at k1
 have SS:leaf≠0:=fun e=>by rw[e,BQ I]at hc;cases hc
 have B0:=wo hR I hA leaf SS
 rw[(BU V3 leaf).2 (.inl (VH I hc))]at B0
 have M2:=O.f2.del leaf
 refine QX Qe 200 func118 rfl ntmps118 results118 rfl fun base w pl hb=>?_
 have Qf:=Qd ho
 have YY:=Qd m1
 simp only[go_sem,simprocAttr,Qa,ho,Qf,m1,YY,k1,Go.undef]
 refine QK hb Ah rfl ?_ B0 rfl fun d hR=>?_
 ·simp only[go_sem,simprocAttr,Qa,ho,Qf,m2,Aw,Go.undef]
 subst hR
 refine Qc hb ?_
 simp only[go_sem,simprocAttr,Qa,ho,Qf,m2,Aw,Go.undef]
 have Hb:Ex S h p T A leaf (up T leaf).length ⟨[(0,.ptr p 0 0 0),(6,.ref h.length 0 0 1),(7,Qb leaf)],h.set b2 (QG .i64 c2 (ZQ Jj leaf))++[⟨.arr,0,1,1,fun _=>[Qb leaf]⟩]⟩:=by
  have O2:=((O.step (S':=fun l=>S l∧l<h.length) fun l h1 h2=>⟨⟨h2,h1⟩,rfl⟩).rm (c2':=c2) (A':=Z1 A leaf) (M2.to fun k=>Qlc T A leaf k)).app [⟨.arr,0,1,1,fun _=>[Qb leaf]⟩]
  rw[← show Yn T A []=W6 T A from funext fun p=>funext fun i=>by simp [Yn]]at O2
  refine Ex.of (fun _=>[Qb leaf]) (fun l=>S l∧l<h.length) (dn:=[]) rfl hc (Nat.le_refl _) (fun i hi=>?_) O2 (fun l h1=>⟨.inl h1.1,by have:=h1.2;simp;omega⟩) (fun h1=>by have:=h1.2;omega) (Nat.le_refl _) ⟨fun l h1 h2=>?_,by simp⟩ rfl ?_ (fun i hi=>?_)
  ·simp only[List.nil_append,List.mem_singleton]at hi;rw[hi];exact Z9
  ·rw[QU (by simpa using h1),Qt (fun (e:b2=l)=>h2 (e▸O.s2))]
  ·rw[Kc (by simp)];rfl
  ·obtain rfl:i=0:=by simp at hi;omega
   rfl
 refine Dt (Ex S h p T A leaf) (up T leaf).length (Qk.frame (by simp only[go_sem,simprocAttr])) Hb ?_
 clear Hb O m1 m2 m3 ho k1 M2 B0 O0 hR
 rintro n s ⟨id,dn,cc,lo,g,row,H,S',b1,b2,b3,c1,c2,c3,Jd,Jj,Jo,kl,hu,Kf,hn,Ax,O,hS,Zr,zG,ZJ,XU,ZR,rfl⟩
 have ho:=O.o
 have m1:=O.m1
 have m3:=O.m3
 have Qf:=Qd ho
 have YY:=Qd m1
 have WE:=Qd m3
 have Ay:=Qd XU
 obtain⟨d0,Az,ZW⟩:=pC I hc W9 id (by rw[hu];exact List.mem_append_right _ (VH I Kf))
 rw[Kf]at Az;cases Az
 have k1:=O.f1.at_ id
 rw[YX,Kf]at k1
 simp only[if_pos ZW]at k1
 have k3:=O.f3.at_ cc.parent
 have Qle:Zu T A id=true:=(BU V3 id).2 (.inl (by rw[hu];exact List.mem_append_right _ (VH I Kf)))
 have Qlf:id ∉ dn:=fun hm=>by
  have nd:=GR I leaf
  rw[hu,List.nodup_append]at nd
  exact nd.2.2 id hm id (VH I Kf) rfl
 have rA:Yn T A dn cc.parent id=true:=Ee.2 ⟨qJ.2 ⟨cc,Kf,rfl,Qle⟩,Qlf⟩
 have hKn:∀j,j≠cc.parent→∀i,Yn T A (dn++[id]) j i=Yn T A dn j i:=fun j hj i=>by
  rw[Bool.eq_iff_iff,Ee,Ee]
  constructor
  ·exact fun⟨h1,h2⟩=>⟨h1,fun h3=>h2 (List.mem_append_left _ h3)⟩
  ·rintro⟨h1,h2⟩
   refine⟨h1,fun h3=>?_⟩
   rcases List.mem_append.1 h3 with h3|h3
   ·exact h2 h3
   ·rw[List.mem_singleton.1 h3]at h1
    obtain⟨e,h4,h5,_⟩:=qJ.1 h1
    rw[Kf]at h4;cases h4
    exact hj h5.symm
 cases hk:kl cc.parent with
 | none=>rw[O.kn _ id hk]at rA;cases rA
 | some l=>
  obtain⟨c,es,ml,fl⟩:=O.ks _ l hk
  have qO:=Qd ml
  rw[wk,hk,Option.map_some]at k3
  obtain⟨n0,n1,n2,n3⟩:=O.nk _ l hk
  have SW:l≠lo:=fun e=>Zr (e▸O.sk _ l hk)
  have M':Jz (ZQ es id) (zF (Yn T A (dn++[id]) cc.parent)):=(fl.del id).to fun j=>by
   unfold zF Yn
   by_cases hj:j=id
   ·simp [hj]
   ·simp [hj]
  have hlen:=NB M'
  have O2:=O.rn (c':=c) (es':=ZQ es id) (Kd':=Yn T A (dn++[id])) hk M' hKn
  have AA:=ZJ.G9 (hS l (O.sk _ l hk)).1 (QG .i64 c (ZQ es id))
  have B2:(H.set l (QG .i64 c (ZQ es id)))[lo]? = some ⟨.arr,g,1,dn.length+1,row⟩:=(Qt SW).trans XU
  have fin:(cc.parent=0∨Zu T (Z1 A leaf) cc.parent=true) →
    Z4 h.length (H.set l (QG .i64 c (ZQ es id))) (.ref lo g 0 (dn.length+1)) (VI T (Z1 A leaf) leaf)∧Xv (more S h) (H.set l (QG .i64 c (ZQ es id))) p T (Z1 A leaf)∧Step S h (H.set l (QG .i64 c (ZQ es id))):=fun he=>by
   obtain⟨e1,e2⟩:=Qkn I V3 hu Kf Ax he
   rw[← e1]
   refine⟨.inr ⟨lo,g,0,row,by simp,⟨zG,rfl⟩,by simpa using B2,fun i hi=>?_⟩,?_,AA⟩
   ·rw[Nat.zero_add];exact ZR i (by simpa using hi)
   ·rw[show Yn T A (dn++[id])=W6 T (Z1 A leaf) from funext fun p=>funext fun i=>e2 p i]at O2
    exact⟨_,_,_,_,_,_,_,_,_,_,O2.step fun l h1 h2=>⟨(hS l h2).1,rfl⟩⟩
  by_cases ND:∃i,Yn T A (dn++[id]) cc.parent i=true
  ·have j9:=hlen.2 ND
   have d2:decide ((0:Int)<((ZQ es id).length:Int))=true:=decide_eq_true (by omega)
   have he:cc.parent=0∨Zu T (Z1 A leaf) cc.parent=true:=by
    by_cases h0:cc.parent=0
    ·exact .inl h0
    ·exact .inr ((pD I hA V3 hu Kf Ax h0).1 ND)
   refine Qc hb ?_
   simp only[go_sem,simprocAttr,Qa,ho,Qf,m1,YY,m3,WE,k1,k3,ml,qO,d2,Go.undef,Qt n0,Qt n3,Qw qO]
   exact⟨_,rfl,fin he⟩
  ·have hz:¬ 0<(ZQ es id).length:=fun h=>ND (hlen.1 h)
   have d2:decide ((0:Int)<((ZQ es id).length:Int))=false:=decide_eq_false (by omega)
   by_cases h0:cc.parent=0
   ·have d0:(cc.parent==0)=true:=by simpa using h0
    refine Qc hb ?_
    simp only[go_sem,simprocAttr,Qa,ho,Qf,m1,YY,m3,WE,k1,k3,ml,qO,d2,d0,Go.undef,Qt n0,Qt n3,Qw qO]
    exact⟨_,rfl,fin (.inl h0)⟩
   ·have d0:(cc.parent==0)=false:=by simpa using h0
    have xQ:dn.length≤16:=by
     have e:=congrArg List.length hu
     have:=kQ (L:=T) (n:=16) (id:=leaf)
     rw[List.length_append]at e
     unfold up at e;omega
    obtain⟨d,hd,rv⟩:=I.XN cc (zB I Kf) h0
    have V8:Zu T (Z1 A leaf) cc.parent=false:=by
     rw[Bool.eq_false_iff]
     exact fun hq=>ND ((pD I hA V3 hu Kf Ax h0).2 hq)
    have e1:(dn++[id]).length+1=dn.length+1+1:=by simp
    refine Qc hb ?_
    simp only[go_sem,simprocAttr,Qa,ho,Qf,m1,YY,m3,WE,k1,k3,ml,qO,d2,d0,Go.undef,Qt n0,Qt n3,Qw qO,B2,XU,Ay]
    refine⟨by omega,(up T cc.parent).length,⟨[(0,.ptr p 0 0 0),(6,.ref lo (g+1) 0 (dn.length+1+1)),(7,Qb cc.parent)],_⟩,?_,Qk.frame (by simp only[go_sem,simprocAttr]),?_⟩
    ·have:=congrArg List.length (JS I Kf)
     simp only[List.length_cons]at this
     omega
    ·refine Ex.of (Jx (dn.length+1) 0 row fun _=>[Qb cc.parent]) S' (dn:=dn++[id]) ?_ hd (Nat.le_refl _) (fun i hi=>?_) (O2.step (fun j h1 h2=>⟨h2,?_⟩)) (fun j hj=>⟨(hS j hj).1,?_⟩) Zr zG ((AA.G9 (.inr zG) _).SR _) e1.symm ?_ ?_
     ·rw[hu,JS I Kf];simp
     ·rcases List.mem_append.1 hi with hi|hi
      ·exact Ax i hi
      ·rw[List.mem_singleton.1 hi];exact V8
     ·rw[QU (by simpa using h1),Qt (fun (e:lo=j)=>Zr (e▸h2))]
     ·have:=(hS j hj).2;simp;omega
     ·rw[QU (by simpa using Ay),Qw (by simpa using Ay)];rfl
     ·intro i hi
      have:=BN (dn:=dn++[id]) (off:=0) (row:=row) (v:=cc.parent) (fun i hi=>by rw[Nat.zero_add];exact ZR i (by simpa using hi)) i (by simpa using hi)
      rw[Nat.zero_add]at this
      simpa using this
theorem Qlh {T:List Qj} (hr:KX T) {k:Nat} (hk:k<T.length) (j:Int):Qr (T.take (k+1)) j=if j=(T.getD k default).iD then some (T.getD k default) else Qr (T.take k) j:=by
 rw[getD_take T default k hk]
 unfold Qr
 rw[List.find?_append]
 have Ve:T.getD k default∈T:=jo T default k hk
 by_cases h:j=(T.getD k default).iD
 ·rw[if_pos h]
  have:List.find? (fun c=>c.iD==j) (T.take k)=none:=by
   rw[List.find?_eq_none]
   intro x hx hxj
   have hp:=hr
   rw[← List.take_append_drop k T]at hp
   have h2:=(List.pairwise_append.1 hp).2.2 x hx (T.getD k default) (by
    rw[List.drop_eq_getElem_cons hk,List.getD_eq_getElem?_getD,List.getElem?_eq_getElem hk];exact List.mem_cons_self ..)
   simp at hxj
   omega
  rw[this];simp [h]
 ·rw[if_neg h]
  have:((T.getD k default).iD==j)=false:=by simpa using Ne.symm h
  simp only[List.find?_cons,this,List.find?_nil,Option.or_none]
theorem rB {h:List Ob} {t:Nat} {T:List Qj} (R:Kz h t T) (I:JD T):QH prog 47 h [.ptr t 0 0 0] (fun d h'=>d=.ptr (h.length+3) 0 0 0∧Xv (fun l=>h.length≤l) h' (h.length+3) T []∧∃g,h'=h++g):=by
 have hlen:=I.len
 have R2:∀g,Kz (h++g) t T:=fun g=>R.more wm
 refine QX Qe 200 func47 rfl ntmps47 results47 rfl fun base w pl hb=>?_
 simp only[go_sem,simprocAttr,Qa,Qa]
 refine QK hb Gy rfl ?_ (NA (R2 _) (by omega)) rfl fun d hR=>?_
 ·simp only[go_sem,simprocAttr,Qa]
 subst hR
 refine Qc hb ?_
 simp only[go_sem,simprocAttr,Qa]
 refine Zv (fun k st=>∃c es g,Jz es (YX (T.take k))∧st=⟨[(0,.ptr t 0 0 0),(3,.ptr (h.length+3) 0 0 0),(15,ints (T.map (·.iD))),(16,Qb T.length),(17,Qb k)],h++(QG .i64 c es::QG .i64 0 []::QG .i64 0 []::Nx h.length (h.length+1) (h.length+2)::g)⟩) T.length (s0:=⟨[(0,.ptr t 0 0 0),(3,.ptr (h.length+3) 0 0 0),(15,ints (T.map (·.iD))),(16,Qb T.length),(17,Qb 0)],h++(QG .i64 0 []::QG .i64 0 []::QG .i64 0 []::Nx h.length (h.length+1) (h.length+2)::[])⟩) (Qk.frame (by simp only[go_sem,simprocAttr,List.length_map])) ⟨0,[],[],Jz.nil.to fun k=>by simp [YX,Qr],rfl⟩ ?_
 rintro k _ hk ⟨c,es,g,M,rfl⟩
 by_cases Qn:k<T.length
 ·have dk:=decide_eq_true Qn
  have hg:(T.map (·.iD)).getD k 0=(T.getD k default).iD:=getD_map _ _ _ _ _ Qn
  have Ve:T.getD k default∈T:=jo T default k Qn
  have hf:Qr T (T.getD k default).iD=some (T.getD k default):=(KY I.rising).2 ⟨Ve,rfl⟩
  have rC:=Qlh I.rising Qn
  obtain⟨x,hx⟩:∃x,x=T.getD k default:=⟨_,rfl⟩
  rw[← hx]at hg Ve hf rC
  have Wf:=fun g=>Ep (R2 g) x.iD
  rw[hf]at Wf
  simp only[Option.getD_some,Option.isSome_some,if_true]at Wf
  have Q4:∀j,YX (T.take (k+1)) j=if j=x.iD then (if 1<QI x.ls then some (.agg [Qb x.parent,Qb (BZ x.leaf)]) else none) else YX (T.take k) j:=fun j=>by
   unfold YX
   rw[rC]
   by_cases hj:j=x.iD
   ·simp [hj]
   ·simp [hj]
  have PQ:YX (T.take k) x.iD=none:=by
   unfold YX
   have:Qr (T.take k) x.iD=none:=by
    rw[Am]
    intro y hy e
    have hp:=I.rising
    rw[← List.take_append_drop k T]at hp
    have h2:=(List.pairwise_append.1 hp).2.2 y hy x (by
     rw[List.drop_eq_getElem_cons Qn,hx,List.getD_eq_getElem?_getD,List.getElem?_eq_getElem Qn];exact List.mem_cons_self ..)
    omega
   rw[this]
  refine Qc hb ?_
  simp only[go_sem,simprocAttr,Qa,dk,Qn,hg,List.length_map]
  refine QK hb YQ rfl ?_ (Wf _) rfl fun d hR=>?_
  ·simp only[go_sem,simprocAttr,Qa]
  subst hR
  refine Qc hb ?_
  simp only[go_sem,simprocAttr,Qa]
  refine QE hb YR rfl ?_ (YT x) (Ql.flat rfl) rfl fun d h hR=>?_
  ·simp only[go_sem,simprocAttr,Qa]
  obtain⟨rfl,rfl⟩:=hR
  refine Qc hb ?_
  simp only[go_sem,simprocAttr,Qa]
  by_cases hs:1<QI x.ls
  ·have ds:=decide_eq_true hs
   simp only[if_pos hs]at Q4
   obtain⟨c',es',e1,M'⟩:=M.set .i64 c x.iD (.agg [Qb x.parent,Qb (BZ x.leaf)])
   simp only[go_sem,simprocAttr]at e1
   have M2:=M'.to fun j=>(Q4 j).symm
   have Q3:=JX (show k<4611686018427387904 by omega)
   cases hl:x.leaf with
   | true=>
    rw[hl]at e1
    simp only[BZ,if_true]at e1
    simp only[go_sem,simprocAttr,Qa,ds,hl]
    refine QA Qe hb 200 mixed [(0,true),(1,true),(2,true),(3,true),(4,true),(5,true),(6,false)] (by kernel_rfl) (by kernel_rfl) ?_
    simp only[go_sem,simprocAttr,Qa,hl]
    simp only[e1]
    exact⟨Qn,_,Qk.frame (by simp only[go_sem,simprocAttr,Q3]),c',es',_,M2,rfl⟩
   | false=>
    rw[hl]at e1
    simp only[BZ]at e1
    simp only[go_sem,simprocAttr,Qa,ds,hl]
    refine QA Qe hb 200 mixed [(0,true),(1,true),(2,true),(3,true),(4,true),(5,true),(6,false)] (by kernel_rfl) (by kernel_rfl) ?_
    simp only[go_sem,simprocAttr,Qa,hl]
    simp only[Bool.false_eq_true,if_false]at e1
    simp only[e1]
    exact⟨Qn,_,Qk.frame (by simp only[go_sem,simprocAttr,Q3]),c',es',_,M2,rfl⟩
  ·have ds:=decide_eq_false hs
   simp only[if_neg hs]at Q4
   have Q3:=JX (show k<4611686018427387904 by omega)
   simp only[go_sem,simprocAttr,Qa,ds]
   refine⟨Qn,_,Qk.frame (by simp only[go_sem,simprocAttr,Q3]),c,es,_,M.to fun j=>?_,rfl⟩
   rw[Q4]
   by_cases hj:j=x.iD
   ·rw[if_pos hj,hj,PQ]
   ·rw[if_neg hj]
 ·have ZE:k=T.length:=by omega
  have dk:=decide_eq_false Qn
  rw[ZE,List.take_length]at M
  refine Qc hb ?_
  simp only[go_sem,simprocAttr,Qa,dk]
  refine Qc hb ?_
  simp only[go_sem,simprocAttr,Qa]
  refine⟨⟨h.length,h.length+1,h.length+2,c,0,0,es,[],[],fun _=>none,KW rfl,Kc rfl,M,KW rfl,Jz.nil.to (fun j=>by simp [jw]),KW rfl,Jz.nil.to (fun j=>rfl),(fun _ _ e=>nomatch e),(fun k i _=>by simp [W6,Zu]),(fun _ _ _ e=>nomatch e),by omega,by omega,by omega,by omega,by omega,by omega,(fun _ _ e=>nomatch e),by show h.length≤_;omega,Nat.le_refl _,by show h.length≤_;omega,by show h.length≤_;omega,(fun _ _ e=>nomatch e)⟩,_,rfl⟩
@[go_sem] def xY (a m:Nat):Ob:=⟨.one,0,2,1,fun _=>[.ptr a 0 0 0,.mref m 0]⟩
def wu (x:It):Int × D:=(x.ki,.agg x.cells)
structure B3 (S:Nat→Prop) (h:List Ob) (p a m:Nat) (t:Tr) (c:Nat) (es:List QM) (L:List It):Prop where
 o:h[p]? = some (xY a m)
 av:ju h a t L
 mo:h[m]? = some (QG .i64 c es)
 mp:VK es (L.map wu)
 vi:∀x∈L,x.vi=x.ki
 pa:p≠a
 pm:p≠m
 am:a≠m
 pt:p ∉ t.QB
 mt:m ∉ t.QB
 sp:S p
 sa:S a
 sm:S m
 st:∀l∈t.QB,S l
def KA (S:Nat→Prop) (h:List Ob) (p:Nat) (L:List It):Prop:=∃a m t c es,B3 S h p a m t c es L
theorem SX {L:List It} (id:Int):look (L.map wu) id=(L.find? fun x=>x.ki==id).map fun x=>.agg x.cells:=by
 unfold look
 rw[List.find?_map,Option.map_map]
 rfl
def JH (id:Int) (L:List It):List It:=L.filter fun x=>x.ki != id
def VL (id:Int) (vt fit:Nat) (L:List It):List It:=VJ ⟨vt,id,fit,id⟩ (JH id L)
theorem B3.ids {S:Nat→Prop} {h:List Ob} {p a m:Nat} {t:Tr} {c:Nat} {es:List QM} {L:List It} (T:B3 S h p a m t c es L):(L.map It.ki).Nodup:=by
 have:=T.mp.nd
 rwa [List.map_map]at this
theorem SY {L:List It} (hn:(L.map It.ki).Nodup) {x:It} (hx:x∈L):Vd x.ka x.ki L=JH x.ki L:=by
 unfold Vd JH
 apply List.filter_congr
 intro y hy
 by_cases h:y.ki=x.ki
 ·have YF:y=x:=by
   have:∀{l:List It},(l.map It.ki).Nodup→∀{u v:It},u∈l→v∈l→u.ki=v.ki→u=v:=by
    intro l
    induction l with
    | nil=>intro _ u v hu;cases hu
    | cons a l ih=>
     intro hn u v hu hv e
     simp only[List.map_cons,List.nodup_cons,List.mem_map,not_exists,not_and]at hn
     rcases List.mem_cons.1 hu with h1|h1<;>rcases List.mem_cons.1 hv with h2|h2
     ·rw[h1,h2]
     ·exact absurd (by rw[← e,h1]) (hn.1 v h2)
     ·exact absurd (by rw[e,h2]) (hn.1 u h1)
     ·exact ih hn.2 h1 h2 e
   exact this hn hy hx h
  subst YF
  simp [kU]
 ·have hb:(y.ki==x.ki)=false:=by simpa using h
  simp [kU,hb,bne]
theorem SZ {L:List It} {id:Int} (h:(L.find? fun x=>x.ki==id)=none):JH id L=L:=by
 unfold JH
 rw[List.filter_eq_self]
 intro x hx
 have:=List.find?_eq_none.1 h x hx
 simpa using this
theorem S1 (L:List It) (a:Nat) (id:Int):V7 a id (JH id L)=none:=by
 unfold V7 JH
 rw[List.find?_eq_none]
 intro x hx hk
 simp only[List.mem_filter,bne_iff_ne,ne_eq]at hx
 exact hx.2 (qK.1 hk).2
theorem rD (y:It):∀L:List It,(VJ y L).Perm (y::L)
 | []=>List.Perm.refl _
 | z::L=>by
  simp only[VJ]
  split
  ·exact(List.Perm.cons _ (rD y L)).trans (List.Perm.swap _ _ _)
  ·exact List.Perm.refl _
theorem S3 (id:Int) (L:List It):kW (L.map wu) id=(JH id L).map wu:=by
 unfold kW JH
 rw[List.filter_map]
 rfl
theorem ju.set {h:List Ob} {tl:Nat} {t:Tr} {L:List It} (A:ju h tl t L) {m:Nat} (o:Ob) (h1:m≠tl) (h2:m ∉ t.QB):ju (h.set m o) tl t L:=⟨(Qt h1).trans A.o,A.is.set o h2,A.list,A.nd,A.out,A.sorted⟩
theorem Qlj {id:Int} {vt fit:Nat} {L:List It}:(xW (L.map wu) id (.agg (It.mk vt id fit id).cells)).Perm ((VL id vt fit L).map wu):=by
 unfold xW VL
 rw[S3]
 exact((rD ⟨vt,id,fit,id⟩ (JH id L)).map wu).symm
theorem S4 (id:Int) (L:List It):(JH id L).length≤L.length:=List.length_filter_le _ _
theorem B3.fin {S:Nat→Prop} {h H H2 h8:List Ob} {p a m c c':Nat} {t t' t'':Tr} {es es':List QM} {L L2:List It} (T:B3 S h p a m t c es L) (s0:Step S h H)
  (hp:H[p]? = some (xY a m)) (hm:m<H.length) (hH:H2=H.set m (QG .i64 c' es')) (mt:m ∉ t'.QB) (pt:p ∉ t'.QB) (st:∀l∈t'.QB,more S h l) (xl:VK es' (L2.map wu)) (hvi:∀x∈L2,x.vi=x.ki)
  (A:G4 H2 a t' L2 h8 t''):KA (more S h) h8 p L2∧Step S h h8:=by
 have e2:H2.length=H.length:=by rw[hH,List.length_set]
 have hl:=s0.len
 have Nh:H2[p]? = some (xY a m):=by rw[hH,Qt (Ne.symm T.pm)];exact hp
 have KH:H2[m]? = some (QG .i64 c' es'):=by rw[hH,Qw hm]
 have ZX:∀l,H2.length≤l→h.length≤l:=fun l h1=>by omega
 have Q4:=Qd T.o
 have j8:=Qd T.mo
 refine⟨⟨a,m,t'',c',es',?_,A.is,?_,xl,hvi,T.pa,T.pm,T.am,?_,?_,.inl T.sp,.inl T.sa,.inl T.sm,?_⟩,⟨fun l h1 h2=>?_,by have:=A.len;omega⟩⟩
 ·rw[A.keep p (by omega) T.pa pt];exact Nh
 ·rw[A.keep m (by omega) (Ne.symm T.am) mt];exact KH
 ·intro h1
  rcases A.mem p h1 with h2|h2
  ·exact pt h2
  ·omega
 ·intro h1
  rcases A.mem m h1 with h2|h2
  ·exact mt h2
  ·omega
 ·intro l h1
  rcases A.mem l h1 with h2|h2
  ·exact st l h2
  ·exact .inr (ZX l h2)
 ·have na:l≠a:=by rintro rfl;exact h2 T.sa
  have nm:l≠m:=by rintro rfl;exact h2 T.sm
  have nt:l ∉ t'.QB:=fun h3=>by
   rcases st l h3 with h4|h4
   ·exact h2 h4
   ·omega
  rw[A.keep l (by omega) na nt,hH,Qt (Ne.symm nm)]
  exact s0.keep l h1 h2
theorem B3.done {S:Nat→Prop} {h H H2 h8:List Ob} {p a m c c':Nat} {t t' t'':Tr} {es es':List QM} {L:List It} {id:Int} {vt fit:Nat} (T:B3 S h p a m t c es L) (s0:Step S h H)
  (hp:H[p]? = some (xY a m)) (hm:m<H.length) (hH:H2=H.set m (QG .i64 c' es')) (mt:m ∉ t'.QB) (pt:p ∉ t'.QB) (st:∀l∈t'.QB,more S h l) (xl:VK es' (xW (L.map wu) id (.agg (It.mk vt id fit id).cells)))
  (A:G4 H2 a t' (VL id vt fit L) h8 t''):KA (more S h) h8 p (VL id vt fit L)∧Step S h h8:=
 T.fin s0 hp hm hH mt pt st (xl.to Qlj) (fun x hx=>by
  rcases As.1 hx with rfl|hx
  ·rfl
  ·exact T.vi x (List.mem_filter.1 hx).1) A
theorem Qll {S:Nat→Prop} {h:List Ob} {p:Nat} {L:List It} (T:KA S h p L) (id:Int) (vt fit:Nat) (hs:L.length<400000) :
  QH prog 120 h [.ptr p 0 0 0,Qb id,u64 vt,u64 fit] (fun d h'=>KA (more S h) h' p (VL id vt fit L)∧Step S h h'):=by
 obtain⟨a,m,t,c,es,T⟩:=T
 have ho:=T.o
 have Vx:=T.mo
 have ha:=T.av.o
 have hk:=T.mp.look id
 rw[SX]at hk
 cases hf:L.find? fun x=>x.ki==id with
 | none=>
  rw[hf,Option.map_none]at hk
  have jx:=SZ hf
  obtain⟨c',es',e1,M'⟩:=T.mp.set .i64 c id (.agg (It.mk vt id fit id).cells)
  have e2:Ka .i64 c es id (.agg [.raw (.int .u64 vt),.raw (.int .i64 id),.raw (.int .u64 fit),.raw (.int .i64 id)])=QG .i64 c' es':=e1
  refine QX Qe 200 func120 rfl ntmps120 results120 rfl fun base w pl hb=>?_
  have Qf:=Qd ho
  have Vy:=Qd Vx
  simp only[go_sem,simprocAttr,Qa,ho,Qf,Vx,Vy,hk]
  refine QA Qe hb 200 mixed [(0,true),(1,true),(2,true),(3,true),(4,true),(5,true),(6,false)] (by kernel_rfl) (by kernel_rfl) ?_
  simp only[go_sem,simprocAttr,Qa,ho,Qf,Vx,Vy]
  simp only[e2]
  refine Wj [8] Qe hb 200 mixed [(0,true),(1,true),(2,true),(3,true),(4,true),(5,true),(6,true),(7,true),(8,false),(9,true)] [] (by kernel_rfl) (by kernel_rfl) ?_
  simp only[go_sem,simprocAttr,Qa,ho,Qf,Vx,Vy,Qt (Ne.symm T.pm)]
  refine WD hb RJ rfl ?_ (G5 (tl:=a) (t:=t) (L:=JH id L) (by rw[jx];exact(T.av.set _ (Ne.symm T.am) T.mt).app _) ⟨vt,id,fit,id⟩ (S1 L vt id) (by have:=S4 id L;omega)) rfl fun d h8 hR=>?_
  ·simp only[go_sem,simprocAttr]
  obtain⟨rfl,t'',A8⟩:=hR
  refine QF hb ?_
  simp only[go_sem,simprocAttr,Qa]
  exact T.done (H:=h++_) (Step.app S h _) (QU Qf |>.trans ho) (by simp;omega) (xG Vy).symm T.mt T.pt (fun l hl=>.inl (T.st l hl)) M' A8
 | some x=>
  rw[hf,Option.map_some]at hk
  obtain⟨c',es',e1,M'⟩:=T.mp.set .i64 c id (.agg (It.mk vt id fit id).cells)
  have e2:Ka .i64 c es id (.agg [.raw (.int .u64 vt),.raw (.int .i64 id),.raw (.int .u64 fit),.raw (.int .i64 id)])=QG .i64 c' es':=e1
  refine QX Qe 200 func120 rfl ntmps120 results120 rfl fun base w pl hb=>?_
  have Qf:=Qd ho
  have Vy:=Qd Vx
  simp only[go_sem,simprocAttr,Qa,ho,Qf,Vx,Vy,hk]
  refine Wj [6] Qe hb 200 mixed [(0,true),(1,true),(2,true),(3,true),(4,true),(5,true),(6,false)] [] (by kernel_rfl) (by kernel_rfl) ?_
  simp only[go_sem,simprocAttr,Qa,ho,Qf]
  have Ve:x∈L:=List.mem_of_find?_eq_some hf
  have QQ:x.ki=id:=by have:=List.find?_some hf;simpa using this
  have Hf:Vd x.ka id L=JH id L:=by rw[← QQ];exact SY T.ids Ve
  have QD:V7 x.ka id L≠none:=fun e=>by
   unfold V7 at e
   have:=List.find?_eq_none.1 e x Ve
   exact this (qK.2 ⟨rfl,QQ⟩)
  have S5:∀l∈t.QB,l<h.length:=T.av.is.lt
  have ZK:=Qd ha
  refine WD hb RK rfl ?_ (SL (tl:=a) (t:=t) (L:=L) (T.av.app _) x.ka id QD (by omega)) rfl fun d h6 hR=>?_
  ·simp only[go_sem,simprocAttr,QQ]
  obtain⟨rfl,t',A6⟩:=hR
  rw[Hf]at A6
  have Quh:h.length+2≤h6.length:=by have:=A6.len;simpa using this
  have k6:∀l,l<h.length→l≠a→l ∉ t.QB→h6[l]? = h[l]? := fun l h1 h2 h3=>(A6.keep l (by simp;omega) h2 h3).trans (QU h1)
  have NF:h6[p]? = _:=(k6 p Qf T.pa T.pt).trans ho
  have S7:h6[m]? = _:=(k6 m Vy (Ne.symm T.am) T.mt).trans Vx
  have AB:=(A6.keep h.length (by simp) (by omega) (fun h1=>by have:=S5 _ h1;omega)).trans (Kc rfl)
  have rE:=Qd NF
  have S8:=Qd S7
  have Ey:=Qd AB
  have rF:m ∉ t'.QB:=fun h1=>by
   rcases A6.mem m h1 with h2|h2
   ·exact T.mt h2
   ·simp only[List.length_append]at h2;omega
  have pt6:p ∉ t'.QB:=fun h1=>by
   rcases A6.mem p h1 with h2|h2
   ·exact T.pt h2
   ·simp only[List.length_append]at h2;omega
  have Hg:m≠h.length:=by omega
  refine QF hb ?_
  simp only[go_sem,simprocAttr,Qa]
  refine QA Qe hb 200 mixed [(0,true),(1,true),(2,true),(3,true),(4,true),(5,true),(6,false)] (by kernel_rfl) (by kernel_rfl) ?_
  simp only[go_sem,simprocAttr,Qa,NF,rE,S7,S8,AB,Ey]
  simp only[e2]
  refine Wj [8] Qe hb 200 mixed [(0,true),(1,true),(2,true),(3,true),(4,true),(5,true),(6,true),(7,true),(8,false),(9,true)] [] (by kernel_rfl) (by kernel_rfl) ?_
  simp only[go_sem,simprocAttr,Qa,NF,rE,S7,S8,AB,Ey,Qt (Ne.symm T.pm),Qt Hg]
  refine WD hb RJ rfl ?_ (G5 (tl:=a) (t:=t') (L:=JH id L) (A6.is.set _ (Ne.symm T.am) rF) ⟨vt,id,fit,id⟩ (S1 L vt id) (by have:=S4 id L;omega)) rfl fun d h8 hR=>?_
  ·simp only[go_sem,simprocAttr]
  obtain⟨rfl,t'',A8⟩:=hR
  refine QF hb ?_
  simp only[go_sem,simprocAttr,Qa]
  refine T.done (H:=h6) ⟨fun l h1 h2=>k6 l h1 (by rintro rfl;exact h2 T.sa) (fun h3=>h2 (T.st l h3)),by omega⟩ NF S8 rfl rF pt6 (fun l hl=>?_) M' A8
  rcases A6.mem l hl with h1|h1
  ·exact .inl (T.st l h1)
  ·simp only[List.length_append]at h1;exact .inr (by omega)
theorem Jk {h F:List Ob} (hF:F=h.map Ob.ro) (l:Nat) (o:Ob) (e:(h.map Ob.ro)[l]? = some o):(F.map Ob.ro)[l]? = some o:=by
 have:=Aq (g:=[]) hF l o e
 rwa [List.append_nil]at this
structure Qln (h:List Ob) (p a m:Nat) (t:Tr) (c:Nat) (es:List QM) (L:List It):Prop where
 o:(h.map Ob.ro)[p]? = some (xY a m).ro
 ao:(h.map Ob.ro)[a]? = some (qN t).ro
 is:Xs h t
 list:t.list=L
 sorted:JG L
 mo:(h.map Ob.ro)[m]? = some (QG .i64 c es).ro
 mp:VK es (L.map wu)
def xZ (h:List Ob) (p:Nat) (L:List It):Prop:=∃a m t c es,Qln h p a m t c es L
theorem KA.toR {S:Nat→Prop} {h:List Ob} {p:Nat} {L:List It}:KA S h p L→xZ h p L:=fun⟨a,m,t,c,es,T⟩=>
 ⟨a,m,t,c,es,ZA T.o,ZA T.av.o,T.av.is.toR,T.av.list,T.av.sorted,ZA T.mo,T.mp⟩
theorem xZ.more {h h':List Ob} {p:Nat} {L:List It} (e:∀(l:Nat) (o:Ob),(h.map Ob.ro)[l]? = some o→(h'.map Ob.ro)[l]? = some o):xZ h p L→xZ h' p L:=fun⟨a,m,t,c,es,T⟩=>
 ⟨a,m,t,c,es,e _ _ T.o,e _ _ T.ao,T.is.more e,T.list,T.sorted,e _ _ T.mo,T.mp⟩
theorem KA.frame {S:Nat→Prop} {h h':List Ob} {p:Nat} {L:List It} (e:∀l,S l→l<h.length→h'[l]? = h[l]?):KA S h p L→KA S h' p L:=fun⟨a,m,t,c,es,T⟩=>
 have k:∀l o,S l→h[l]? = some o→h'[l]? = some o:=fun l o h1 h2=>(e l h1 (Qd h2)).trans h2
 ⟨a,m,t,c,es,k _ _ T.sp T.o,⟨k _ _ T.sa T.av.o,T.av.is.frame fun l hl=>e l (T.st l hl) (T.av.is.lt l hl),T.av.list,T.av.nd,T.av.out,T.av.sorted⟩,k _ _ T.sm T.mo,T.mp,T.vi,T.pa,T.pm,T.am,T.pt,T.mt,T.sp,T.sa,T.sm,T.st⟩
theorem KA.mono {S S':Nat→Prop} {h:List Ob} {p:Nat} {L:List It} (e:∀l,S l→S' l):KA S h p L→KA S' h p L:=fun⟨a,m,t,c,es,T⟩=>
 ⟨a,m,t,c,es,T.o,T.av,T.mo,T.mp,T.vi,T.pa,T.pm,T.am,T.pt,T.mt,e _ T.sp,e _ T.sa,e _ T.sm,fun l hl=>e l (T.st l hl)⟩
section
variable {h:List Ob} {p:Nat} {L:List It} (T:xZ h p L)
include T
theorem Qlo (now:Nat):QP prog 106 h [.ptr p 0 0 0,u64 now] (fun d=>d=.tup [Qb ((L.find? fun x=>decide (x.va≤min now 9223372036854775807)).getD default).ki,QN (L.find? fun x=>decide (x.va≤min now 9223372036854775807)).isSome]):=by
 obtain⟨a,m,t,c,es,T⟩:=T
 obtain⟨ho,ha,is,hl,hs,hm,mp⟩:=T
 have e1:min (now:Int) 9223372036854775807=((min now 9223372036854775807:Nat):Int):=by omega
 have zd:=ha
 refine Zi Qe 200 func106 rfl ntmps106 results106 rfl fun base w pl F hF QS hb=>?_
 rw[← hF]at ho ha
 have Qf:=Qd ho
 have ZK:=Qd ha
 simp only[go_sem,simprocAttr,Qa,ho,Qf,ha,ZK,e1]
 refine QK hb Qi1 rfl ?_ (QkX (Jk hF _ _ zd) (is.more (Jk hF)) (min now 9223372036854775807)) rfl fun d hR=>?_
 ·simp only[go_sem,simprocAttr,Qa,ho,Qf]
 subst hR
 refine Qc hb ?_
 simp only[go_sem,simprocAttr,Qa,ho,Qf]
 subst hl
 exact⟨_,rfl,rfl⟩
theorem Qlp:QP prog 125 h [.ptr p 0 0 0] (fun d=>d=.tup [u64 (L.head?.getD default).ka,QN L.head?.isSome]):=by
 obtain⟨a,m,t,c,es,T⟩:=T
 obtain⟨ho,ha,is,hl,hs,hm,mp⟩:=T
 have zd:=ha
 refine Zi Qe 200 func125 rfl ntmps125 results125 rfl fun base w pl F hF QS hb=>?_
 rw[← hF]at ho ha
 have Qf:=Qd ho
 have ZK:=Qd ha
 simp only[go_sem,simprocAttr,Qa,ho,Qf,ha,ZK]
 refine QK hb od rfl ?_ (p7 (Jk hF _ _ zd) (is.more (Jk hF))) rfl fun d hR=>?_
 ·simp only[go_sem,simprocAttr,Qa,ho,Qf]
 subst hR
 refine Qc hb ?_
 simp only[go_sem,simprocAttr,Qa,ho,Qf]
 subst hl
 exact⟨_,rfl,rfl⟩
theorem S9:QP prog 103 h [.ptr p 0 0 0] (fun d=>d=Qb L.length):=by
 obtain⟨a,m,t,c,es,T⟩:=T
 obtain⟨ho,ha,is,hl,hs,hm,mp⟩:=T
 have e1:es.length=L.length:=by rw[mp.len,List.length_map]
 refine Zi Qe 200 func103 rfl ntmps103 results103 rfl fun base w pl F hF QS hb=>?_
 rw[← hF]at ho ha hm
 have Qf:=Qd ho
 have ZK:=Qd ha
 have QO:=Qd hm
 simp only[go_sem,simprocAttr,Qa,ho,Qf,ha,ZK,hm,QO,e1]
 exact⟨[],by simp⟩
def jy (L:List It):Nat:=L.foldl (fun o x=>min o x.va) never
omit T in
theorem Ta:∀(L:List It) (o:Nat),L.foldl (fun o x=>min o x.va) o≤o∧(∀x∈L,L.foldl (fun o x=>min o x.va) o≤x.va)∧(L.foldl (fun o x=>min o x.va) o=o∨∃x∈L,L.foldl (fun o x=>min o x.va) o=x.va)
 | [],o=>⟨Nat.le_refl _,by simp,.inl rfl⟩
 | y::L,o=>by
  obtain⟨h1,h2,h3⟩:=Ta L (min o y.va)
  simp only[List.foldl_cons]
  refine⟨by omega,fun x hx=>?_,?_⟩
  ·rcases List.mem_cons.1 hx with rfl|hx
   ·omega
   ·exact h2 x hx
  ·rcases h3 with h3|⟨x,hx,h3⟩
   ·rw[h3]
    by_cases hle:o≤y.va
    ·exact .inl (Nat.min_eq_left hle)
    ·exact .inr ⟨y,by simp,Nat.min_eq_right (by omega)⟩
   ·exact .inr ⟨x,by simp [hx],h3⟩
omit T in
theorem Qlq {x:It} {L:List It} (h:J4 x L):jy L=min x.va never:=by
 obtain⟨h1,h2,h3⟩:=Ta L never
 unfold jy
 have h4:=h2 x h.mem
 rcases h3 with h3|⟨y,hy,h3⟩
 ·omega
 ·have:=h.va hy
  omega
theorem Tb (hk:∀x∈L,x.ka≤18446744073709551615):QP prog 33 h [.ptr p 0 0 0] (fun d=>d=u64 (jy L)):=by
 have T0:=T
 obtain⟨a,m,t,c,es,T⟩:=T
 obtain⟨ho,ha,is,hl,hs,hm,mp⟩:=T
 have zd:=ha
 by_cases hn:L=[]
 ·have d0:((L.length:Int)==0)=true:=by simp [hn]
  refine Zi Qe 200 func33 rfl ntmps33 results33 rfl fun base w pl F hF QS hb=>?_
  rw[← hF]at ho ha
  have Qf:=Qd ho
  have ZK:=Qd ha
  simp only[go_sem,simprocAttr,Qa,ho,Qf,ha,ZK]
  refine QK hb RE rfl ?_ (S9 (T0.more (Jk hF))) rfl fun d hR=>?_
  ·simp only[go_sem,simprocAttr,Qa,ho,Qf,d0]
  subst hR
  refine Qc hb ?_
  simp only[go_sem,simprocAttr,Qa,ho,Qf,d0]
  subst hn
  exact⟨[],by simp [jy,never]⟩
 ·have d0:((L.length:Int)==0)=false:=by simp [hn]
  refine Zi Qe 200 func33 rfl ntmps33 results33 rfl fun base w pl F hF QS hb=>?_
  rw[← hF]at ho ha
  have Qf:=Qd ho
  have ZK:=Qd ha
  simp only[go_sem,simprocAttr,Qa,ho,Qf,ha,ZK]
  refine QK hb RE rfl ?_ (S9 (T0.more (Jk hF))) rfl fun d hR=>?_
  ·simp only[go_sem,simprocAttr,Qa,ho,Qf,d0]
  subst hR
  refine Qc hb ?_
  simp only[go_sem,simprocAttr,Qa,ho,Qf,d0]
  refine Qc hb ?_
  simp only[go_sem,simprocAttr,Qa,ho,Qf]
  refine QK hb oe rfl ?_ (p9 (Jk hF _ _ zd) (is.more (Jk hF)) 18446744073709551615) rfl fun d hR=>?_
  ·simp only[go_sem,simprocAttr,Qa,ho,Qf]
  subst hR
  refine Qc hb ?_
  simp only[go_sem,simprocAttr,Qa,ho,Qf]
  have ZZ:=Tr.GY 18446744073709551615 t none [] (by rw[hl];exact hs) rfl
  rw[hl,List.nil_append,List.filter_eq_self.2 (fun x hx=>by simpa using hk x hx)]at ZZ
  refine⟨_,rfl,?_⟩
  cases rG:t.Ko 18446744073709551615 none with
  | none=>rw[rG]at ZZ;exact absurd ZZ hn
  | some x=>
   rw[rG]at ZZ
   rw[Qlq ZZ]
   simp only[Option.getD_some,never]
   congr 2
   omega
end
def NG (id:Int) (L:List It):Bool:=(L.find? fun x=>x.ki==id).isSome
theorem Qlr {S:Nat→Prop} {h:List Ob} {p:Nat} {L:List It} (T:KA S h p L) (id:Int) (hs:L.length<400000) :
  QH prog 119 h [.ptr p 0 0 0,Qb id] (fun d h'=>d=Qb (if NG id L then 0 else 6)∧KA (more S h) h' p (JH id L)∧Step S h h'):=by
 have T0:=T
 obtain⟨a,m,t,c,es,T⟩:=T
 have ho:=T.o
 have Vx:=T.mo
 have ha:=T.av.o
 have hk:=T.mp.look id
 rw[SX]at hk
 unfold NG
 cases hf:L.find? fun x=>x.ki==id with
 | none=>
  rw[hf,Option.map_none]at hk
  refine QX Qe 200 func119 rfl ntmps119 results119 rfl fun base w pl hb=>?_
  have Qf:=Qd ho
  have Vy:=Qd Vx
  simp only[go_sem,simprocAttr,Qa,ho,Qf,Vx,Vy,hk]
  rw[SZ hf]
  exact⟨rfl,(T0.frame fun l h1 h2=>QU h2).mono fun l hl=>.inl hl,Step.app S h _⟩
 | some x=>
  rw[hf,Option.map_some]at hk
  have Ve:x∈L:=List.mem_of_find?_eq_some hf
  have QQ:x.ki=id:=by have:=List.find?_some hf;simpa using this
  have Hf:Vd x.ka id L=JH id L:=by rw[← QQ];exact SY T.ids Ve
  have QD:V7 x.ka id L≠none:=fun e=>by
   unfold V7 at e
   have:=List.find?_eq_none.1 e x Ve
   exact this (qK.2 ⟨rfl,QQ⟩)
  have S5:∀l∈t.QB,l<h.length:=T.av.is.lt
  have ZK:=Qd ha
  have M':=T.mp.del id
  rw[S3]at M'
  refine QX Qe 200 func119 rfl ntmps119 results119 rfl fun base w pl hb=>?_
  have Qf:=Qd ho
  have Vy:=Qd Vx
  simp only[go_sem,simprocAttr,Qa,ho,Qf,Vx,Vy,hk]
  refine Wj [6] Qe hb 200 mixed [(0,true),(1,true),(2,true),(3,true),(4,true),(5,true),(6,false),(7,true)] [] (by kernel_rfl) (by kernel_rfl) ?_
  simp only[go_sem,simprocAttr,Qa,ho,Qf,Vx,Vy,Qt (Ne.symm T.pm)]
  refine WD hb RK rfl ?_ (SL (tl:=a) (t:=t) (L:=L) ((T.av.set _ (Ne.symm T.am) T.mt).app _) x.ka id QD (by omega)) rfl fun d h6 hR=>?_
  ·simp only[go_sem,simprocAttr,QQ]
  obtain⟨rfl,t',A6⟩:=hR
  rw[Hf]at A6
  refine QF hb ?_
  simp only[go_sem,simprocAttr,Qa]
  exact⟨rfl,T.fin (H:=h++_) (Step.app S h _) ((QU Qf).trans ho) (by simp;omega) (xG Vy).symm T.mt T.pt (fun l hl=>.inl (T.st l hl)) M' (fun y hy=>T.vi y (List.mem_filter.1 hy).1) A6⟩
theorem rH (h:List Ob):QH prog 121 h [] (fun d h'=>d=.ptr h.length 0 0 0∧h'=h++[qN .nil]):=by
 refine QX Qe 200 func121 rfl ntmps121 results121 rfl fun base w pl hb=>?_
 simp only[go_sem,simprocAttr,Qa]
theorem rI {S:Nat→Prop} {h:List Ob} {p:Nat} {L:List It} (T:KA S h p L) (id:Int) (hs:L.length<400000) :
  QH prog 116 h [.ptr p 0 0 0,Qb id] (fun d h'=>d=Qb (if NG id L then 0 else 6)∧KA (more S h) h' p (JH id L)∧Step S h h'):=by
 have T0:=T
 obtain⟨a,m,t,c,es,T⟩:=T
 have ho:=T.o
 have Vx:=T.mo
 have ha:=T.av.o
 have hk:=T.mp.look id
 rw[SX]at hk
 unfold NG
 cases hf:L.find? fun x=>x.ki==id with
 | none=>
  rw[hf,Option.map_none]at hk
  refine QX Qe 200 func116 rfl ntmps116 results116 rfl fun base w pl hb=>?_
  have Qf:=Qd ho
  have Vy:=Qd Vx
  simp only[go_sem,simprocAttr,Qa,ho,Qf,Vx,Vy,hk]
  rw[SZ hf]
  exact⟨rfl,(T0.frame fun l h1 h2=>QU h2).mono fun l hl=>.inl hl,Step.app S h _⟩
 | some x=>
  rw[hf,Option.map_some]at hk
  have Ve:x∈L:=List.mem_of_find?_eq_some hf
  have QQ:x.ki=id:=by have:=List.find?_some hf;simpa using this
  have Hf:Vd x.ka id L=JH id L:=by rw[← QQ];exact SY T.ids Ve
  have QD:V7 x.ka id L≠none:=fun e=>by
   unfold V7 at e
   have:=List.find?_eq_none.1 e x Ve
   exact this (qK.2 ⟨rfl,QQ⟩)
  have S5:∀l∈t.QB,l<h.length:=T.av.is.lt
  have ZK:=Qd ha
  have M':=T.mp.del id
  rw[S3]at M'
  refine QX Qe 200 func116 rfl ntmps116 results116 rfl fun base w pl hb=>?_
  have Qf:=Qd ho
  have Vy:=Qd Vx
  simp only[go_sem,simprocAttr,Qa,ho,Qf,Vx,Vy,hk]
  refine Wj [6] Qe hb 200 mixed [(0,true),(1,true),(2,true),(3,true),(4,true),(5,true),(6,false),(7,true)] [] (by kernel_rfl) (by kernel_rfl) ?_
  simp only[go_sem,simprocAttr,Qa,ho,Qf,Vx,Vy,Qt (Ne.symm T.pm)]
  refine WD hb RK rfl ?_ (SL (tl:=a) (t:=t) (L:=L) ((T.av.set _ (Ne.symm T.am) T.mt).app _) x.ka id QD (by omega)) rfl fun d h6 hR=>?_
  ·simp only[go_sem,simprocAttr,QQ]
  obtain⟨rfl,t',A6⟩:=hR
  rw[Hf]at A6
  refine QF hb ?_
  simp only[go_sem,simprocAttr,Qa]
  exact⟨rfl,T.fin (H:=h++_) (Step.app S h _) ((QU Qf).trans ho) (by simp;omega) (xG Vy).symm T.mt T.pt (fun l hl=>.inl (T.st l hl)) M' (fun y hy=>T.vi y (List.mem_filter.1 hy).1) A6⟩
section
variable {h:List Ob} {p:Nat} {L:List It} (T:xZ h p L)
include T
theorem rJ:QP prog 101 h [.ptr p 0 0 0] (fun d=>d=Qb L.length):=by
 obtain⟨a,m,t,c,es,T⟩:=T
 obtain⟨ho,ha,is,hl,hs,hm,mp⟩:=T
 have e1:es.length=L.length:=by rw[mp.len,List.length_map]
 refine Zi Qe 200 func101 rfl ntmps101 results101 rfl fun base w pl F hF QS hb=>?_
 rw[← hF]at ho ha hm
 have Qf:=Qd ho
 have ZK:=Qd ha
 have QO:=Qd hm
 simp only[go_sem,simprocAttr,Qa,ho,Qf,ha,ZK,hm,QO,e1]
 exact⟨[],by simp⟩
theorem Qls (now:Nat):QP prog 105 h [.ptr p 0 0 0,u64 now] (fun d=>∃o,zD o (L.filter fun x=>decide (x.ka≤min now 9223372036854775807))∧d=.tup [Qb (o.getD default).ki,QN o.isSome]):=by
 obtain⟨a,m,t,c,es,T⟩:=T
 obtain⟨ho,ha,is,hl,hs,hm,mp⟩:=T
 have e1:min (now:Int) 9223372036854775807=((min now 9223372036854775807:Nat):Int):=by omega
 have zd:=ha
 have ZZ:=Tr.GY (min now 9223372036854775807) t none [] (by rw[hl];exact hs) rfl
 rw[hl,List.nil_append]at ZZ
 refine QP.mono (R:=fun d=>d=.tup [Qb ((t.Ko (min now 9223372036854775807) none).getD default).ki,QN (t.Ko (min now 9223372036854775807) none).isSome]) ?_ (fun d hd=>⟨_,ZZ,hd⟩)
 refine Zi Qe 200 func105 rfl ntmps105 results105 rfl fun base w pl F hF QS hb=>?_
 rw[← hF]at ho ha
 have Qf:=Qd ho
 have ZK:=Qd ha
 simp only[go_sem,simprocAttr,Qa,ho,Qf,ha,ZK,e1]
 refine QK hb oe rfl ?_ (p9 (Jk hF _ _ zd) (is.more (Jk hF)) (min now 9223372036854775807)) rfl fun d hR=>?_
 ·simp only[go_sem,simprocAttr,Qa,ho,Qf]
 subst hR
 refine Qc hb ?_
 simp only[go_sem,simprocAttr,Qa,ho,Qf]
 exact⟨_,rfl⟩
theorem Qlt:QP prog 32 h [.ptr p 0 0 0] (fun d=>d=u64 (match L.head? with|some x=>min x.ka never|none=>never)):=by
 have T0:=T
 obtain⟨a,m,t,c,es,T⟩:=T
 obtain⟨ho,ha,is,hl,hs,hm,mp⟩:=T
 have zd:=ha
 cases hL:L with
 | nil=>
  have d0:((L.length:Int)==0)=true:=by simp [hL]
  refine Zi Qe 200 func32 rfl ntmps32 results32 rfl fun base w pl F hF QS hb=>?_
  rw[← hF]at ho ha
  have Qf:=Qd ho
  have ZK:=Qd ha
  simp only[go_sem,simprocAttr,Qa,ho,Qf,ha,ZK]
  refine QK hb oc rfl ?_ (rJ (T0.more (Jk hF))) rfl fun d hR=>?_
  ·simp only[go_sem,simprocAttr,Qa,ho,Qf,d0]
  subst hR
  refine Qc hb ?_
  simp only[go_sem,simprocAttr,Qa,ho,Qf,d0]
  exact⟨[],by simp [never]⟩
 | cons x M=>
  have d0:((L.length:Int)==0)=false:=by simp [hL];omega
  refine Zi Qe 200 func32 rfl ntmps32 results32 rfl fun base w pl F hF QS hb=>?_
  rw[← hF]at ho ha
  have Qf:=Qd ho
  have ZK:=Qd ha
  simp only[go_sem,simprocAttr,Qa,ho,Qf,ha,ZK]
  refine QK hb oc rfl ?_ (rJ (T0.more (Jk hF))) rfl fun d hR=>?_
  ·simp only[go_sem,simprocAttr,Qa,ho,Qf,d0]
  subst hR
  refine Qc hb ?_
  simp only[go_sem,simprocAttr,Qa,ho,Qf,d0]
  refine Qc hb ?_
  simp only[go_sem,simprocAttr,Qa,ho,Qf]
  refine QK hb od rfl ?_ (p7 (Jk hF _ _ zd) (is.more (Jk hF))) rfl fun d hR=>?_
  ·simp only[go_sem,simprocAttr,Qa,ho,Qf]
  subst hR
  refine Qc hb ?_
  simp only[go_sem,simprocAttr,Qa,ho,Qf]
  refine⟨_,rfl,?_⟩
  rw[hl,hL]
  congr 2
  show min (x.ka:Int) 9223372036854775808=((min x.ka never:Nat):Int)
  simp only[never]
  omega
end
theorem rK {S:Nat→Prop} {h:List Ob} {p:Nat} {L:List It} (T:KA S h p L) (id:Int) (vt fit:Nat) (hs:L.length<400000) :
  QH prog 115 h [.ptr p 0 0 0,Qb id,u64 vt,u64 fit] (fun d h'=>KA (more S h) h' p (VL id vt fit L)∧Step S h h'):=by
 have T0:=T
 obtain⟨a,m,t,c,es,T⟩:=T
 have ho:=T.o
 refine QX Qe 200 func115 rfl ntmps115 results115 rfl fun base w pl hb=>?_
 have Qf:=Qd ho
 simp only[go_sem,simprocAttr,Qa,ho,Qf]
 refine QT hb oo rfl ?_ (rI T0 id hs) rfl fun d h2 hR=>?_
 ·simp only[go_sem,simprocAttr]
 obtain⟨rfl,T2,s2⟩:=hR
 obtain⟨a,m,t,c,es,T⟩:=T2
 have ho:=T.o
 have Vx:=T.mo
 have ha:=T.av.o
 have Qf:=Qd ho
 have Vy:=Qd Vx
 have jx:JH id (JH id L)=JH id L:=by unfold JH;rw[List.filter_filter];simp
 obtain⟨c',es',e1,M'⟩:=T.mp.set .i64 c id (.agg (It.mk vt id fit id).cells)
 have e2:Ka .i64 c es id (.agg [.raw (.int .u64 vt),.raw (.int .i64 id),.raw (.int .u64 fit),.raw (.int .i64 id)])=QG .i64 c' es':=e1
 refine Qc hb ?_
 simp only[go_sem,simprocAttr,Qa,ho,Qf,Vx,Vy]
 refine QA Qe hb 200 mixed [(0,true),(1,true),(2,true),(3,true),(4,true),(5,true),(6,false)] (by kernel_rfl) (by kernel_rfl) ?_
 simp only[go_sem,simprocAttr,Qa,ho,Qf,Vx,Vy]
 simp only[e2]
 refine Wj [8] Qe hb 200 mixed [(0,true),(1,true),(2,true),(3,true),(4,true),(5,true),(6,true),(7,true),(8,false),(9,true)] [] (by kernel_rfl) (by kernel_rfl) ?_
 simp only[go_sem,simprocAttr,Qa,ho,Qf,Vx,Vy,Qt (Ne.symm T.pm)]
 refine WD hb RJ rfl ?_ (G5 (tl:=a) (t:=t) (L:=JH id L) ((T.av.set _ (Ne.symm T.am) T.mt).app _) ⟨vt,id,fit,id⟩ (S1 L vt id) (by have:=S4 id L;omega)) rfl fun d h8 hR=>?_
 ·simp only[go_sem,simprocAttr]
 obtain⟨rfl,t'',A8⟩:=hR
 refine QF hb ?_
 simp only[go_sem,simprocAttr,Qa]
 have Xl:VL id vt fit (JH id L)=VL id vt fit L:=by unfold VL;rw[jx]
 have hD:=T.done (H:=h2++_) (h8:=h8) (t'':=t'') (Step.app _ h2 _) ((QU Qf).trans ho) (by simp;omega) (xG Vy).symm T.mt T.pt (fun l hl=>.inl (T.st l hl)) M' (by rw[Xl];exact A8)
 rw[Xl]at hD
 have Jf:=s2.len
 exact⟨hD.1.mono fun l hl=>hl.elim (fun h3=>h3) fun h3=>.inr (by omega),s2.trans hD.2⟩
end Go.Fg.X
namespace Go.Fg
open Go.RowKit (Below)
section
variable {P:Program} {L:Zh} {base nt:Nat} {s:St} {o:Oper}
theorem Qlu {t e:TypeId} {y:Ty} {k:IntKind} (ht:P.underlying t=some (.slice e)) (hy:KP P e y) (hz:y.zero.length=y.size) (hs:0<y.size) (w:World) (n:Nat)
  (X8:n≤4294967296) (XG:y.bytes≤1024) :
  (Instr.makeSlice t (.int k n) (.int k n)).run P w=.ok (.slice (some ⟨w.heap.size,0,none⟩) n n) (w.alloc (.cells (flat n y.size fun _ j=>QL y.zero j).toArray e)):=by
 obtain⟨z,za,XH⟩:=hy.zeroValue
 obtain⟨i,hi,ja,Wz⟩:=hy.typeInfo w
 have ZH:∀w,(typeInfo e).run P w=.ok i w:=fun w=>by
  have h4:=hy.info
  cases hx:P.info? e with
  | none=>rw[hx]at h4;cases h4
  | some k=>
   simp [typeInfo,hx]at hi ⊢
   exact hi
 have hw:IntKind.i64.wrap (n:Int)=n:=by rw[IntKind.wrap_i64];omega
 have Sy:¬ (281474976710656<(i.bytes:Int)*(n:Int)):=by
  have hmul:y.bytes*n≤1024*4294967296:=Nat.mul_le_mul XG X8
  rw[← Int.natCast_mul,Wz]
  omega
 have G0:¬ ((n:Int)<0):=by omega
 have xh:z.cells.size=y.size:=by rw[← hz,← za];simp
 have Yp:(flat n y.size fun _ j=>QL y.zero j).toArray=(Array.range (n*y.size)).map (z.cells[· % z.cells.size]!):=by
  apply Array.ext
  ·simp [WX]
  ·intro j h1 h2
   simp only[List.size_toArray,WX]at h1
   obtain⟨d1,d2,d3⟩:=div_lt h1
   have Sz:y.zero=z.cells.toList:=za.symm
   have hj:j % y.size<z.cells.size:=by rw[xh];exact d2
   simp [flat,QL,Sz,List.getD_eq_getElem?_getD,xh,hj]
   rw[getElem!_pos z.cells _ hj,Array.getElem?_eq_getElem hj];rfl
 rw[Yp]
 by_cases hn:n=0
 ·subst hn
  have NH:IntKind.i64.wrap 0=0:=rfl
  simp [Instr.makeSlice,run_underlying ht,hy.sizeOf,ZH,XH,asInt,asIntOf,newRow,Sem.run,NH]
  congr 2
  apply Array.ext<;>simp
 ·have yV:¬ (n*y.size=0):=Nat.mul_ne_zero hn (by omega)
  simp [Instr.makeSlice,run_underlying ht,hy.sizeOf,ZH,XH,asInt,asIntOf,hw,hn,G0,yV,Sy,newRow,Sem.run]
theorem Qlv (hL:Zw P L) {t e:TypeId} {x0 x:Operand} {n:Nat} {a b:Nat} {zt:List Value} {y:Ty} {k:IntKind} (ho:o.op=.makeSlice t x x) (hx:Qq s.fr x=.raw (.int k n))
  (ht:ty L t=some ⟨.slice e,a,b,zt⟩) (KQ:ty L e=some y) (hz:y.zero.length=y.size) (hs:0<y.size) (X8:n≤4294967296) (XG:y.bytes≤1024) :
  X7 P base nt o s (s.h++[⟨.arr,0,y.size,n,fun _=>y.zero.map ZT⟩]) (.ref s.h.length 0 0 n):=by
 intro Z pl ac w r Jw
 have xg:=r.eval x
 rw[hx]at xg
 have hv:=ZD xg
 have hy:=hL _ _ KQ
 have Q4:pl.length=s.h.length:=r.o.len
 have QV:=Qlu (k:=k) (zZ (hL _ _ ht) rfl) hy hz hs w n X8 XG
 have e1:∀b,b<w.heap.size→(w.alloc (.cells (flat n y.size fun _ j=>QL y.zero j).toArray e)).heap[b]? = w.heap[b]? := fun b hb=>qs w _ b hb
 have ZX:(w.alloc (.cells (flat n y.size fun _ j=>QL y.zero j).toArray e)).heap[w.heap.size]? = some (.cells (flat n y.size fun _ j=>QL y.zero j).toArray e (0,0)):=heap_alloc_new w _
 have T:Tr s.h pl w (s.h++[⟨.arr,0,y.size,n,fun _=>y.zero.map ZT⟩]) (pl++[some (w.heap.size,0)]) (w.alloc (.cells (flat n y.size fun _ j=>QL y.zero j).toArray e)):=Tr.push r.o e1 _ _ (by intro b q h;simp at h;omega)
 refine⟨.slice (some ⟨w.heap.size,0,none⟩) n n,_,_,.inl ?_,T,QW.push r.o e1 _ rfl (Nat.le_refl _) Jw ZX (by simp [WX]) (fun i hi=>by simp [hz]) (fun i j hi hj=>⟨QL y.zero j,?_,?_⟩),.ref _ _ _ _ ⟨.arr,0,y.size,n,fun _=>y.zero.map ZT⟩ (some (w.heap.size,0)) _ _ (by simp) (by rw[← Q4];simp) rfl (Nat.le_refl _) (fun _=>.inr ⟨w.heap.size,0,_,_,rfl,by simp,ZX,?_,Nat.le_refl _⟩),wZ Jw _,fun _=>e1⟩
 ·simp only[execOp,ho,hv,QV,Sem.run_bind,Result.andThen_ok,Sem.run_pure]
 ·have hg:=yK (vs:=fun _ j=>QL y.zero j) hi hj
  rw[Nat.zero_add]
  simpa using hg
 ·have Xt:j<y.zero.length:=by rw[hz];exact hj
  have:nth (y.zero.map ZT) j=ZT (QL y.zero j):=by simp [nth,QL,List.getD_eq_getElem?_getD,Xt]
  show Qv Z _ _ _ (nth (y.zero.map ZT) j) _
  rw[this]
  exact .cl _ _ (vC _ _ _)
 ·simp [WX]
end
section
variable {P:Program} {L:Zh} {base nt:Nat} {w0:Start} {Q:Exit→St→Prop}
theorem Qlw (hL:Zw P L) (hb:base≤w0.w.heap.size) {k:List Item} {dst:Option Nat} {BY:TypeId} {pos:String} {after:Array Edge} {gd:Option (Nat × Bool)} {r:List (Oper × G)} {s:St} {t e:TypeId} {x:Operand} {n:Nat} {a b:Nat} {zt:List Value} {y:Ty} {ki:IntKind}
  (hx:Qq s.fr x=.raw (.int ki n)) (ht:ty L t=some ⟨.slice e,a,b,zt⟩) (KQ:ty L e=some y) (hz:y.zero.length=y.size) (hs:0<y.size) (X8:n≤4294967296) (XG:y.bytes≤1024) (hd:Zo nt dst=true)
  (h1:Qs P base nt w0 Q (.ops r::k) .normal ⟨Ze s.fr dst (.ref s.h.length 0 0 n),s.h++[⟨.arr,0,y.size,n,fun _=>y.zero.map ZT⟩]⟩) :
  Qs P base nt w0 Q (.ops ((⟨dst,.makeSlice t x x,BY,pos,after,gd⟩,none)::r)::k) .normal s:=by
 simp only[Qs]at h1 ⊢
 exact LU hb (Qlv (x0:=x) hL rfl hx ht KQ hz hs X8 XG) hd h1
end
end Go.Fg
namespace Go.Fg.X
open Go.Proofs Go.Fg
open Go.Proofs.Tryz
@[go_sem] def Hh (a room first n:Nat):Ob:=⟨.one,0,3,1,fun _=>[.ref a 0 0 room,Qb first,Qb n]⟩
structure Qlx (S:Nat→Prop) (h:List Ob) (r a room first:Nat) (row:Nat→List D) (L:List Pk):Prop where
 o:h[r]? = some (Hh a room first L.length)
 ao:h[a]? = some ⟨.arr,0,6,room,row⟩
 ra:r≠a
 fl:first<room
 len:L.length≤room
 YZ:room≤64
 rows:∀i,i<L.length→row ((first+i) % room)=(L.getD i default).cells
 lens:∀i,i<room→(row i).length=6
 sr:S r
 sa:S a
def Ys (S:Nat→Prop) (h:List Ob) (r room:Nat) (L:List Pk):Prop:=∃a first row,Qlx S h r a room first row L
structure B4 (h:List Ob) (r a room first:Nat) (row:Nat→List D) (L:List Pk):Prop where
 o:(h.map Ob.ro)[r]? = some (Hh a room first L.length).ro
 ao:(h.map Ob.ro)[a]? = some (⟨.arr,0,6,room,row⟩:Ob).ro
 fl:first<room
 len:L.length≤room
 YZ:room≤64
 rows:∀i,i<L.length→row ((first+i) % room)=(L.getD i default).cells
def Ez (h:List Ob) (r room:Nat) (L:List Pk):Prop:=∃a first row,B4 h r a room first row L
theorem Ys.toR {S:Nat→Prop} {h:List Ob} {r room:Nat} {L:List Pk}:Ys S h r room L→Ez h r room L:=fun⟨a,f,row,T⟩=>⟨a,f,row,ZA T.o,ZA T.ao,T.fl,T.len,T.YZ,T.rows⟩
theorem B4.more {h h':List Ob} {r a room first:Nat} {row:Nat→List D} {L:List Pk} (e:∀(l:Nat) (o:Ob),(h.map Ob.ro)[l]? = some o→(h'.map Ob.ro)[l]? = some o) (T:B4 h r a room first row L):B4 h' r a room first row L:=⟨e _ _ T.o,e _ _ T.ao,T.fl,T.len,T.YZ,T.rows⟩
theorem Ez.more {h h':List Ob} {r room:Nat} {L:List Pk} (e:∀(l:Nat) (o:Ob),(h.map Ob.ro)[l]? = some o→(h'.map Ob.ro)[l]? = some o):Ez h r room L→Ez h' r room L:=fun⟨a,f,row,T⟩=>⟨a,f,row,e _ _ T.o,e _ _ T.ao,T.fl,T.len,T.YZ,T.rows⟩
theorem Ys.frame {S:Nat→Prop} {h h':List Ob} {r room:Nat} {L:List Pk} (e:∀l,S l→l<h.length→h'[l]? = h[l]?):Ys S h r room L→Ys S h' r room L:=fun⟨a,f,row,T⟩=>
 ⟨a,f,row,(e _ T.sr (Qd T.o)).trans T.o,(e _ T.sa (Qd T.ao)).trans T.ao,T.ra,T.fl,T.len,T.YZ,T.rows,T.lens,T.sr,T.sa⟩
theorem rL {h:List Ob} {r a room first n:Nat} {row:Nat→List D} (ho:(h.map Ob.ro)[r]? = some (Hh a room first n).ro) (ha:(h.map Ob.ro)[a]? = some (⟨.arr,0,6,room,row⟩:Ob).ro) (Yp:first<room) (jx:room≤64) (i:Nat) (hi:i≤64) :
  QP prog 168 h [.ptr r 0 0 0,Qb i] (fun d=>d=Qb ((first+i) % room:Nat)):=by
 have e1:IntKind.i64.wrap ((first:Int)+i)=((first+i:Nat):Int):=by rw[wrap64 (by omega) (by omega)];omega
 refine Zi Qe 200 func168 rfl ntmps168 results168 rfl fun base w pl F hF QS hb=>?_
 rw[← hF]at ho ha
 have Qf:=Qd ho
 have ZK:=Qd ha
 simp only[go_sem,simprocAttr,Qa,ho,Qf,ha,ZK]
 refine QA Qe hb 200 mixed [(0,true),(1,true),(2,true),(3,true),(4,true),(5,true),(6,true),(7,true),(8,true),(9,true),(10,true),(11,true),(12,true)] (by kernel_rfl) (by kernel_rfl) ?_
 simp only[go_sem,simprocAttr,Qa,ho,Qf,ha,ZK,e1]
 refine⟨by omega,[],by simp,?_⟩
 congr 2
section
variable {h:List Ob} {r a room first:Nat} {row:Nat→List D} {L:List Pk} (T:B4 h r a room first row L)
include T
theorem rM (i:Nat) (hi:i≤64):QP prog 168 h [.ptr r 0 0 0,Qb i] (fun d=>d=Qb ((first+i) % room:Nat)):=rL T.o T.ao T.fl T.YZ i hi
theorem rN:QP prog 176 h [.ptr r 0 0 0] (fun d=>d=Qb (room - L.length:Nat)):=by
 obtain⟨ho,ha,Yp,DG,jx,jz⟩:=T
 have e1:IntKind.i64.wrap ((room:Int) - L.length)=((room - L.length:Nat):Int):=by rw[wrap64 (by omega) (by omega)];omega
 refine Zi Qe 200 func176 rfl ntmps176 results176 rfl fun base w pl F hF QS hb=>?_
 rw[← hF]at ho ha
 have Qf:=Qd ho
 have ZK:=Qd ha
 simp only[go_sem,simprocAttr,Qa,ho,Qf,ha,ZK]
 refine QA Qe hb 200 mixed [(0,true),(1,true),(2,true),(3,true),(4,true),(5,true),(6,true),(7,true),(8,true),(9,true),(10,true)] (by kernel_rfl) (by kernel_rfl) ?_
 simp only[go_sem,simprocAttr,Qa,ho,Qf,ha,ZK,e1]
 exact⟨[],by simp⟩
theorem Qly:QP prog 117 h [.ptr r 0 0 0] (fun d=>d=Qb L.length):=by
 obtain⟨ho,ha,Yp,DG,jx,jz⟩:=T
 refine Zi Qe 200 func117 rfl ntmps117 results117 rfl fun base w pl F hF QS hb=>?_
 rw[← hF]at ho ha
 have Qf:=Qd ho
 have ZK:=Qd ha
 simp only[go_sem,simprocAttr,Qa,ho,Qf,ha,ZK]
 exact⟨[],by simp⟩
theorem Tc (i:Nat) (hi:i<L.length):QP prog 142 h [.ptr r 0 0 0,Qb i] (fun d=>d=.tup [.agg (L.getD i default).cells,Qb 0]):=by
 have T0:=T
 obtain⟨ho,ha,Yp,DG,jx,jz⟩:=T
 have d1:decide ((i:Int)<0)=false:=decide_eq_false (by omega)
 have d2:decide (L.length≤i)=false:=decide_eq_false (by omega)
 refine Zi Qe 200 func142 rfl ntmps142 results142 rfl fun base w pl F hF QS hb=>?_
 rw[← hF]at ho ha
 have Qf:=Qd ho
 have ZK:=Qd ha
 simp only[go_sem,simprocAttr,Qa,ho,Qf,ha,ZK,d1,d2]
 refine QA Qe hb 200 mixed [(0,true),(1,true),(2,true),(3,true),(4,true),(5,true),(6,false),(7,true),(8,true),(9,false),(10,true)] (by kernel_rfl) (by kernel_rfl) ?_
 simp only[go_sem,simprocAttr,Qa,ho,Qf,ha,ZK]
 refine Z3 hb RH rfl ?_ (rM (T0.more (Aq hF)) i (by omega)) rfl fun d hR=>?_
 ·simp only[go_sem,simprocAttr,Qa,ho,Qf,ha,ZK]
 subst hR
 refine QF hb ?_
 simp only[go_sem,simprocAttr,Qa,ho,Qf,ha,ZK]
 have hm:(first+i) % room<room:=Nat.mod_lt _ (by omega)
 have ZR:=jz i hi
 refine⟨hm,hm,?_⟩
 simp only[go_sem,simprocAttr,Qa,ho,Qf,ha,ZK,ZR]
 exact⟨_,rfl⟩
end
theorem Td {f i n:Nat} (h1:f<n) (h2:i≤n):(f+i) % n=if f+i<n then f+i else f+i - n:=by
 split
 ·exact Nat.mod_eq_of_lt ‹_›
 ·rw[Nat.mod_eq_sub_mod (by omega),Nat.mod_eq_of_lt (by omega)]
theorem Qlz {S:Nat→Prop} {h:List Ob} {r room:Nat} {L:List Pk} (T:Ys S h r room L) (x:Pk) :
  QH prog 123 h [.ptr r 0 0 0,.agg x.cells] (fun d h'=>d=Qb (if L.length=room then 5 else 0)∧Ys S h' r room (if L.length=room then L else L++[x])∧Step S h h'):=by
 have T0:=T
 obtain⟨a,first,row,T⟩:=T
 have ho:=T.o
 have ha:=T.ao
 have Tr:=fun g=>(show B4 (h++g) r a room first row L from ⟨ZA ((QU (Qd T.o)).trans T.o),ZA ((QU (Qd T.ao)).trans T.ao),T.fl,T.len,T.YZ,T.rows⟩)
 by_cases hf:L.length=room
 ·have d0:(((room - L.length:Nat):Int)==0)=true:=by simp;omega
  refine QX Qe 200 func123 rfl ntmps123 results123 rfl fun base w pl hb=>?_
  have Qf:=Qd ho
  have ZK:=Qd ha
  simp only[go_sem,simprocAttr,Qa,ho,Qf,ha,ZK]
  refine QK hb oB rfl ?_ (rN (Tr _)) rfl fun d hR=>?_
  ·simp only[go_sem,simprocAttr,Qa,ho,Qf,ha,ZK,d0]
  subst hR
  refine Qc hb ?_
  simp only[go_sem,simprocAttr,Qa,ho,Qf,ha,ZK,d0]
  rw[if_pos hf,if_pos hf]
  exact⟨rfl,T0.frame fun l h1 h2=>QU h2,Step.app S h _⟩
 ·have hlen:=T.len
  have d0:(((room - L.length:Nat):Int)==0)=false:=by simp;omega
  refine QX Qe 200 func123 rfl ntmps123 results123 rfl fun base w pl hb=>?_
  have Qf:=Qd ho
  have ZK:=Qd ha
  simp only[go_sem,simprocAttr,Qa,ho,Qf,ha,ZK]
  refine QK hb oB rfl ?_ (rN (Tr _)) rfl fun d hR=>?_
  ·simp only[go_sem,simprocAttr,Qa,ho,Qf,ha,ZK,d0]
  subst hR
  refine Qc hb ?_
  simp only[go_sem,simprocAttr,Qa,ho,Qf,ha,ZK,d0]
  refine QA Qe hb 200 mixed [(0,true),(1,true),(2,true),(3,true),(4,true),(5,true),(6,true),(7,true),(8,true),(10,true),(9,false),(11,true),(12,false)] (by kernel_rfl) (by kernel_rfl) ?_
  simp only[go_sem,simprocAttr,Qa,ho,Qf,ha,ZK]
  refine Z3 hb RH rfl ?_ (rM (Tr _) L.length (by have:=T.YZ;omega)) rfl fun d hR=>?_
  ·simp only[go_sem,simprocAttr,Qa,ho,Qf,ha,ZK]
  subst hR
  refine QF hb ?_
  simp only[go_sem,simprocAttr,Qa,ho,Qf,ha,ZK]
  have hm:(first+L.length) % room<room:=Nat.mod_lt _ (by have:=T.fl;omega)
  have EA:(row ((first+L.length) % room)).drop 6=[]:=List.drop_eq_nil_of_le (by rw[T.lens _ hm];exact Nat.le_refl _)
  refine⟨hm,hm,?_⟩
  simp only[go_sem,simprocAttr,Qa,ho,Qf,ha,ZK,EA,Qt (Ne.symm T.ra)]
  rw[if_neg hf,if_neg hf]
  have B5:=Qd ho
  have B6:=Qd ha
  have Yp:=T.fl
  have jx:=T.YZ
  have e1:IntKind.i64.wrap ((L.length:Int)+1)=((L.length+1:Nat):Int):=by rw[wrap64 (by omega) (by omega)];omega
  refine⟨rfl,⟨a,first,fun k=>bif k==(first+L.length) % room then x.cells else row k,?_,?_,T.ra,T.fl,by simp;omega,jx,?_,?_,T.sr,T.sa⟩,?_,?_⟩
  ·rw[QU (by simp;exact B5),List.getElem?_set_self (by simp;exact B5),e1]
   simp [Hh,Qb]
  ·rw[QU (by simp;exact B6),List.getElem?_set_ne T.ra,List.getElem?_set_self B6];rfl
  ·intro i hi
   simp only[List.length_append,List.length_singleton]at hi
   by_cases h1:i=L.length
   ·subst h1;simp
   ·have ZH:i<L.length:=by omega
    have QD:((first+i) % room==(first+L.length) % room)=false:=by
     rw[Td Yp (by omega),Td Yp (by omega)];simp only[beq_eq_false_iff_ne];split<;>split<;>omega
    rw[QD];simp only[cond_false,T.rows i ZH,List.getD,List.getElem?_append_left ZH]
  ·intro i hi
   show (bif _ then _ else _:List D).length=6
   by_cases h1:(i==(first+L.length) % room)=true
   ·rw[h1];rfl
   ·rw[Bool.eq_false_iff.2 h1];exact T.lens i hi
  ·intro l hl hn
   have n1:a≠l:=fun e=>hn (e▸T.sa)
   have n2:r≠l:=fun e=>hn (e▸T.sr)
   rw[QU (by simp;exact hl),List.getElem?_set_ne n2,List.getElem?_set_ne n1]
  ·simp
theorem QlA {S:Nat→Prop} {h:List Ob} {r room:Nat} {x:Pk} {L:List Pk} (T:Ys S h r room (x::L)) :
  QH prog 107 h [.ptr r 0 0 0] (fun d h'=>d=.tup [.agg x.cells,Qb 0]∧Ys S h' r room L∧Step S h h'):=by
 have T0:=T
 obtain⟨a,first,row,T⟩:=T
 have ho:=T.o
 have ha:=T.ao
 have Tr:=fun g=>(show B4 (h++g) r a room first row (x::L) from ⟨ZA ((QU (Qd T.o)).trans T.o),ZA ((QU (Qd T.ao)).trans T.ao),T.fl,T.len,T.YZ,T.rows⟩)
 have jx:=T.YZ
 have Yp:=T.fl
 have DG:=T.len
 simp only[List.length_cons]at DG
 refine QX Qe 200 func107 rfl ntmps107 results107 rfl fun base w pl hb=>?_
 have Qf:=Qd ho
 have ZK:=Qd ha
 simp only[go_sem,simprocAttr,Qa,ho,Qf,ha,ZK]
 refine QK hb RG rfl ?_ (Tc (Tr _) 0 (by simp)) rfl fun d hR=>?_
 ·simp only[go_sem,simprocAttr,Qa,Qa,ho,Qf,ha,ZK]
 subst hR
 refine Qc hb ?_
 simp only[go_sem,simprocAttr,Qa,Qa,ho,Qf,ha,ZK]
 refine QA Qe hb 200 mixed [(0,true),(1,true),(2,true),(3,true),(4,true),(5,true),(6,true),(7,true),(8,true),(9,true),(10,false)] (by kernel_rfl) (by kernel_rfl) ?_
 simp only[go_sem,simprocAttr,Qa,ho,Qf,ha,ZK]
 refine⟨Yp,Yp,?_⟩
 have B5:=Qd ho
 have B6:=Qd ha
 have EA:(row first).drop 6=[]:=List.drop_eq_nil_of_le (by rw[T.lens _ Yp];exact Nat.le_refl _)
 have IT:∀A B,((h.set a A).set r B)[r]? = some B:=fun A B=>List.getElem?_set_self (by simp;exact B5)
 have e2:IntKind.i64.wrap (((L.length+1:Nat):Int) - 1)=(L.length:Int):=by rw[wrap64 (by omega) (by omega)];omega
 have x4:=fun A g=>(show ((h.set a A++g).map Ob.ro)[r]? = some (Hh a room first (L.length+1)).ro from ZA ((QU (by simp;exact B5)).trans ((List.getElem?_set_ne (Ne.symm T.ra)).trans ho)))
 have haN:=fun K3 g=>(show ((h.set a ⟨.arr,0,6,room,K3⟩++g).map Ob.ro)[a]? = some (⟨.arr,0,6,room,K3⟩:Ob).ro from ZA ((QU (by simp;exact B6)).trans (List.getElem?_set_self B6)))
 refine QK hb RH rfl ?_ (rL (x4 _ _) (haN _ _) Yp jx 1 (by omega)) rfl fun d hR=>?_
 ·simp only[go_sem,simprocAttr,Qa,Qa,ho,Qf,ha,ZK,Qt (Ne.symm T.ra),EA,IT,e2]
 subst hR
 refine Qc hb ?_
 simp only[go_sem,simprocAttr,Qa,Qa,ho,Qf,ha,ZK,Qt (Ne.symm T.ra),EA,IT,e2]
 refine⟨⟨a,(first+1) % room,fun k=>bif k==first then (default:Pk).cells else row k,?_,?_,T.ra,Nat.mod_lt _ (by omega),by omega,jx,?_,?_,T.sr,T.sa⟩,?_,?_⟩
 ·rw[QU (by simp;exact B5),List.getElem?_set_self (by simp;exact B5)];rfl
 ·rw[QU (by simp;exact B6),List.getElem?_set_ne T.ra,List.getElem?_set_self B6];rfl
 ·intro i hi
  have e3:((first+1) % room+i) % room=(first+(i+1)) % room:=by rw[Nat.mod_add_mod];congr 1;omega
  have h1:i+1<room:=by omega
  have QD:((first+(i+1)) % room==first)=false:=by
   rw[Td Yp (by omega)];simp only[beq_eq_false_iff_ne];split<;>omega
  rw[e3]
  simp only[QD,cond_false,T.rows (i+1) (by simp;omega)]
  simp
 ·intro i hi
  show (bif _ then _ else _:List D).length=6
  by_cases h1:(i==first)=true
  ·rw[h1];rfl
  ·rw[Bool.eq_false_iff.2 h1];exact T.lens i hi
 ·intro l hl hn
  have n1:a≠l:=fun e=>hn (e▸T.sa)
  have n2:r≠l:=fun e=>hn (e▸T.sr)
  rw[QU (by simp;exact hl),List.getElem?_set_ne n2,List.getElem?_set_ne n1]
 ·simp
theorem QlC (h:List Ob) (n:Nat) (h1:1≤n) (h2:n≤64):QH prog 194 h [Qb n] (fun d h'=>d=.tup [.ptr (h.length+1) 0 0 0,Qb 0]∧Ys (fun l=>h.length≤l) h' (h.length+1) n []∧∃g,h'=h++g∧g.length=2):=by
 have d1:decide ((n:Int)<1)=false:=decide_eq_false (by omega)
 have d2:decide ((64:Int)<n)=false:=decide_eq_false (by omega)
 refine QX Qe 200 func194 rfl ntmps194 results194 rfl fun base w pl hb=>?_
 simp only[go_sem,simprocAttr,Qa,d1,d2]
 refine Qlw vX hb rfl rfl rfl rfl (by decide) (by omega) (by decide) rfl ?_
 refine Qc hb ?_
 simp only[go_sem,simprocAttr]
 simp only[List.length_append,List.length_singleton,List.append_assoc,List.cons_append,List.nil_append]
 refine⟨trivial,⟨h.length,0,fun _=>(default:Pk).cells,KW rfl,Kc rfl,by omega,by omega,by simp,h2,by simp,fun _ _=>rfl,by show h.length≤_;omega,Nat.le_refl _⟩,_,rfl,rfl⟩
@[go_sem] def num (n:Nat):D:=.agg [u64 (n / 18446744073709551616),u64 (n % 18446744073709551616)]
theorem QlD (a b ah al bh bl:Nat) (ha:a=ah*4294967296+al) (hb:b=bh*4294967296+bl) (h1:ah<4294967296) (h2:al<4294967296) (h3:bh<4294967296) (h4:bl<4294967296) :
  ∃P Q R S:Nat,P=ah*bh∧Q=ah*bl∧R=al*bh∧S=al*bl∧a*b=P*18446744073709551616+(Q+R)*4294967296+S∧P≤18446744065119617025∧Q≤18446744065119617025∧R≤18446744065119617025∧S≤18446744065119617025:=by
 refine⟨_,_,_,_,rfl,rfl,rfl,rfl,?_,?_,?_,?_,?_⟩
 ·subst ha hb
  have e:(ah*4294967296+al)*(bh*4294967296+bl)=ah*bh*(4294967296*4294967296)+(ah*bl+al*bh)*4294967296+al*bl:=by
   simp only[Nat.add_mul,Nat.mul_add,Nat.mul_comm,Nat.mul_left_comm,Nat.mul_assoc]
   omega
  rw[e]
 all_goals (refine Nat.le_trans (Nat.mul_le_mul (Nat.le_sub_one_of_lt ‹_›) (Nat.le_sub_one_of_lt ‹_›)) (by decide))
theorem kX (a b:Nat) (ha:a<18446744073709551616) (hb:b<18446744073709551616):Q8 prog 110 [u64 a,u64 b] (Ql (num (a*b))):=by
 refine Zb 0 Qe 200 func110 rfl ntmps110 results110 rfl fun base w hb=>?_
 simp only[go_sem,Nat.reduceAdd,Nat.reduceSub,Nat.reduceMul,Nat.reduceBEq,Nat.reduceLT,Nat.reduceLeDiff,Nat.reduceEqDiff,Int.reduceToNat,Int.reduceLE,Int.reduceLT,Int.reduceAdd,Int.reduceSub,Int.reduceNeg,Int.reduceBEq,Int.reduceBNe,Nat.reduceBNe,Nat.reduceDiv,Nat.reduceMod]
 have e32:(2:Nat) ^ min 32 64=4294967296:=rfl
 have i32:(2:Int) ^ min 32 64=((4294967296:Nat):Int):=rfl
 obtain⟨P,Q,R,S,hP,hQ,hR,hS,J3,bP,bQ,bR,bS⟩:=QlD a b (a / 4294967296) (a % 4294967296) (b / 4294967296) (b % 4294967296) (by omega) (by omega) (by omega) (by omega) (by omega) (by omega)
 have s32:∀x:Nat,((x:Int)).fdiv ((4294967296:Nat):Int)=((x / 4294967296:Nat):Int):=fun x=>by have:=BW x 32;rwa [show (2:Int) ^ 32=((4294967296:Nat):Int) from rfl,show (2:Nat) ^ 32=4294967296 from rfl]at this
 simp (disch:=omega) only [s32,Qkp,i32,GU,BV,← hP,← hQ,← hR,← hS,J3]
 have k2:∀X:Nat,X*4294967296 % 18446744073709551616=X % 4294967296*4294967296:=fun X=>by omega
 rw[k2,Qkq _ _ (by omega) (by omega)]
 have e1:((P % 18446744073709551616+((Q % 18446744073709551616+S % 18446744073709551616 / 4294967296) % 18446744073709551616) / 4294967296) % 18446744073709551616+((R % 18446744073709551616+((Q % 18446744073709551616+S % 18446744073709551616 / 4294967296) % 18446744073709551616) % 4294967296) % 18446744073709551616) / 4294967296) % 18446744073709551616=(P*18446744073709551616+(Q+R)*4294967296+S) / 18446744073709551616:=by omega
 have e2:((R % 18446744073709551616+((Q % 18446744073709551616+S % 18446744073709551616 / 4294967296) % 18446744073709551616) % 4294967296) % 18446744073709551616) % 4294967296*4294967296+S % 18446744073709551616 % 4294967296=(P*18446744073709551616+(Q+R)*4294967296+S) % 18446744073709551616:=by omega
 rw[e1,e2]
theorem Te (a b:Nat) (ha:a<2 ^ 128) (hb:b<2 ^ 128):Q8 prog 209 [num a,num b] (Ql (Qb (if a<b then -1 else if a=b then 0 else 1))):=by
 refine Zb 0 Qe 200 func209 rfl ntmps209 results209 rfl fun base w hb=>?_
 simp only[go_sem,Nat.reduceAdd,Nat.reduceSub,Nat.reduceMul,Nat.reduceBEq,Nat.reduceLT,Nat.reduceLeDiff,Nat.reduceEqDiff,Int.reduceToNat,Int.reduceLE,Int.reduceLT,Int.reduceAdd,Int.reduceSub,Int.reduceNeg,Int.reduceBEq,Int.reduceBNe,Nat.reduceBNe,Nat.reduceDiv,Nat.reduceMod]
 refine kx (fun h1=>?_) (fun h1=>?_)
 ·simp only[go_sem,Nat.reduceAdd,Nat.reduceSub,Nat.reduceMul,Nat.reduceBEq,Nat.reduceLT,Nat.reduceLeDiff,Nat.reduceEqDiff,Int.reduceToNat,Int.reduceLE,Int.reduceLT,Int.reduceAdd,Int.reduceSub,Int.reduceNeg,Int.reduceBEq,Int.reduceBNe,Nat.reduceBNe,Nat.reduceDiv,Nat.reduceMod,h1]
  have:=of_decide_eq_true h1
  rw[if_pos (by omega)]
 simp only[go_sem,Nat.reduceAdd,Nat.reduceSub,Nat.reduceMul,Nat.reduceBEq,Nat.reduceLT,Nat.reduceLeDiff,Nat.reduceEqDiff,Int.reduceToNat,Int.reduceLE,Int.reduceLT,Int.reduceAdd,Int.reduceSub,Int.reduceNeg,Int.reduceBEq,Int.reduceBNe,Nat.reduceBNe,Nat.reduceDiv,Nat.reduceMod,h1]
 have ZB:=of_decide_eq_false h1
 refine kx (fun h2=>?_) (fun h2=>?_)
 ·have WV:a / 18446744073709551616=b / 18446744073709551616:=by have:=eq_of_beq h2;omega
  simp only[go_sem,Nat.reduceAdd,Nat.reduceSub,Nat.reduceMul,Nat.reduceBEq,Nat.reduceLT,Nat.reduceLeDiff,Nat.reduceEqDiff,Int.reduceToNat,Int.reduceLE,Int.reduceLT,Int.reduceAdd,Int.reduceSub,Int.reduceNeg,Int.reduceBEq,Int.reduceBNe,Nat.reduceBNe,Nat.reduceDiv,Nat.reduceMod,h2]
  refine kx (fun h3=>?_) (fun h3=>?_)
  ·have:=of_decide_eq_true h3
   simp only[go_sem,Nat.reduceAdd,Nat.reduceSub,Nat.reduceMul,Nat.reduceBEq,Nat.reduceLT,Nat.reduceLeDiff,Nat.reduceEqDiff,Int.reduceToNat,Int.reduceLE,Int.reduceLT,Int.reduceAdd,Int.reduceSub,Int.reduceNeg,Int.reduceBEq,Int.reduceBNe,Nat.reduceBNe,Nat.reduceDiv,Nat.reduceMod,h3]
   rw[if_pos (by omega)]
  ·have Sb:=of_decide_eq_false h3
   simp only[go_sem,Nat.reduceAdd,Nat.reduceSub,Nat.reduceMul,Nat.reduceBEq,Nat.reduceLT,Nat.reduceLeDiff,Nat.reduceEqDiff,Int.reduceToNat,Int.reduceLE,Int.reduceLT,Int.reduceAdd,Int.reduceSub,Int.reduceNeg,Int.reduceBEq,Int.reduceBNe,Nat.reduceBNe,Nat.reduceDiv,Nat.reduceMod,h3]
   refine kx (fun h4=>?_) (fun h4=>?_)
   ·simp only[go_sem,Nat.reduceAdd,Nat.reduceSub,Nat.reduceMul,Nat.reduceBEq,Nat.reduceLT,Nat.reduceLeDiff,Nat.reduceEqDiff,Int.reduceToNat,Int.reduceLE,Int.reduceLT,Int.reduceAdd,Int.reduceSub,Int.reduceNeg,Int.reduceBEq,Int.reduceBNe,Nat.reduceBNe,Nat.reduceDiv,Nat.reduceMod,h4]
    simp only[Bool.and_eq_true,beq_iff_eq]at h4
    rw[if_neg (by omega),if_pos (by omega)]
   ·simp only[go_sem,Nat.reduceAdd,Nat.reduceSub,Nat.reduceMul,Nat.reduceBEq,Nat.reduceLT,Nat.reduceLeDiff,Nat.reduceEqDiff,Int.reduceToNat,Int.reduceLE,Int.reduceLT,Int.reduceAdd,Int.reduceSub,Int.reduceNeg,Int.reduceBEq,Int.reduceBNe,Nat.reduceBNe,Nat.reduceDiv,Nat.reduceMod,h4]
    simp only[Bool.and_eq_false_iff,beq_eq_false_iff_ne]at h4
    rw[if_neg (by omega),if_neg (by omega)]
 ·have WV:=ne_of_beq_false h2
  simp only[go_sem,Nat.reduceAdd,Nat.reduceSub,Nat.reduceMul,Nat.reduceBEq,Nat.reduceLT,Nat.reduceLeDiff,Nat.reduceEqDiff,Int.reduceToNat,Int.reduceLE,Int.reduceLT,Int.reduceAdd,Int.reduceSub,Int.reduceNeg,Int.reduceBEq,Int.reduceBNe,Nat.reduceBNe,Nat.reduceDiv,Nat.reduceMod,h2,Bool.false_and]
  rw[if_neg (by omega),if_neg (by omega)]
theorem QlF (a b c u:Nat) (ha:a<18446744073709551616) (hb:b<18446744073709551616) (hc:c<2) (hl:u=(a+18446744073709551616 - b+18446744073709551616 - c) % 18446744073709551616) :
  (bits BinOp.or IntKind.u64 (bits BinOp.and IntKind.u64 (bits BinOp.xor IntKind.u64 (if IntKind.u64.signed=true then -1 else IntKind.u64.max) (a:Int)) (b:Int)) (bits BinOp.and IntKind.u64 (bits BinOp.xor IntKind.u64 (if IntKind.u64.signed=true then -1 else IntKind.u64.max) (bits BinOp.xor IntKind.u64 (a:Int) (b:Int))) (u:Int))).fdiv (2 ^ min 63 64)=((if a<b+c then 1 else 0:Nat):Int):=by
 have em:(if IntKind.u64.signed=true then -1 else IntKind.u64.max)=((18446744073709551615:Nat):Int):=by decide
 have hx:a ^^^ b<2 ^ 64:=Nat.xor_lt_two_pow (by omega) (by omega)
 have yP:18446744073709551615 ^^^ a<2 ^ 64:=Nat.xor_lt_two_pow (by omega) (by omega)
 have KS:18446744073709551615 ^^^ (a ^^^ b)<2 ^ 64:=Nat.xor_lt_two_pow (by omega) (by omega)
 have x5:(18446744073709551615 ^^^ a) &&& b<2 ^ 64:=Nat.and_lt_two_pow _ (by omega)
 have hx4:(18446744073709551615 ^^^ (a ^^^ b)) &&& u<2 ^ 64:=Nat.and_lt_two_pow _ (by omega)
 rw[em,u64_xor_nat a b ha hb,u64_xor_nat _ a (by decide) ha,u64_xor_nat _ _ (by decide) (by omega),u64_and_nat _ b (by omega) hb,u64_and_nat _ u (by omega) (by omega),u64_or_nat _ _ (by omega) (by omega),BW]
 rw[show (2:Nat) ^ min 63 64=9223372036854775808 from rfl,Sn _ _ (by omega) (by omega),Np _ _ (by omega) (by omega),Np _ _ (by omega) (by omega),Sp _ _ (by omega) (by omega),Sp _ _ (by omega) (by omega),Sp _ _ (by omega) (by omega)]
 rw[Qkr a b c _ _ _ u _ ha hb hc hl rfl rfl rfl rfl]
theorem rO (a b:Nat) (c:Nat) (ha:a<18446744073709551616) (hb:b<18446744073709551616) (hc:c<2):Q8 prog 258 [u64 a,u64 b,u64 c] (Ql (.tup [u64 ((a+18446744073709551616 - b+18446744073709551616 - c) % 18446744073709551616),u64 (if a<b+c then 1 else 0)])):=by
 refine Zb 0 Qe 200 func258 rfl ntmps258 results258 rfl fun base w hb=>?_
 simp only[go_sem,Nat.reduceAdd,Nat.reduceSub,Nat.reduceMul,Nat.reduceBEq,Nat.reduceLT,Nat.reduceLeDiff,Nat.reduceEqDiff,Int.reduceToNat,Int.reduceLE,Int.reduceLT,Int.reduceAdd,Int.reduceSub,Int.reduceNeg,Int.reduceBEq,Int.reduceBNe,Nat.reduceBNe,Nat.reduceDiv,Nat.reduceMod]
 have h2:IntKind.u64.wrap (IntKind.u64.wrap ((a:Int) - (b:Int)) - (c:Int))=(((a+18446744073709551616 - b+18446744073709551616 - c) % 18446744073709551616:Nat):Int):=by
  rw[Sm a b (by omega),Sm _ c (by omega)];omega
 rw[h2,QlF a b c _ ha ‹_› hc rfl]
theorem QlH (a b:Nat) (ha:a<2 ^ 128) (hb:b<2 ^ 128):Q8 prog 210 [num a,num b] (Ql (.tup [num ((a+2 ^ 128 - b) % 2 ^ 128),QN (decide (a<b))])):=by
 refine Zb 0 Qe 200 func210 rfl ntmps210 results210 rfl fun base w hb=>?_
 simp only[go_sem,Nat.reduceAdd,Nat.reduceSub,Nat.reduceMul,Nat.reduceBEq,Nat.reduceLT,Nat.reduceLeDiff,Nat.reduceEqDiff,Int.reduceToNat,Int.reduceLE,Int.reduceLT,Int.reduceAdd,Int.reduceSub,Int.reduceNeg,Int.reduceBEq,Int.reduceBNe,Nat.reduceBNe,Nat.reduceDiv,Nat.reduceMod]
 refine QE hb oM rfl ?_ (rO (a % 18446744073709551616) (b % 18446744073709551616) 0 (by omega) (by omega) (by omega)) (Ql.flat rfl) rfl fun d h hR=>?_
 ·simp only[go_sem,Nat.reduceAdd,Nat.reduceSub,Nat.reduceMul,Nat.reduceBEq,Nat.reduceLT,Nat.reduceLeDiff,Nat.reduceEqDiff,Int.reduceToNat,Int.reduceLE,Int.reduceLT,Int.reduceAdd,Int.reduceSub,Int.reduceNeg,Int.reduceBEq,Int.reduceBNe,Nat.reduceBNe,Nat.reduceDiv,Nat.reduceMod]
 obtain⟨rfl,rfl⟩:=hR
 refine Qc hb ?_
 simp only[go_sem,Nat.reduceAdd,Nat.reduceSub,Nat.reduceMul,Nat.reduceBEq,Nat.reduceLT,Nat.reduceLeDiff,Nat.reduceEqDiff,Int.reduceToNat,Int.reduceLE,Int.reduceLT,Int.reduceAdd,Int.reduceSub,Int.reduceNeg,Int.reduceBEq,Int.reduceBNe,Nat.reduceBNe,Nat.reduceDiv,Nat.reduceMod]
 refine QE hb oM rfl ?_ (rO (a / 18446744073709551616) (b / 18446744073709551616) (if a % 18446744073709551616<b % 18446744073709551616+0 then 1 else 0) (by omega) (by omega) (by split<;>omega)) (Ql.flat rfl) rfl fun d h hR=>?_
 ·simp only[go_sem,Nat.reduceAdd,Nat.reduceSub,Nat.reduceMul,Nat.reduceBEq,Nat.reduceLT,Nat.reduceLeDiff,Nat.reduceEqDiff,Int.reduceToNat,Int.reduceLE,Int.reduceLT,Int.reduceAdd,Int.reduceSub,Int.reduceNeg,Int.reduceBEq,Int.reduceBNe,Nat.reduceBNe,Nat.reduceDiv,Nat.reduceMod]
 obtain⟨rfl,rfl⟩:=hR
 refine Qc hb ?_
 simp only[go_sem,Nat.reduceAdd,Nat.reduceSub,Nat.reduceMul,Nat.reduceBEq,Nat.reduceLT,Nat.reduceLeDiff,Nat.reduceEqDiff,Int.reduceToNat,Int.reduceLE,Int.reduceLT,Int.reduceAdd,Int.reduceSub,Int.reduceNeg,Int.reduceBEq,Int.reduceBNe,Nat.reduceBNe,Nat.reduceDiv,Nat.reduceMod]
 have e1:∀x:Nat,(((if x=1 then (1:Nat) else 0:Nat):Int) != 0)=decide (x=1):=fun x=>by by_cases h:x=1<;>simp [h]
 have e2:(((if a / 18446744073709551616<b / 18446744073709551616+if a % 18446744073709551616<b % 18446744073709551616 then 1 else 0 then 1 else 0:Nat):Int) != 0)=decide (a<b):=by
  by_cases h1:a % 18446744073709551616<b % 18446744073709551616
  ·rw[if_pos h1]
   by_cases h2:a / 18446744073709551616<b / 18446744073709551616+1
   ·rw[if_pos h2];simp;omega
   ·rw[if_neg h2];simp;omega
  ·rw[if_neg h1]
   by_cases h2:a / 18446744073709551616<b / 18446744073709551616+0
   ·rw[if_pos h2];simp;omega
   ·rw[if_neg h2];simp;omega
 have e3:(a / 18446744073709551616+18446744073709551616 - b / 18446744073709551616+18446744073709551616 - if a % 18446744073709551616<b % 18446744073709551616 then 1 else 0) % 18446744073709551616=(a+2 ^ 128 - b) % 2 ^ 128 / 18446744073709551616:=by
  split<;>omega
 have e4:(a % 18446744073709551616+18446744073709551616 - b % 18446744073709551616+18446744073709551616 - 0) % 18446744073709551616=(a+2 ^ 128 - b) % 2 ^ 128 % 18446744073709551616:=by omega
 rw[e2,e3,e4]
theorem QlI (a b c u:Nat) (ha:a<18446744073709551616) (hb:b<18446744073709551616) (hc:c<2) (hl:u=(a+b+c) % 18446744073709551616) :
  (bits BinOp.or IntKind.u64 (bits BinOp.and IntKind.u64 (a:Int) (b:Int)) (bits BinOp.andNot IntKind.u64 (bits BinOp.or IntKind.u64 (a:Int) (b:Int)) (u:Int))).fdiv (2 ^ min 63 64)=((if 18446744073709551616≤a+b+c then 1 else 0:Nat):Int):=by
 have hx:a ||| b<2 ^ 64:=Nat.or_lt_two_pow (by omega) (by omega)
 have x5:a &&& b<2 ^ 64:=Nat.and_lt_two_pow _ (by omega)
 have hx4:(a ||| b) &&& (18446744073709551615 - u)<2 ^ 64:=Nat.and_lt_two_pow _ (by omega)
 rw[u64_and_nat a b ha hb,u64_or_nat a b ha hb,u64_andNot_nat _ u (by omega) (by omega),u64_or_nat _ _ (by omega) (by omega),BW]
 rw[show (2:Nat) ^ min 63 64=9223372036854775808 from rfl,Sn _ _ (by omega) (by omega),Np _ _ (by omega) (by omega),Np _ _ (by omega) (by omega),Sn _ _ (by omega) (by omega)]
 rw[show (18446744073709551615 - u) / 9223372036854775808=1 - u / 9223372036854775808 by omega]
 rw[Qks a b c _ _ _ u _ ha hb hc hl rfl rfl rfl rfl]
theorem rP (a b:Nat) (c:Nat) (ha:a<18446744073709551616) (hb:b<18446744073709551616) (hc:c<2):Q8 prog 266 [u64 a,u64 b,u64 c] (Ql (.tup [u64 ((a+b+c) % 18446744073709551616),u64 (if 18446744073709551616≤a+b+c then 1 else 0)])):=by
 refine Zb 0 Qe 200 func266 rfl ntmps266 results266 rfl fun base w hb=>?_
 simp only[go_sem,Nat.reduceAdd,Nat.reduceSub,Nat.reduceMul,Nat.reduceBEq,Nat.reduceLT,Nat.reduceLeDiff,Nat.reduceEqDiff,Int.reduceToNat,Int.reduceLE,Int.reduceLT,Int.reduceAdd,Int.reduceSub,Int.reduceNeg,Int.reduceBEq,Int.reduceBNe,Nat.reduceBNe,Nat.reduceDiv,Nat.reduceMod]
 have h2:IntKind.u64.wrap (IntKind.u64.wrap ((a:Int)+(b:Int))+(c:Int))=(((a+b+c) % 18446744073709551616:Nat):Int):=by
  rw[BV,BV];omega
 rw[h2,QlI a b c _ ha ‹_› hc rfl]
theorem Hi (a b:Nat) (ha:a<2 ^ 128) (hb:b<2 ^ 128):Q8 prog 218 [num a,num b] (Ql (.tup [num ((a+b) % 2 ^ 128),QN (decide (2 ^ 128≤a+b))])):=by
 refine Zb 0 Qe 200 func218 rfl ntmps218 results218 rfl fun base w hb=>?_
 simp only[go_sem,Nat.reduceAdd,Nat.reduceSub,Nat.reduceMul,Nat.reduceBEq,Nat.reduceLT,Nat.reduceLeDiff,Nat.reduceEqDiff,Int.reduceToNat,Int.reduceLE,Int.reduceLT,Int.reduceAdd,Int.reduceSub,Int.reduceNeg,Int.reduceBEq,Int.reduceBNe,Nat.reduceBNe,Nat.reduceDiv,Nat.reduceMod]
 refine QE hb oS rfl ?_ (rP (a % 18446744073709551616) (b % 18446744073709551616) 0 (by omega) (by omega) (by omega)) (Ql.flat rfl) rfl fun d h hR=>?_
 ·simp only[go_sem,Nat.reduceAdd,Nat.reduceSub,Nat.reduceMul,Nat.reduceBEq,Nat.reduceLT,Nat.reduceLeDiff,Nat.reduceEqDiff,Int.reduceToNat,Int.reduceLE,Int.reduceLT,Int.reduceAdd,Int.reduceSub,Int.reduceNeg,Int.reduceBEq,Int.reduceBNe,Nat.reduceBNe,Nat.reduceDiv,Nat.reduceMod]
 obtain⟨rfl,rfl⟩:=hR
 refine Qc hb ?_
 simp only[go_sem,Nat.reduceAdd,Nat.reduceSub,Nat.reduceMul,Nat.reduceBEq,Nat.reduceLT,Nat.reduceLeDiff,Nat.reduceEqDiff,Int.reduceToNat,Int.reduceLE,Int.reduceLT,Int.reduceAdd,Int.reduceSub,Int.reduceNeg,Int.reduceBEq,Int.reduceBNe,Nat.reduceBNe,Nat.reduceDiv,Nat.reduceMod]
 refine QE hb oS rfl ?_ (rP (a / 18446744073709551616) (b / 18446744073709551616) (if 18446744073709551616≤a % 18446744073709551616+b % 18446744073709551616+0 then 1 else 0) (by omega) (by omega) (by split<;>omega)) (Ql.flat rfl) rfl fun d h hR=>?_
 ·simp only[go_sem,Nat.reduceAdd,Nat.reduceSub,Nat.reduceMul,Nat.reduceBEq,Nat.reduceLT,Nat.reduceLeDiff,Nat.reduceEqDiff,Int.reduceToNat,Int.reduceLE,Int.reduceLT,Int.reduceAdd,Int.reduceSub,Int.reduceNeg,Int.reduceBEq,Int.reduceBNe,Nat.reduceBNe,Nat.reduceDiv,Nat.reduceMod]
 obtain⟨rfl,rfl⟩:=hR
 refine Qc hb ?_
 simp only[go_sem,Nat.reduceAdd,Nat.reduceSub,Nat.reduceMul,Nat.reduceBEq,Nat.reduceLT,Nat.reduceLeDiff,Nat.reduceEqDiff,Int.reduceToNat,Int.reduceLE,Int.reduceLT,Int.reduceAdd,Int.reduceSub,Int.reduceNeg,Int.reduceBEq,Int.reduceBNe,Nat.reduceBNe,Nat.reduceDiv,Nat.reduceMod]
 have e2:(((if 18446744073709551616≤a / 18446744073709551616+b / 18446744073709551616+(if 18446744073709551616≤a % 18446744073709551616+b % 18446744073709551616 then 1 else 0) then 1 else 0:Nat):Int) != 0)=decide (2 ^ 128≤a+b):=by
  by_cases h1:18446744073709551616≤a % 18446744073709551616+b % 18446744073709551616
  ·rw[if_pos h1]
   by_cases h2:18446744073709551616≤a / 18446744073709551616+b / 18446744073709551616+1
   ·rw[if_pos h2];simp;omega
   ·rw[if_neg h2];simp;omega
  ·rw[if_neg h1]
   by_cases h2:18446744073709551616≤a / 18446744073709551616+b / 18446744073709551616+0
   ·rw[if_pos h2];simp;omega
   ·rw[if_neg h2];simp;omega
 have e3:(a / 18446744073709551616+b / 18446744073709551616+if 18446744073709551616≤a % 18446744073709551616+b % 18446744073709551616 then 1 else 0) % 18446744073709551616=(a+b) % 2 ^ 128 / 18446744073709551616:=by
  split<;>omega
 have e4:(a % 18446744073709551616+b % 18446744073709551616) % 18446744073709551616=(a+b) % 2 ^ 128 % 18446744073709551616:=by omega
 rw[e2,e3,e4]
theorem rQ (a:Nat) (ha:a<18446744073709551616):Q8 prog 260 [u64 a] (Ql (num a)):=by
 refine Zb 0 Qe 200 func260 rfl ntmps260 results260 rfl fun base w hb=>?_
 simp only[go_sem,Nat.reduceAdd,Nat.reduceSub,Nat.reduceMul,Nat.reduceBEq,Nat.reduceLT,Nat.reduceLeDiff,Nat.reduceEqDiff,Int.reduceToNat,Int.reduceLE,Int.reduceLT,Int.reduceAdd,Int.reduceSub,Int.reduceNeg,Int.reduceBEq,Int.reduceBNe,Nat.reduceBNe,Nat.reduceDiv,Nat.reduceMod]
 have e1:a / 18446744073709551616=0:=by omega
 have e2:a % 18446744073709551616=a:=by omega
 rw[e1,e2];rfl
theorem Tf (x y:Nat) (hx:x<9223372036854775808) (hy:y<2):bits .or .u64 ((x*2:Nat):Int) (y:Int)=((x*2+y:Nat):Int):=by
 rw[u64_or_nat _ _ (by omega) (by omega),nat_join 1 _ _ (by omega) (by omega)]
theorem Tg (x:Nat):(x:Int).fdiv (2 ^ min 63 64)=((x / 9223372036854775808:Nat):Int):=by
 have:=BW x 63
 rwa [show (2:Int) ^ 63=2 ^ min 63 64 from rfl,show (2:Nat) ^ 63=9223372036854775808 from rfl]at this
theorem Th (x:Nat):IntKind.u64.wrap ((x:Int)*2 ^ min 1 64)=((x % 9223372036854775808*2:Nat):Int):=by
 rw[show (2:Int) ^ min 1 64=((2:Nat):Int) from rfl,GU];omega
theorem Ti (r A:Nat) (hA:A<2 ^ 128):bits .or .u64 (IntKind.u64.wrap ((r:Int)*2 ^ min 1 64)) ((A / 18446744073709551616 / 9223372036854775808:Nat):Int)=(((2*r+A / 2 ^ 127) % 18446744073709551616:Nat):Int):=by
 rw[Th,Tf _ _ (by omega) (by omega)];congr 1;omega
theorem EB (A:Nat) (hA:A<2 ^ 128):bits .or .u64 (IntKind.u64.wrap (((A / 18446744073709551616:Nat):Int)*2 ^ min 1 64)) ((A % 18446744073709551616 / 9223372036854775808:Nat):Int)=(((A*2 % 2 ^ 128) / 18446744073709551616:Nat):Int):=by
 rw[Th,Tf _ _ (by omega) (by omega)];congr 1;omega
theorem Tj (A:Nat):IntKind.u64.wrap (((A % 18446744073709551616:Nat):Int)*2 ^ min 1 64)=(((A*2 % 2 ^ 128) % 18446744073709551616:Nat):Int):=by
 rw[Th];congr 1;omega
theorem NI (x:Nat):bits .or .u64 (((x*2 % 2 ^ 128) % 18446744073709551616:Nat):Int) 1=((((x*2+1) % 2 ^ 128) % 18446744073709551616:Nat):Int):=by
 have:=Tf ((x*2 % 2 ^ 128) % 18446744073709551616 / 2) 1 (by omega) (by omega)
 rw[show (x*2 % 2 ^ 128) % 18446744073709551616 / 2*2=(x*2 % 2 ^ 128) % 18446744073709551616 by omega]at this
 rw[show ((1:Nat):Int)=1 from rfl]at this
 rw[this];congr 1;omega
theorem Tl {n:Nat} (h:n≠0):((n:Int) != 0)=true:=by simp [h]
theorem NJ {n:Nat} (h:n=0):((n:Int) != 0)=false:=by simp [h]
theorem QlJ (a k:Nat) (hk:k<128):a / 2 ^ (128 - (k+1))=2*(a / 2 ^ (128 - k))+(a*2 ^ k % 2 ^ 128) / 2 ^ 127:=by
 obtain⟨m,hm⟩:∃m,m=127 - k:=⟨_,rfl⟩
 have e1:128 - (k+1)=m:=by omega
 have e2:128 - k=m+1:=by omega
 have e3:(2:Nat) ^ 128=2 ^ (m+1)*2 ^ k:=by rw[← Nat.pow_add];congr 1;omega
 have e4:(2:Nat) ^ 127=2 ^ m*2 ^ k:=by rw[← Nat.pow_add];congr 1;omega
 rw[e1,e2,e3,e4,Nat.mul_mod_mul_right,Nat.mul_div_mul_right _ _ (Nat.two_pow_pos k),Nat.pow_succ]
 have hM:=Nat.two_pow_pos m
 generalize 2 ^ m=M at *
 have h1:=Nat.div_add_mod a (M*2)
 have h2:a=M*(2*(a / (M*2)))+a % (M*2):=by rw[← Nat.mul_assoc];omega
 conv=>lhs;rw[h2]
 rw[Nat.mul_add_div hM]
theorem QlK (a k:Nat):a*2 ^ k % 2 ^ 128*2 % 2 ^ 128=a*2 ^ (k+1) % 2 ^ 128:=by
 have:a*2 ^ (k+1)=a*2 ^ k*2:=by rw[Nat.pow_succ,Nat.mul_assoc]
 rw[this];omega
theorem QlL (t b β:Nat) (hb:0<b) (hβ:β<2) :
  (b≤2*(t % b)+β→(2*t+β) / b=2*(t / b)+1∧(2*t+β) % b=2*(t % b)+β - b)∧(2*(t % b)+β<b→(2*t+β) / b=2*(t / b)∧(2*t+β) % b=2*(t % b)+β):=by
 have h1:=Nat.div_add_mod t b
 have h2:=Nat.mod_lt t hb
 constructor
 ·intro h
  refine(Nat.div_mod_unique hb).2 ⟨?_,by omega⟩
  rw[Nat.mul_add,Nat.mul_left_comm]
  omega
 ·intro h
  refine(Nat.div_mod_unique hb).2 ⟨?_,by omega⟩
  rw[Nat.mul_left_comm]
  omega
def dA (a k:Nat):Nat:=a*2 ^ k % 2 ^ 128
def dT (a k:Nat):Nat:=a / 2 ^ (128 - k)
theorem rR (a k:Nat) (h:a<2 ^ 128):dT a k<2 ^ 128:=Nat.lt_of_le_of_lt (Nat.div_le_self _ _) h
theorem AD (a k:Nat):dA a k<2 ^ 128:=Nat.mod_lt _ (by decide)
theorem rS (a b:Nat) (ha:a<2 ^ 128) (hb:b<18446744073709551616):Q8 prog 259 [num a,u64 b] (Ql (.tup [num (if b=0 then 0 else a / b),u64 (if b=0 then 0 else a % b),Qb (if b=0 then 1 else 0)])):=by
 refine Zb 0 Qe 200 func259 rfl ntmps259 results259 rfl fun base w hb=>?_
 simp only[go_sem,Nat.reduceAdd,Nat.reduceSub,Nat.reduceMul,Nat.reduceBEq,Nat.reduceLT,Nat.reduceLeDiff,Nat.reduceEqDiff,Int.reduceToNat,Int.reduceLE,Int.reduceLT,Int.reduceAdd,Int.reduceSub,Int.reduceNeg,Int.reduceBEq,Int.reduceBNe,Nat.reduceBNe,Nat.reduceDiv,Nat.reduceMod]
 by_cases Zf:b=0
 ·subst Zf
  simp only[go_sem,Nat.reduceAdd,Nat.reduceSub,Nat.reduceMul,Nat.reduceBEq,Nat.reduceLT,Nat.reduceLeDiff,Nat.reduceEqDiff,Int.reduceToNat,Int.reduceLE,Int.reduceLT,Int.reduceAdd,Int.reduceSub,Int.reduceNeg,Int.reduceBEq,Int.reduceBNe,Nat.reduceBNe,Nat.reduceDiv,Nat.reduceMod,if_true]
  try rfl
 have hbz:=bnz Zf
 simp only[go_sem,Nat.reduceAdd,Nat.reduceSub,Nat.reduceMul,Nat.reduceBEq,Nat.reduceLT,Nat.reduceLeDiff,Nat.reduceEqDiff,Int.reduceToNat,Int.reduceLE,Int.reduceLT,Int.reduceAdd,Int.reduceSub,Int.reduceNeg,Int.reduceBEq,Int.reduceBNe,Nat.reduceBNe,Nat.reduceDiv,Nat.reduceMod,hbz]
 have i1:dA a 0=a:=by show a*2 ^ 0 % 2 ^ 128=a;rw[Nat.pow_zero,Nat.mul_one];exact Nat.mod_eq_of_lt ha
 have i2:dT a 0=0:=Nat.div_eq_of_lt ha
 refine Qea (G:=Nat) [1,2,4,7] (fun k=>True) (fun k γ=>[(8,u64 (dT a k % b)),(13,Qb k)]) (fun k γ=>[⟨.one,0,2,1,fun _=>[u64 (dA a k / 18446744073709551616),u64 (dA a k % 18446744073709551616)]⟩,⟨.one,0,2,1,fun _=>[u64 0,u64 0]⟩,⟨.one,0,2,1,fun _=>[u64 (dT a k / b / 18446744073709551616),u64 (dT a k / b % 18446744073709551616)]⟩]) (128) (0) rfl (Qk.to 3 (by (simp only[go_sem,Nat.reduceAdd,Nat.reduceSub,Nat.reduceMul,Nat.reduceBEq,Nat.reduceLT,Nat.reduceLeDiff,Nat.reduceEqDiff,Int.reduceToNat,Int.reduceLE,Int.reduceLT,Int.reduceAdd,Int.reduceSub,Int.reduceNeg,Int.reduceBEq,Int.reduceBNe,Nat.reduceBNe,Nat.reduceDiv,Nat.reduceMod,i1,i2,Nat.zero_div,Nat.zero_mod])<;>simp)) trivial ?_
 intro k γ hk _
 replace hk:k≤128:=hk
 refine Qc hb ?_
 simp only[go_sem,Nat.reduceAdd,Nat.reduceSub,Nat.reduceMul,Nat.reduceBEq,Nat.reduceLT,Nat.reduceLeDiff,Nat.reduceEqDiff,Int.reduceToNat,Int.reduceLE,Int.reduceLT,Int.reduceAdd,Int.reduceSub,Int.reduceNeg,Int.reduceBEq,Int.reduceBNe,Nat.reduceBNe,Nat.reduceDiv,Nat.reduceMod]
 have Q3:=JX (show k<4611686018427387904 by omega)
 first|refine vT hk (fun Qn=>?_) (fun Qn=>?_)|refine vU hk (fun Qn=>?_) (fun Qn=>?_)
 ·replace Qn:k<128:=Qn
  have Qd:decide ((k:Int)<128)=true:=by simp;omega
  have Jg:0<b:=by omega
  have t1:dT a (k+1)=2*dT a k+dA a k / 2 ^ 127:=QlJ a k Qn
  have t2:dA a k*2 % 2 ^ 128=dA a (k+1):=QlK a k
  have t3:=QlL (dT a k) b (dA a k / 2 ^ 127) Jg (by have:=AD a k;omega)
  have t4:=Nat.mod_lt (dT a k) Jg
  have t5:=AD a k
  have t6:=rR a (k+1) ha
  rw[← t1]at t3
  have t7:dT a (k+1) / b<2 ^ 128:=Nat.lt_of_le_of_lt (Nat.div_le_self _ _) t6
  have t8:dT a k / b<2 ^ 128:=Nat.lt_of_le_of_lt (Nat.div_le_self _ _) (rR a k ha)
  by_cases xn:b≤2*(dT a k % b)+dA a k / 2 ^ 127
  ·obtain⟨q1,q2⟩:=t3.1 xn
   have e1:IntKind.u64.wrap ((((2*(dT a k % b)+dA a k / 2 ^ 127) % 18446744073709551616:Nat):Int) - (b:Int))=((dT a (k+1) % b:Nat):Int):=by
    rw[Sm _ b (by omega),q2];congr 1;omega
   have e2:dT a k / b*2 % 2 ^ 128=dT a k / b*2:=by omega
   have e3:((dT a k / b*2+1) % 2 ^ 128)=dT a (k+1) / b:=by omega
   have e4:dT a k / b*2 % 2 ^ 128 / 18446744073709551616=dT a (k+1) / b / 18446744073709551616:=by omega
   by_cases ho:dT a k % b / 9223372036854775808=0
   ·have Tm:decide (b≤(2*(dT a k % b)+dA a k / 2 ^ 127) % 18446744073709551616)=true:=by simp;omega
    have Y0:((((dT a k % b / 9223372036854775808:Nat)):Int) != 0)=false:=NJ ho
    simp only[go_sem,Nat.reduceAdd,Nat.reduceSub,Nat.reduceMul,Nat.reduceBEq,Nat.reduceLT,Nat.reduceLeDiff,Nat.reduceEqDiff,Int.reduceToNat,Int.reduceLE,Int.reduceLT,Int.reduceAdd,Int.reduceSub,Int.reduceNeg,Int.reduceBEq,Int.reduceBNe,Nat.reduceBNe,Nat.reduceDiv,Nat.reduceMod,Qd,Ti _ _ (AD a k),EB _ (AD a k),EB _ t8,Tj,Tg,Y0,Tm,e1,t2,NI,e3,e4]
    repeat (refine And.intro (by first|assumption|omega) ?_)
    refine⟨_,Qk.to 3 (by (simp only[go_sem,Nat.reduceAdd,Nat.reduceSub,Nat.reduceMul,Nat.reduceBEq,Nat.reduceLT,Nat.reduceLeDiff,Nat.reduceEqDiff,Int.reduceToNat,Int.reduceLE,Int.reduceLT,Int.reduceAdd,Int.reduceSub,Int.reduceNeg,Int.reduceBEq,Int.reduceBNe,Nat.reduceBNe,Nat.reduceDiv,Nat.reduceMod,Q3,e1,t2,NI,e3,e4])<;>simp),BJ.mk (γ) (trivial)⟩
   ·have Y0:((((dT a k % b / 9223372036854775808:Nat)):Int) != 0)=true:=Tl ho
    simp only[go_sem,Nat.reduceAdd,Nat.reduceSub,Nat.reduceMul,Nat.reduceBEq,Nat.reduceLT,Nat.reduceLeDiff,Nat.reduceEqDiff,Int.reduceToNat,Int.reduceLE,Int.reduceLT,Int.reduceAdd,Int.reduceSub,Int.reduceNeg,Int.reduceBEq,Int.reduceBNe,Nat.reduceBNe,Nat.reduceDiv,Nat.reduceMod,Qd,Ti _ _ (AD a k),EB _ (AD a k),EB _ t8,Tj,Tg,Y0,e1,t2,NI,e3,e4]
    repeat (refine And.intro (by first|assumption|omega) ?_)
    refine⟨_,Qk.to 3 (by (simp only[go_sem,Nat.reduceAdd,Nat.reduceSub,Nat.reduceMul,Nat.reduceBEq,Nat.reduceLT,Nat.reduceLeDiff,Nat.reduceEqDiff,Int.reduceToNat,Int.reduceLE,Int.reduceLT,Int.reduceAdd,Int.reduceSub,Int.reduceNeg,Int.reduceBEq,Int.reduceBNe,Nat.reduceBNe,Nat.reduceDiv,Nat.reduceMod,Q3,e1,t2,NI,e3,e4])<;>simp),BJ.mk (γ) (trivial)⟩
  ·obtain⟨q1,q2⟩:=t3.2 (by omega)
   have e1:(2*(dT a k % b)+dA a k / 2 ^ 127) % 18446744073709551616=dT a (k+1) % b:=by omega
   have e3:dT a k / b*2 % 2 ^ 128=dT a (k+1) / b:=by omega
   have ho:dT a k % b / 9223372036854775808=0:=by omega
   have Tm:decide (b≤dT a (k+1) % b)=false:=by simp;omega
   have Y0:=NJ ho
   simp only[go_sem,Nat.reduceAdd,Nat.reduceSub,Nat.reduceMul,Nat.reduceBEq,Nat.reduceLT,Nat.reduceLeDiff,Nat.reduceEqDiff,Int.reduceToNat,Int.reduceLE,Int.reduceLT,Int.reduceAdd,Int.reduceSub,Int.reduceNeg,Int.reduceBEq,Int.reduceBNe,Nat.reduceBNe,Nat.reduceDiv,Nat.reduceMod,Qd,Ti _ _ (AD a k),EB _ (AD a k),EB _ t8,Tj,Tg,Y0,e1,Tm,t2,e3]
   repeat (refine And.intro (by first|assumption|omega) ?_)
   refine⟨_,Qk.to 3 (by (simp only[go_sem,Nat.reduceAdd,Nat.reduceSub,Nat.reduceMul,Nat.reduceBEq,Nat.reduceLT,Nat.reduceLeDiff,Nat.reduceEqDiff,Int.reduceToNat,Int.reduceLE,Int.reduceLT,Int.reduceAdd,Int.reduceSub,Int.reduceNeg,Int.reduceBEq,Int.reduceBNe,Nat.reduceBNe,Nat.reduceDiv,Nat.reduceMod,Q3,e1,t2,e3])<;>simp),BJ.mk (γ) (trivial)⟩
 ·have Qd:decide ((k:Int)<128)=false:=by rw[Qn];rfl
  have e1:dT a k=a:=by rw[Qn];show a / 2 ^ 0=a;rw[Nat.pow_zero,Nat.div_one]
  simp only[go_sem,Nat.reduceAdd,Nat.reduceSub,Nat.reduceMul,Nat.reduceBEq,Nat.reduceLT,Nat.reduceLeDiff,Nat.reduceEqDiff,Int.reduceToNat,Int.reduceLE,Int.reduceLT,Int.reduceAdd,Int.reduceSub,Int.reduceNeg,Int.reduceBEq,Int.reduceBNe,Nat.reduceBNe,Nat.reduceDiv,Nat.reduceMod,Qd,e1]
  refine Qc hb ?_
  simp only[go_sem,Nat.reduceAdd,Nat.reduceSub,Nat.reduceMul,Nat.reduceBEq,Nat.reduceLT,Nat.reduceLeDiff,Nat.reduceEqDiff,Int.reduceToNat,Int.reduceLE,Int.reduceLT,Int.reduceAdd,Int.reduceSub,Int.reduceNeg,Int.reduceBEq,Int.reduceBNe,Nat.reduceBNe,Nat.reduceDiv,Nat.reduceMod]
  rw[if_neg Zf,if_neg Zf,if_neg Zf]
def d0 (n:Nat):Nat:=n % 4294967296
def d1 (n:Nat):Nat:=n / 4294967296 % 4294967296
def d2 (n:Nat):Nat:=n / 18446744073709551616 % 4294967296
def d3 (n:Nat):Nat:=n / 79228162514264337593543950336 % 4294967296
@[go_sem] def dg (n:Nat):D:=.agg [u64 (d0 n),u64 (d1 n),u64 (d2 n),u64 (d3 n)]
theorem NK:((1:Nat):Int)=1:=rfl
end Go.Fg.X
namespace Go.Fg.X
open Go.Proofs Go.Fg
end Go.Fg.X
namespace Go.Fg.X
open Go.Proofs Go.Fg
end Go.Fg.X
namespace Go.Fg.X
open Go.Proofs Go.Fg
end Go.Fg.X
namespace Go.Fg.X
open Go.Proofs Go.Fg
open Go.Proofs.Tryz
def cdiv (n d:Nat):Nat:=(n+d - 1) / d
theorem QlN (n d:Nat) (hd:0<d):cdiv n d=if n % d=0 then n / d else n / d+1:=by
 unfold cdiv
 have h1:=Nat.div_add_mod n d
 have h2:=Nat.mod_lt n hd
 split
 ·rename_i h
  have:(n+d - 1) / d=n / d∧(n+d - 1) % d=d - 1:=(Nat.div_mod_unique hd).2 ⟨by omega,by omega⟩
  exact this.1
 ·have:(n+d - 1) / d=n / d+1∧(n+d - 1) % d=n % d - 1:=(Nat.div_mod_unique hd).2 ⟨by rw[Nat.mul_add];omega,by omega⟩
  exact this.1
@[go_sem] def Quj (v e:Int):D:=.agg [.raw (.int .u64 v),.raw (.int .i64 e)]
theorem QlO (n d:Nat) (hn:n<2 ^ 128) (hd:0<d) (h:¬ n % d=0):n / d+1<2 ^ 128:=by
 have h2:2≤d:=by
  rcases Nat.lt_or_ge d 2 with h3|h3
  ·have:d=1:=by omega
   subst this;omega
  ·exact h3
 have:=Nat.div_le_div_left (c:=2) (b:=d) (a:=n) h2 (by decide)
 omega
theorem rT:((65536:Nat):Int)=65536:=rfl
def Hj (n:Nat):Nat:=if n<18446744073709551616 then n else 0
def EC (n:Nat):Int:=if n<18446744073709551616 then 0 else 20
theorem rU (n:Nat) (hn:n<2 ^ 128):Q8 prog 261 [num n] (Ql (.tup [u64 (Hj n),Qb (EC n)])):=by
 refine Zb 0 Qe 200 func261 rfl ntmps261 results261 rfl fun base w hb=>?_
 simp only[go_sem,Nat.reduceAdd,Nat.reduceSub,Nat.reduceMul,Nat.reduceBEq,Nat.reduceLT,Nat.reduceLeDiff,Nat.reduceEqDiff,Int.reduceToNat,Int.reduceLE,Int.reduceLT,Int.reduceAdd,Int.reduceSub,Int.reduceNeg,Int.reduceBEq,Int.reduceBNe,Nat.reduceBNe,Nat.reduceDiv,Nat.reduceMod]
 by_cases h:n<18446744073709551616
 ·have e1:((((n / 18446744073709551616:Nat)):Int) != 0)=false:=NJ (by omega)
  have e2:Hj n=n:=if_pos h
  have e3:EC n=0:=if_pos h
  simp only[go_sem,Nat.reduceAdd,Nat.reduceSub,Nat.reduceMul,Nat.reduceBEq,Nat.reduceLT,Nat.reduceLeDiff,Nat.reduceEqDiff,Int.reduceToNat,Int.reduceLE,Int.reduceLT,Int.reduceAdd,Int.reduceSub,Int.reduceNeg,Int.reduceBEq,Int.reduceBNe,Nat.reduceBNe,Nat.reduceDiv,Nat.reduceMod,e1,e2,e3]
  rw[Nat.mod_eq_of_lt h]
 ·have e1:((((n / 18446744073709551616:Nat)):Int) != 0)=true:=Tl (by omega)
  have e2:Hj n=0:=if_neg h
  have e3:EC n=20:=if_neg h
  simp only[go_sem,Nat.reduceAdd,Nat.reduceSub,Nat.reduceMul,Nat.reduceBEq,Nat.reduceLT,Nat.reduceLeDiff,Nat.reduceEqDiff,Int.reduceToNat,Int.reduceLE,Int.reduceLT,Int.reduceAdd,Int.reduceSub,Int.reduceNeg,Int.reduceBEq,Int.reduceBNe,Nat.reduceBNe,Nat.reduceDiv,Nat.reduceMod,e1,e2,e3]
theorem QlP (n d:Nat) (hn:n<2 ^ 128) (hd:d<18446744073709551616) (Az:0<d):Q8 prog 211 [num n,u64 d] (Ql (.tup [u64 (Hj (cdiv n d)),Qb (EC (cdiv n d))])):=by
 have hc:=QlN n d Az
 have rV:d≠0:=by omega
 have hle:=Nat.div_le_self n d
 refine Zb 0 Qe 200 func211 rfl ntmps211 results211 rfl fun base w hb=>?_
 simp only[go_sem,Nat.reduceAdd,Nat.reduceSub,Nat.reduceMul,Nat.reduceBEq,Nat.reduceLT,Nat.reduceLeDiff,Nat.reduceEqDiff,Int.reduceToNat,Int.reduceLE,Int.reduceLT,Int.reduceAdd,Int.reduceSub,Int.reduceNeg,Int.reduceBEq,Int.reduceBNe,Nat.reduceBNe,Nat.reduceDiv,Nat.reduceMod]
 refine QE hb oN rfl ?_ (rS n d hn hd) (Ql.flat rfl) rfl fun d h hR=>?_
 ·simp only[go_sem,Nat.reduceAdd,Nat.reduceSub,Nat.reduceMul,Nat.reduceBEq,Nat.reduceLT,Nat.reduceLeDiff,Nat.reduceEqDiff,Int.reduceToNat,Int.reduceLE,Int.reduceLT,Int.reduceAdd,Int.reduceSub,Int.reduceNeg,Int.reduceBEq,Int.reduceBNe,Nat.reduceBNe,Nat.reduceDiv,Nat.reduceMod,rV,if_false]
 obtain⟨rfl,rfl⟩:=hR
 refine Qc hb ?_
 simp only[go_sem,Nat.reduceAdd,Nat.reduceSub,Nat.reduceMul,Nat.reduceBEq,Nat.reduceLT,Nat.reduceLeDiff,Nat.reduceEqDiff,Int.reduceToNat,Int.reduceLE,Int.reduceLT,Int.reduceAdd,Int.reduceSub,Int.reduceNeg,Int.reduceBEq,Int.reduceBNe,Nat.reduceBNe,Nat.reduceDiv,Nat.reduceMod,rV,if_false]
 by_cases h:n % d=0
 ·rw[if_pos h]at hc
  have e1:=NJ h
  simp only[go_sem,Nat.reduceAdd,Nat.reduceSub,Nat.reduceMul,Nat.reduceBEq,Nat.reduceLT,Nat.reduceLeDiff,Nat.reduceEqDiff,Int.reduceToNat,Int.reduceLE,Int.reduceLT,Int.reduceAdd,Int.reduceSub,Int.reduceNeg,Int.reduceBEq,Int.reduceBNe,Nat.reduceBNe,Nat.reduceDiv,Nat.reduceMod,e1]
  refine QE hb oP rfl ?_ (rU (n / d) (by omega)) (Ql.flat rfl) rfl fun d h hR=>?_
  ·simp only[go_sem,Nat.reduceAdd,Nat.reduceSub,Nat.reduceMul,Nat.reduceBEq,Nat.reduceLT,Nat.reduceLeDiff,Nat.reduceEqDiff,Int.reduceToNat,Int.reduceLE,Int.reduceLT,Int.reduceAdd,Int.reduceSub,Int.reduceNeg,Int.reduceBEq,Int.reduceBNe,Nat.reduceBNe,Nat.reduceDiv,Nat.reduceMod,hc]
  obtain⟨rfl,rfl⟩:=hR
  refine Qc hb ?_
  simp only[go_sem,Nat.reduceAdd,Nat.reduceSub,Nat.reduceMul,Nat.reduceBEq,Nat.reduceLT,Nat.reduceLeDiff,Nat.reduceEqDiff,Int.reduceToNat,Int.reduceLE,Int.reduceLT,Int.reduceAdd,Int.reduceSub,Int.reduceNeg,Int.reduceBEq,Int.reduceBNe,Nat.reduceBNe,Nat.reduceDiv,Nat.reduceMod,hc]
 ·rw[if_neg h]at hc
  have yC:=QlO n d hn Az h
  have e1:=Tl h
  simp only[go_sem,Nat.reduceAdd,Nat.reduceSub,Nat.reduceMul,Nat.reduceBEq,Nat.reduceLT,Nat.reduceLeDiff,Nat.reduceEqDiff,Int.reduceToNat,Int.reduceLE,Int.reduceLT,Int.reduceAdd,Int.reduceSub,Int.reduceNeg,Int.reduceBEq,Int.reduceBNe,Nat.reduceBNe,Nat.reduceDiv,Nat.reduceMod,e1]
  refine QA Qe hb 200 mixed [(0,true),(1,false),(2,false),(3,true),(4,true),(5,true),(6,false)] (by kernel_rfl) (by kernel_rfl) ?_
  simp only[go_sem,Nat.reduceAdd,Nat.reduceSub,Nat.reduceMul,Nat.reduceBEq,Nat.reduceLT,Nat.reduceLeDiff,Nat.reduceEqDiff,Int.reduceToNat,Int.reduceLE,Int.reduceLT,Int.reduceAdd,Int.reduceSub,Int.reduceNeg,Int.reduceBEq,Int.reduceBNe,Nat.reduceBNe,Nat.reduceDiv,Nat.reduceMod]
  refine Zt hb oO rfl ?_ (rQ 1 (by decide)) (Ql.flat rfl) rfl fun d h hR=>?_
  ·simp only[go_sem,Nat.reduceAdd,Nat.reduceSub,Nat.reduceMul,Nat.reduceBEq,Nat.reduceLT,Nat.reduceLeDiff,Nat.reduceEqDiff,Int.reduceToNat,Int.reduceLE,Int.reduceLT,Int.reduceAdd,Int.reduceSub,Int.reduceNeg,Int.reduceBEq,Int.reduceBNe,Nat.reduceBNe,Nat.reduceDiv,Nat.reduceMod,NK]
  obtain⟨rfl,rfl⟩:=hR
  refine QF hb ?_
  simp only[go_sem,Nat.reduceAdd,Nat.reduceSub,Nat.reduceMul,Nat.reduceBEq,Nat.reduceLT,Nat.reduceLeDiff,Nat.reduceEqDiff,Int.reduceToNat,Int.reduceLE,Int.reduceLT,Int.reduceAdd,Int.reduceSub,Int.reduceNeg,Int.reduceBEq,Int.reduceBNe,Nat.reduceBNe,Nat.reduceDiv,Nat.reduceMod,NK]
  refine Zt hb GD rfl ?_ (Hi (n / d) 1 (by omega) (by decide)) (Ql.flat rfl) rfl fun d h hR=>?_
  ·simp only[go_sem,Nat.reduceAdd,Nat.reduceSub,Nat.reduceMul,Nat.reduceBEq,Nat.reduceLT,Nat.reduceLeDiff,Nat.reduceEqDiff,Int.reduceToNat,Int.reduceLE,Int.reduceLT,Int.reduceAdd,Int.reduceSub,Int.reduceNeg,Int.reduceBEq,Int.reduceBNe,Nat.reduceBNe,Nat.reduceDiv,Nat.reduceMod,NK]
  obtain⟨rfl,rfl⟩:=hR
  refine QF hb ?_
  simp only[go_sem,Nat.reduceAdd,Nat.reduceSub,Nat.reduceMul,Nat.reduceBEq,Nat.reduceLT,Nat.reduceLeDiff,Nat.reduceEqDiff,Int.reduceToNat,Int.reduceLE,Int.reduceLT,Int.reduceAdd,Int.reduceSub,Int.reduceNeg,Int.reduceBEq,Int.reduceBNe,Nat.reduceBNe,Nat.reduceDiv,Nat.reduceMod,NK]
  have e2:(n / d+1) % 2 ^ 128=cdiv n d:=by omega
  simp only[go_sem,Nat.reduceAdd,Nat.reduceSub,Nat.reduceMul,Nat.reduceBEq,Nat.reduceLT,Nat.reduceLeDiff,Nat.reduceEqDiff,Int.reduceToNat,Int.reduceLE,Int.reduceLT,Int.reduceAdd,Int.reduceSub,Int.reduceNeg,Int.reduceBEq,Int.reduceBNe,Nat.reduceBNe,Nat.reduceDiv,Nat.reduceMod,e2]
  refine QE hb oP rfl ?_ (rU (cdiv n d) (by omega)) (Ql.flat rfl) rfl fun d h hR=>?_
  ·simp only[go_sem,Nat.reduceAdd,Nat.reduceSub,Nat.reduceMul,Nat.reduceBEq,Nat.reduceLT,Nat.reduceLeDiff,Nat.reduceEqDiff,Int.reduceToNat,Int.reduceLE,Int.reduceLT,Int.reduceAdd,Int.reduceSub,Int.reduceNeg,Int.reduceBEq,Int.reduceBNe,Nat.reduceBNe,Nat.reduceDiv,Nat.reduceMod]
  obtain⟨rfl,rfl⟩:=hR
  refine Qc hb ?_
  simp only[go_sem,Nat.reduceAdd,Nat.reduceSub,Nat.reduceMul,Nat.reduceBEq,Nat.reduceLT,Nat.reduceLeDiff,Nat.reduceEqDiff,Int.reduceToNat,Int.reduceLE,Int.reduceLT,Int.reduceAdd,Int.reduceSub,Int.reduceNeg,Int.reduceBEq,Int.reduceBNe,Nat.reduceBNe,Nat.reduceDiv,Nat.reduceMod]
def JZ (a d b:Nat):Int:=if 4294967295<a∨4294967295<b∨1048576<d then 0 else if a=0∧b=0∧d=0 then 1 else if d=0∧a=b then 2 else if d=0 then 0 else if b<a then 3 else if a=0∧0<b then 4 else 0
@[go_sem] def Tn (a d b:Nat):D:=.agg [u64 a,u64 d,u64 b]
theorem Hl (a d b:Nat):Q8 prog 182 [Tn a d b] (Ql (Qb (JZ a d b))):=by
 refine Zb 0 Qe 200 func182 rfl ntmps182 results182 rfl fun base w hb=>?_
 simp only[go_sem,Nat.reduceAdd,Nat.reduceSub,Nat.reduceMul,Nat.reduceBEq,Nat.reduceLT,Nat.reduceLeDiff,Nat.reduceEqDiff,Int.reduceToNat,Int.reduceLE,Int.reduceLT,Int.reduceAdd,Int.reduceSub,Int.reduceNeg,Int.reduceBEq,Int.reduceBNe,Nat.reduceBNe,Nat.reduceDiv,Nat.reduceMod]
 repeat' (first|((first|refine Gm (fun h=>?_) (fun h=>?_)|refine Gn (fun h=>?_) (fun h=>?_)|refine Gp (fun h=>?_) (fun h=>?_)|refine kx (fun h=>?_) (fun h=>?_)|refine Gq (fun h=>?_) (fun h=>?_)|refine Gr (fun h=>?_) (fun h=>?_)|refine Gs (fun h=>?_) (fun h=>?_)|refine Gh (fun h=>?_) (fun h=>?_))<;>(try simp only[go_sem,Nat.reduceAdd,Nat.reduceSub,Nat.reduceMul,Nat.reduceBEq,Nat.reduceLT,Nat.reduceLeDiff,Nat.reduceEqDiff,Int.reduceToNat,Int.reduceLE,Int.reduceLT,Int.reduceAdd,Int.reduceSub,Int.reduceNeg,Int.reduceBEq,Int.reduceBNe,Nat.reduceBNe,Nat.reduceDiv,Nat.reduceMod]))|(refine And.intro (by omega) ?_;try simp only[go_sem,Nat.reduceAdd,Nat.reduceSub,Nat.reduceMul,Nat.reduceBEq,Nat.reduceLT,Nat.reduceLeDiff,Nat.reduceEqDiff,Int.reduceToNat,Int.reduceLE,Int.reduceLT,Int.reduceAdd,Int.reduceSub,Int.reduceNeg,Int.reduceBEq,Int.reduceBNe,Nat.reduceBNe,Nat.reduceDiv,Nat.reduceMod]))
 all_goals (congr 2;(try simp only[Bool.and_eq_true,Bool.and_eq_false_iff,Bool.or_eq_true,Bool.or_eq_false_iff,beq_iff_eq,beq_eq_false_iff_ne,bne_iff_ne,bne_eq_false_iff_eq,decide_eq_true_eq,decide_eq_false_iff_not,ne_eq]at *);(try unfold JZ);(repeat' split)<;>omega)
theorem QlQ (a d b:Nat):JZ a d b=0∨JZ a d b=1∨JZ a d b=2∨JZ a d b=3∨JZ a d b=4:=by unfold JZ;(repeat' split)<;>simp
theorem Tp {a d b:Nat} (h:JZ a d b≠0):a≤4294967295∧b≤4294967295∧d≤1048576:=by unfold JZ at h;split at h<;>omega
theorem Tq (a d b:Nat):Q8 prog 225 [Tn a d b] (Ql (QN (JZ a d b != 0))):=by
 refine Zb 0 Qe 200 func225 rfl ntmps225 results225 rfl fun base w hb=>?_
 simp only[go_sem,Nat.reduceAdd,Nat.reduceSub,Nat.reduceMul,Nat.reduceBEq,Nat.reduceLT,Nat.reduceLeDiff,Nat.reduceEqDiff,Int.reduceToNat,Int.reduceLE,Int.reduceLT,Int.reduceAdd,Int.reduceSub,Int.reduceNeg,Int.reduceBEq,Int.reduceBNe,Nat.reduceBNe,Nat.reduceDiv,Nat.reduceMod]
 refine QE hb xH rfl ?_ (Hl a d b) (Ql.flat rfl) rfl fun d h hR=>?_
 ·simp only[go_sem,Nat.reduceAdd,Nat.reduceSub,Nat.reduceMul,Nat.reduceBEq,Nat.reduceLT,Nat.reduceLeDiff,Nat.reduceEqDiff,Int.reduceToNat,Int.reduceLE,Int.reduceLT,Int.reduceAdd,Int.reduceSub,Int.reduceNeg,Int.reduceBEq,Int.reduceBNe,Nat.reduceBNe,Nat.reduceDiv,Nat.reduceMod]
 obtain⟨rfl,rfl⟩:=hR
 refine Qc hb ?_
 simp only[go_sem,Nat.reduceAdd,Nat.reduceSub,Nat.reduceMul,Nat.reduceBEq,Nat.reduceLT,Nat.reduceLeDiff,Nat.reduceEqDiff,Int.reduceToNat,Int.reduceLE,Int.reduceLT,Int.reduceAdd,Int.reduceSub,Int.reduceNeg,Int.reduceBEq,Int.reduceBNe,Nat.reduceBNe,Nat.reduceDiv,Nat.reduceMod]
def qP (a d b t:Nat):Nat:=if JZ a d b=0 then 0 else a*min t d+b*(t - min t d)
theorem QlR (a d b t:Nat) (ht:t<18446744073709551616):qP a d b t<2 ^ 97:=by
 unfold qP
 split
 ·decide
 ·rename_i h
  obtain⟨h1,h2,h3⟩:=Tp h
  have e1:a*min t d≤4294967295*1048576:=Nat.mul_le_mul h1 (by omega)
  have e2:b*(t - min t d)≤4294967295*18446744073709551615:=Nat.mul_le_mul h2 (by omega)
  exact Nat.lt_of_le_of_lt (Nat.add_le_add e1 e2) (by decide)
theorem AF (a b:Nat):(min (a:Int) (b:Int))=((min a b:Nat):Int):=by omega
theorem QlS (a d b t:Nat) (ht:t<18446744073709551616):Q8 prog 275 [Tn a d b,u64 t] (Ql (num (qP a d b t))):=by
 refine Zb 0 Qe 200 func275 rfl ntmps275 results275 rfl fun base w hb=>?_
 simp only[go_sem,Nat.reduceAdd,Nat.reduceSub,Nat.reduceMul,Nat.reduceBEq,Nat.reduceLT,Nat.reduceLeDiff,Nat.reduceEqDiff,Int.reduceToNat,Int.reduceLE,Int.reduceLT,Int.reduceAdd,Int.reduceSub,Int.reduceNeg,Int.reduceBEq,Int.reduceBNe,Nat.reduceBNe,Nat.reduceDiv,Nat.reduceMod]
 refine QE hb DV rfl ?_ (Tq a d b) (Ql.flat rfl) rfl fun d h hR=>?_
 ·simp only[go_sem,Nat.reduceAdd,Nat.reduceSub,Nat.reduceMul,Nat.reduceBEq,Nat.reduceLT,Nat.reduceLeDiff,Nat.reduceEqDiff,Int.reduceToNat,Int.reduceLE,Int.reduceLT,Int.reduceAdd,Int.reduceSub,Int.reduceNeg,Int.reduceBEq,Int.reduceBNe,Nat.reduceBNe,Nat.reduceDiv,Nat.reduceMod]
 obtain⟨rfl,rfl⟩:=hR
 refine Qc hb ?_
 simp only[go_sem,Nat.reduceAdd,Nat.reduceSub,Nat.reduceMul,Nat.reduceBEq,Nat.reduceLT,Nat.reduceLeDiff,Nat.reduceEqDiff,Int.reduceToNat,Int.reduceLE,Int.reduceLT,Int.reduceAdd,Int.reduceSub,Int.reduceNeg,Int.reduceBEq,Int.reduceBNe,Nat.reduceBNe,Nat.reduceDiv,Nat.reduceMod]
 by_cases h:JZ a d b=0
 ·have e1:qP a d b t=0:=if_pos h
  have e2:(JZ a d b != 0)=false:=by simp [h]
  simp only[go_sem,Nat.reduceAdd,Nat.reduceSub,Nat.reduceMul,Nat.reduceBEq,Nat.reduceLT,Nat.reduceLeDiff,Nat.reduceEqDiff,Int.reduceToNat,Int.reduceLE,Int.reduceLT,Int.reduceAdd,Int.reduceSub,Int.reduceNeg,Int.reduceBEq,Int.reduceBNe,Nat.reduceBNe,Nat.reduceDiv,Nat.reduceMod,e1,e2]
 ·have e1:qP a d b t=a*min t d+b*(t - min t d):=if_neg h
  have e2:(JZ a d b != 0)=true:=by simp [h]
  obtain⟨h1,h2,h3⟩:=Tp h
  have e3:=No t (min t d) (by omega) ht
  have b1:a*min t d≤4294967295*1048576:=Nat.mul_le_mul h1 (by omega)
  have b2:b*(t - min t d)≤4294967295*18446744073709551615:=Nat.mul_le_mul h2 (by omega)
  simp only[go_sem,Nat.reduceAdd,Nat.reduceSub,Nat.reduceMul,Nat.reduceBEq,Nat.reduceLT,Nat.reduceLeDiff,Nat.reduceEqDiff,Int.reduceToNat,Int.reduceLE,Int.reduceLT,Int.reduceAdd,Int.reduceSub,Int.reduceNeg,Int.reduceBEq,Int.reduceBNe,Nat.reduceBNe,Nat.reduceDiv,Nat.reduceMod,e1,e2,AF,e3]
  refine QA Qe hb 200 mixed [(0,true),(1,true),(2,true),(4,true),(5,true),(6,true),(7,true),(8,true),(3,false),(9,false),(10,false),(11,true),(12,true),(13,true),(14,false),(15,false),(16,true)] (by kernel_rfl) (by kernel_rfl) ?_
  simp only[go_sem,Nat.reduceAdd,Nat.reduceSub,Nat.reduceMul,Nat.reduceBEq,Nat.reduceLT,Nat.reduceLeDiff,Nat.reduceEqDiff,Int.reduceToNat,Int.reduceLE,Int.reduceLT,Int.reduceAdd,Int.reduceSub,Int.reduceNeg,Int.reduceBEq,Int.reduceBNe,Nat.reduceBNe,Nat.reduceDiv,Nat.reduceMod,AF,e3]
  refine Zt hb kG rfl ?_ (kX a (min t d) (by omega) (by omega)) (Ql.flat rfl) rfl fun d h hR=>?_
  ·simp only[go_sem,Nat.reduceAdd,Nat.reduceSub,Nat.reduceMul,Nat.reduceBEq,Nat.reduceLT,Nat.reduceLeDiff,Nat.reduceEqDiff,Int.reduceToNat,Int.reduceLE,Int.reduceLT,Int.reduceAdd,Int.reduceSub,Int.reduceNeg,Int.reduceBEq,Int.reduceBNe,Nat.reduceBNe,Nat.reduceDiv,Nat.reduceMod,AF,e3]
  obtain⟨rfl,rfl⟩:=hR
  refine QF hb ?_
  simp only[go_sem,Nat.reduceAdd,Nat.reduceSub,Nat.reduceMul,Nat.reduceBEq,Nat.reduceLT,Nat.reduceLeDiff,Nat.reduceEqDiff,Int.reduceToNat,Int.reduceLE,Int.reduceLT,Int.reduceAdd,Int.reduceSub,Int.reduceNeg,Int.reduceBEq,Int.reduceBNe,Nat.reduceBNe,Nat.reduceDiv,Nat.reduceMod,AF,e3]
  refine Zt hb kG rfl ?_ (kX b (t - min t d) (by omega) (by omega)) (Ql.flat rfl) rfl fun d h hR=>?_
  ·simp only[go_sem,Nat.reduceAdd,Nat.reduceSub,Nat.reduceMul,Nat.reduceBEq,Nat.reduceLT,Nat.reduceLeDiff,Nat.reduceEqDiff,Int.reduceToNat,Int.reduceLE,Int.reduceLT,Int.reduceAdd,Int.reduceSub,Int.reduceNeg,Int.reduceBEq,Int.reduceBNe,Nat.reduceBNe,Nat.reduceDiv,Nat.reduceMod,AF,e3]
  obtain⟨rfl,rfl⟩:=hR
  refine QF hb ?_
  simp only[go_sem,Nat.reduceAdd,Nat.reduceSub,Nat.reduceMul,Nat.reduceBEq,Nat.reduceLT,Nat.reduceLeDiff,Nat.reduceEqDiff,Int.reduceToNat,Int.reduceLE,Int.reduceLT,Int.reduceAdd,Int.reduceSub,Int.reduceNeg,Int.reduceBEq,Int.reduceBNe,Nat.reduceBNe,Nat.reduceDiv,Nat.reduceMod,AF,e3]
  refine Zt hb GD rfl ?_ (Hi (a*min t d) (b*(t - min t d)) (by omega) (by omega)) (Ql.flat rfl) rfl fun d h hR=>?_
  ·simp only[go_sem,Nat.reduceAdd,Nat.reduceSub,Nat.reduceMul,Nat.reduceBEq,Nat.reduceLT,Nat.reduceLeDiff,Nat.reduceEqDiff,Int.reduceToNat,Int.reduceLE,Int.reduceLT,Int.reduceAdd,Int.reduceSub,Int.reduceNeg,Int.reduceBEq,Int.reduceBNe,Nat.reduceBNe,Nat.reduceDiv,Nat.reduceMod,AF,e3]
  obtain⟨rfl,rfl⟩:=hR
  refine QF hb ?_
  simp only[go_sem,Nat.reduceAdd,Nat.reduceSub,Nat.reduceMul,Nat.reduceBEq,Nat.reduceLT,Nat.reduceLeDiff,Nat.reduceEqDiff,Int.reduceToNat,Int.reduceLE,Int.reduceLT,Int.reduceAdd,Int.reduceSub,Int.reduceNeg,Int.reduceBEq,Int.reduceBNe,Nat.reduceBNe,Nat.reduceDiv,Nat.reduceMod,AF,e3]
  rw[Nat.mod_eq_of_lt (by omega)]
structure Ln where
 x:Nat
 y:Nat
 m:Nat
deriving DecidableEq
instance:Inhabited Ln:=⟨⟨0,0,0⟩⟩
structure Ln.Ok (l:Ln):Prop where
 x:l.x<18446744073709551616
 y:l.y<2 ^ 128
 m:l.m<18446744073709551616
@[go_sem] def Ln.cells (l:Ln):List D:=[u64 l.x,u64 (l.y / 18446744073709551616),u64 (l.y % 18446744073709551616),u64 l.m]
def Yt (l:Ln) (x:Nat):Nat:=if x≤l.x then l.y else (l.y+l.m*(x - l.x)) % 2 ^ 128
theorem rW {a b:Nat} (ha:a<18446744073709551616) (hb:b<18446744073709551616):a*b<2 ^ 128:=by
 have:a*b≤18446744073709551615*18446744073709551615:=Nat.mul_le_mul (by omega) (by omega)
 exact Nat.lt_of_le_of_lt this (by decide)
theorem rX {l:Ln} (h:l.Ok) (x:Nat):Yt l x<2 ^ 128:=by
 unfold Yt
 split
 ·exact h.y
 ·exact Nat.mod_lt _ (by decide)
theorem rY (l:Ln) (h:l.Ok) (x:Nat) (hx:x<18446744073709551616):Q8 prog 265 [.agg l.cells,u64 x] (Ql (num (Yt l x))):=by
 unfold Yt
 refine Zb 0 Qe 200 func265 rfl ntmps265 results265 rfl fun base w hb=>?_
 simp only[go_sem,simprocAttr]
 by_cases h1:x≤l.x
 ·have d1:=decide_eq_true h1
  simp only[go_sem,simprocAttr,d1,if_pos h1]
 ·have d1:=decide_eq_false h1
  have e1:=No x l.x (by omega) hx
  simp only[go_sem,simprocAttr,d1,if_neg h1]
  refine QA Qe hb 200 mixed [(0,true),(1,true),(2,true),(3,true),(4,true),(5,true),(6,true),(7,true),(8,false),(9,false),(10,true),(11,true),(12,true),(13,false),(14,false),(15,true)] (by kernel_rfl) (by kernel_rfl) ?_
  simp only[go_sem,simprocAttr,e1]
  refine Zt hb kG rfl ?_ (kX l.m (x - l.x) h.m (by omega)) (Ql.flat rfl) rfl fun d h hR=>?_
  ·simp only[go_sem,simprocAttr,e1]
  obtain⟨rfl,rfl⟩:=hR
  refine QF hb ?_
  simp only[go_sem,simprocAttr,e1]
  refine Zt hb GD rfl ?_ (Hi l.y (l.m*(x - l.x)) h.y (rW h.m (by omega))) (Ql.flat rfl) rfl fun d h hR=>?_
  ·simp only[go_sem,simprocAttr]
  obtain⟨rfl,rfl⟩:=hR
  refine QF hb ?_
  simp only[go_sem,simprocAttr]
def kY (l:Ln) (w:Nat):Nat:=
 if w≤l.y then 0
 else if l.m=0∨18446744073709551616≤cdiv (w - l.y) l.m∨never≤l.x∨never - l.x≤cdiv (w - l.y) l.m then never
 else l.x+cdiv (w - l.y) l.m
theorem rZ (l:Ln) (w:Nat):kY l w≤never:=by
 unfold kY;split<;>try split
 ·exact Nat.zero_le _
 ·exact Nat.le_refl _
 ·omega
theorem QlT (n:Nat) (hn:n<2 ^ 128):Q8 prog 211 [num n,u64 0] (Ql (.tup [u64 0,Qb 1])):=by
 refine Zb 0 Qe 200 func211 rfl ntmps211 results211 rfl fun base w hb=>?_
 simp only[go_sem,simprocAttr]
 refine QE hb oN rfl ?_ (rS n 0 hn (by decide)) (Ql.flat rfl) rfl fun d h hR=>?_
 ·simp only[go_sem,simprocAttr,if_true]
 obtain⟨rfl,rfl⟩:=hR
 refine Qc hb ?_
 simp only[go_sem,simprocAttr,if_true]
theorem r5 {a b:Nat}:((if a<b then (-1:Int) else if a=b then 0 else 1)≤0)↔a≤b:=by
 split
 ·omega
 ·split<;>omega
theorem QlU {a b:Nat}:((if a<b then (-1:Int) else if a=b then 0 else 1)<0)↔a<b:=by
 split
 ·omega
 ·split<;>omega
theorem r6 {a b:Nat} (ha:a<2 ^ 128) (h:b≤a):(a+2 ^ 128 - b) % 2 ^ 128=a - b:=by
 rw[show a+2 ^ 128 - b=a - b+2 ^ 128 by omega,Nat.add_mod_right,Nat.mod_eq_of_lt (by omega)]
theorem NL (l:Ln) (h:l.Ok) (v:Nat) (hv:v<2 ^ 128):Q8 prog 171 [.agg l.cells,num v] (Ql (u64 (kY l v))):=by
 unfold kY
 refine Zb 0 Qe 200 func171 rfl ntmps171 results171 rfl fun base w hb=>?_
 simp only[go_sem,simprocAttr]
 refine QE hb RO rfl ?_ (Te v l.y hv h.y) (Ql.flat rfl) rfl fun d h hR=>?_
 ·simp only[go_sem,simprocAttr]
 obtain⟨rfl,rfl⟩:=hR
 refine Qc hb ?_
 simp only[go_sem,simprocAttr]
 by_cases h1:v≤l.y
 ·have d1:=decide_eq_true (r5.2 h1)
  simp only[go_sem,simprocAttr,d1,if_pos h1]
 ·have d1:=decide_eq_false (fun h2=>h1 (r5.1 h2))
  rw[if_neg h1]
  simp only[go_sem,simprocAttr,d1]
  refine QE hb Qja rfl ?_ (QlH v l.y hv h.y) (Ql.flat rfl) rfl fun d h hR=>?_
  ·simp only[go_sem,simprocAttr,r6 hv (show l.y≤v by omega)]
  obtain⟨rfl,rfl⟩:=hR
  refine Qc hb ?_
  simp only[go_sem,simprocAttr,r6 hv (show l.y≤v by omega)]
  by_cases h2:l.m=0
  ·rw[if_pos (.inl h2)]
   refine QE hb oH rfl ?_ (QlT (v - l.y) (by omega)) (Ql.flat rfl) rfl fun d h hR=>?_
   ·simp only[go_sem,simprocAttr,h2]
   obtain⟨rfl,rfl⟩:=hR
   refine Qc hb ?_
   simp only[go_sem,simprocAttr,h2]
   rfl
  ·refine QE hb oH rfl ?_ (QlP (v - l.y) l.m (by omega) h.m (by omega)) (Ql.flat rfl) rfl fun d h hR=>?_
   ·simp only[go_sem,simprocAttr]
   obtain⟨rfl,rfl⟩:=hR
   refine Qc hb ?_
   simp only[go_sem,simprocAttr]
   by_cases h3:cdiv (v - l.y) l.m<18446744073709551616
   ·have e1:EC (cdiv (v - l.y) l.m)=0:=if_pos h3
    have e2:Hj (cdiv (v - l.y) l.m)=cdiv (v - l.y) l.m:=if_pos h3
    by_cases h4:never≤l.x
    ·have d4:decide ((9223372036854775808:Int)≤(l.x:Int))=true:=decide_eq_true (by unfold never at h4;omega)
     rw[if_pos (.inr (.inr (.inl h4)))]
     simp only[go_sem,simprocAttr,e1,e2,d4]
     rfl
    ·have d4:decide ((9223372036854775808:Int)≤(l.x:Int))=false:=decide_eq_false (by unfold never at h4;omega)
     have e5:IntKind.u64.wrap ((9223372036854775808:Int) - (l.x:Int))=((never - l.x:Nat):Int):=by
      have:=No 9223372036854775808 l.x (by unfold never at h4;omega) (by decide)
      exact this
     by_cases h5:never - l.x≤cdiv (v - l.y) l.m
     ·have d5:=decide_eq_true h5
      rw[if_pos (.inr (.inr (.inr h5)))]
      simp only[go_sem,simprocAttr,e1,e2,d4,e5,d5]
      rfl
     ·have d5:=decide_eq_false h5
      have e6:=pE l.x (cdiv (v - l.y) l.m) (by unfold never at h5;omega)
      rw[if_neg (by rintro (h6|h6|h6|h6);exact h2 h6;omega;exact h4 h6;exact h5 h6)]
      simp only[go_sem,simprocAttr,e1,e2,d4,e5,d5,e6]
   ·have e1:EC (cdiv (v - l.y) l.m)=20:=if_neg h3
    rw[if_pos (.inr (.inl (by omega)))]
    simp only[go_sem,simprocAttr,e1]
    rfl
def x6 (a b:Ln):Ln:=if Yt b (max a.x b.x)<Yt a (max a.x b.x) then b else a
theorem r7 {a b:Ln} (ha:a.Ok) (hb:b.Ok):(x6 a b).Ok:=by unfold x6;split<;>assumption
theorem AH (a b:Nat):(max (a:Int) (b:Int))=((max a b:Nat):Int):=by omega
theorem r8 (a b:Ln) (ha:a.Ok) (ZZ:b.Ok):Q8 prog 217 [.agg a.cells,.agg b.cells] (Ql (.agg (x6 a b).cells)):=by
 have hx:max a.x b.x<18446744073709551616:=by have:=ha.x;have:=ZZ.x;omega
 unfold x6
 obtain⟨k,hk⟩:∃k,k=(if Yt b (max a.x b.x)<Yt a (max a.x b.x) then (-1:Int) else if Yt b (max a.x b.x)=Yt a (max a.x b.x) then 0 else 1):=⟨_,rfl⟩
 have xm:k<0↔Yt b (max a.x b.x)<Yt a (max a.x b.x):=by rw[hk];exact QlU
 refine Zb 0 Qe 200 func217 rfl ntmps217 results217 rfl fun base w hb=>?_
 simp only[go_sem,simprocAttr]
 simp only[go_sem,simprocAttr,AH]
 refine QA Qe hb 200 mixed [(0,true),(1,true),(3,true),(4,true),(2,false),(5,false),(6,false),(7,true)] (by kernel_rfl) (by kernel_rfl) ?_
 simp only[go_sem,simprocAttr,AH]
 refine Zt hb oR rfl ?_ (rY b ZZ (max a.x b.x) hx) (Ql.flat rfl) rfl fun d h hR=>?_
 ·simp only[go_sem,simprocAttr,AH]
 obtain⟨rfl,rfl⟩:=hR
 refine QF hb ?_
 simp only[go_sem,simprocAttr,AH]
 refine Zt hb oR rfl ?_ (rY a ha (max a.x b.x) hx) (Ql.flat rfl) rfl fun d h hR=>?_
 ·simp only[go_sem,simprocAttr,AH]
 obtain⟨rfl,rfl⟩:=hR
 refine QF hb ?_
 simp only[go_sem,simprocAttr,AH]
 refine Zt hb RO rfl ?_ (hk▸Te (Yt b (max a.x b.x)) (Yt a (max a.x b.x)) (rX ZZ _) (rX ha _)) (Ql.flat rfl) rfl fun d h hR=>?_
 ·simp only[go_sem,simprocAttr,AH]
 obtain⟨rfl,rfl⟩:=hR
 refine QF hb ?_
 simp only[go_sem,simprocAttr,AH]
 by_cases h1:Yt b (max a.x b.x)<Yt a (max a.x b.x)
 ·have d1:=decide_eq_true (xm.2 h1)
  simp only[go_sem,simprocAttr,d1,if_pos h1]
 ·have d1:=decide_eq_false (fun h2=>h1 (xm.1 h2))
  rw[if_neg h1]
  simp only[go_sem,simprocAttr,d1]
structure Rn where
 f:Ln
 t:Ln
 b:Bool
deriving DecidableEq
instance:Inhabited Rn:=⟨⟨default,default,false⟩⟩
structure Rn.Ok (r:Rn):Prop where
 f:r.f.Ok
 t:r.t.Ok
@[go_sem] def Rn.cells (r:Rn):List D:=[u64 r.f.x,u64 (r.f.y / 18446744073709551616),u64 (r.f.y % 18446744073709551616),u64 r.f.m,u64 r.t.x,u64 (r.t.y / 18446744073709551616),u64 (r.t.y % 18446744073709551616),u64 r.t.m,QN r.b]
theorem QlV (n:Nat) (h:n<18446744073709551616):IntKind.u64.wrap (n:Int)=(n:Int):=by rw[IntKind.wrap_u64];omega
@[go_sem] def cfg (t l:Int):D:=.agg [.raw (.int .i64 t),.raw (.int .i64 l)]
theorem QlW (n t:Nat) (hn:n<2 ^ 128) (ht:t≤65536) (qx:n*t<2 ^ 128):Q8 prog 272 [num n,Qb t] (Ql (num (n*t))):=by
 obtain⟨hi,lo,Zr,rfl⟩:∃hi lo,lo<18446744073709551616∧n=hi*18446744073709551616+lo:=⟨n / 18446744073709551616,n % 18446744073709551616,Nat.mod_lt _ (by decide),by omega⟩
 have hh:hi<18446744073709551616:=by omega
 have e1:(hi*18446744073709551616+lo) / 18446744073709551616=hi:=by omega
 have e2:(hi*18446744073709551616+lo) % 18446744073709551616=lo:=by omega
 obtain⟨A,hA⟩:∃A,A=lo*t:=⟨_,rfl⟩
 obtain⟨B,hB⟩:∃B,B=hi*t:=⟨_,rfl⟩
 have e3:(hi*18446744073709551616+lo)*t=B*18446744073709551616+A:=by rw[hA,hB,Nat.add_mul,Nat.mul_assoc,Nat.mul_comm 18446744073709551616 t,← Nat.mul_assoc]
 rw[e3]at qx
 rw[e3]
 have hm:=kX lo t Zr (by omega)
 rw[← hA]at hm
 have w1:=QlV t (by omega)
 have w2:=Qko hi t (by rw[← hB];omega)
 rw[← hB]at w2
 have w3:=pE (A / 18446744073709551616) B (by omega)
 have r1:(B*18446744073709551616+A) / 18446744073709551616=A / 18446744073709551616+B:=by rw[Nat.add_comm,Nat.add_mul_div_right _ _ (by decide)]
 have r2:(B*18446744073709551616+A) % 18446744073709551616=A % 18446744073709551616:=by rw[Nat.add_comm,Nat.add_mul_mod_self_right]
 refine Zb 0 Qe 200 func272 rfl ntmps272 results272 rfl fun base w hb=>?_
 simp only[go_sem,simprocAttr]
 simp only[e1,e2,w1,go_sem,simprocAttr]
 refine QE hb kG rfl ?_ hm (Ql.flat rfl) rfl fun d h hR=>?_
 ·simp only[go_sem,simprocAttr,w1,w2,w3]
 obtain⟨rfl,rfl⟩:=hR
 refine Qc hb ?_
 simp only[go_sem,simprocAttr,w1,w2,w3]
 simp only[e1,e2,w1,w2,w3,go_sem,simprocAttr,r1,r2]
theorem r9 (n t k:Nat) (hn:n<2 ^ 111) (ht:t≤65536) (hk:k<18446744073709551616):Q8 prog 229 [num n,Qb t,u64 k] (Ql (QN (decide (65536*k<n*t)))):=by
 have h1:n*t≤n*65536:=Nat.mul_le_mul_left n ht
 have hc:=Te (n*t) (65536*k) (by omega) (by omega)
 have e:decide ((if n*t<65536*k then (-1:Int) else if n*t=65536*k then 0 else 1) > 0)=decide (65536*k<n*t):=by
  rw[Bool.eq_iff_iff];simp only[decide_eq_true_eq];(repeat' split)<;>omega
 have hm:=kX 65536 k (by decide) hk
 refine Zb 0 Qe 200 func229 rfl ntmps229 results229 rfl fun base w hb=>?_
 simp only[go_sem,simprocAttr]
 refine QE hb Qjp rfl ?_ (QlW n t (by omega) ht (by omega)) (Ql.flat rfl) rfl fun d h hR=>?_
 ·simp only[go_sem,simprocAttr]
 obtain⟨rfl,rfl⟩:=hR
 refine Qc hb ?_
 simp only[go_sem,simprocAttr]
 refine QE hb kG rfl ?_ hm (Ql.flat rfl) rfl fun d h hR=>?_
 ·simp only[go_sem,simprocAttr,rT]
 obtain⟨rfl,rfl⟩:=hR
 refine Qc hb ?_
 simp only[go_sem,simprocAttr,rT]
 refine QE hb RO rfl ?_ hc (Ql.flat rfl) rfl fun d h hR=>?_
 ·simp only[go_sem,simprocAttr,e]
 obtain⟨rfl,rfl⟩:=hR
 refine Qc hb ?_
 simp only[go_sem,simprocAttr,e]
end Go.Fg.X
