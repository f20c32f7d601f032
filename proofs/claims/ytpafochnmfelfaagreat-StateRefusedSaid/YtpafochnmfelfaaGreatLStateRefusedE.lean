/- The statement StateRefused is proved. No conditions. -/
import Derived.Test.YtpafochnmfelfaaGreatTB5E
import Derived.Test.YtpafochnmfelfaaGreatCA5E
import Derived.Test.YtpafochnmfelfaaGreatRows
set_option maxRecDepth 100000
set_option maxHeartbeats 16000000
set_option linter.unusedVariables false
set_option linter.unusedSimpArgs false
set_option linter.unusedSectionVars false
set_option linter.defProp false
namespace Go.Fg.X
open Go.Proofs Go.Fg
open Go.Proofs.Tryz
def QzD(c:Cf):(S0 c).Qi<ZQ (S0 c):=by
 show 0<Yk 0 0 (K7 (M0 c));have:K7 (M0 c)=9223372036854775808:=τ;rw[this];decide
def Qid(S:ZK)(b a:Nat):(J9 S b a).1.M.lk=S.M.lk:=by
 unfold J9;split
 .rfl
 .split<;>exact SM _ _
def Qie(a e):∀(n:Nat) (S:ZK),(Wb a e n S).1.M.lk=S.M.lk
 | 0,S=>rfl
 | n+1,S=>by
  unfold Wb;split
  .rfl
  .exact(Qie a e n _).trans (Qid { S with Qi:=ZQ S } a (ZQ S))
def QzE(S:ZK)(o:ZY):(Wv S o).S.M.lk=S.M.lk:=by
 show (Wc { S with ops:=S.ops+1 } S.ops o).S.M.lk=S.M.lk;unfold Wc;split
 .exact SJ _ _ _
 .split
  .split<;>rfl
  .split
   .unfold zD;split
    .rfl
    .split
     .exact(Qid _ _ _).trans (N9 _ _ _ _)
     .exact N9 _ _ _ _
   .split
    .unfold jr;split
     .rfl
     .exact Qie _ _ _ _
    .rfl
def QzF(x:qI)(o:ZY)(hx:∀a∈x.ops,ZY.Ok a)(ho:ZY.Ok o):Q6 prog 5 [.agg x.cells,.agg o.cells] (Zm (QT true)):=by
 refine sG (R:=λd i=>d=QT true) _ rfl (λd i h=>.inl (h▸qH _ _)) ?_;have t:=Qys x 200 π;have C:=QwM x.config;have F:=Qzx;refine af J8 200 func5 rfl ntmps5 results5 rfl λa5 w b=>?_;simp only[go_sem,Qa];cases Z:CY x 200 with
 | false=>
  rw[Z]at t;refine kQ b [] PL rfl ?_ t rfl λd h c=>?_
  .simp only[go_sem,Qa,Go.undef]
  obtain⟨rfl,rfl⟩:=c;simp only[go_sem,Qa,Go.undef];apply Qg b;simp only[go_sem,Qa,Go.undef];refine kQ b [] Mx rfl ?_ F rfl λd h c=>?_
  .simp only[go_sem,Qa]
  obtain⟨rfl,rfl⟩:=c;simp only[go_sem,Qa];exact HT b
 | true=>
 rw[Z]at t;cases W:SG x.config with
 | false=>
  rw[W]at C;refine kQ b [] PL rfl ?_ t rfl λd h c=>?_
  .simp only[go_sem,Qa,Go.undef]
  obtain⟨rfl,rfl⟩:=c;simp only[go_sem,Qa,Go.undef];apply Qg b;simp only[go_sem,Qa,Go.undef];refine kQ b [] aM rfl ?_ C rfl λd h c=>?_
  .simp only[go_sem,Qa,Go.undef]
  obtain⟨rfl,rfl⟩:=c;simp only[go_sem,Qa,Go.undef];apply Qg b;simp only[go_sem,Qa,Go.undef];refine kQ b [] Mx rfl ?_ F rfl λd h c=>?_
  .simp only[go_sem,Qa]
  obtain⟨rfl,rfl⟩:=c;simp only[go_sem,Qa];exact HT b
 | true=>
 rw[W]at C;by_cases a1:(40:Int)<o.changes.length
 .have d1:=Q3 a1;refine kQ b [] PL rfl ?_ t rfl λd h c=>?_
  .simp only[go_sem,Qa,Go.undef]
  obtain⟨rfl,rfl⟩:=c;simp only[go_sem,Qa,Go.undef];apply Qg b;simp only[go_sem,Qa,Go.undef];refine kQ b [] aM rfl ?_ C rfl λd h c=>?_
  .simp only[go_sem,Qa,Go.undef,d1]
  obtain⟨rfl,rfl⟩:=c;simp only[go_sem,Qa,Go.undef,d1];apply Qg b;simp only[go_sem,Qa,Go.undef,d1];refine kQ b [] Mx rfl ?_ F rfl λd h c=>?_
  .simp only[go_sem,Qa]
  obtain⟨rfl,rfl⟩:=c;simp only[go_sem,Qa];exact HT b
 have d1:=QS a1;by_cases b1:(40:Int)<o.rules.length
 .have d2:=Q3 b1;refine kQ b [] PL rfl ?_ t rfl λd h c=>?_
  .simp only[go_sem,Qa,Go.undef]
  obtain⟨rfl,rfl⟩:=c;simp only[go_sem,Qa,Go.undef];apply Qg b;simp only[go_sem,Qa,Go.undef];refine kQ b [] aM rfl ?_ C rfl λd h c=>?_
  .simp only[go_sem,Qa,Go.undef,d1,d2]
  obtain⟨rfl,rfl⟩:=c;simp only[go_sem,Qa,Go.undef,d1,d2];apply Qg b;simp only[go_sem,Qa,Go.undef,d1,d2];refine kQ b [] Mx rfl ?_ F rfl λd h c=>?_
  .simp only[go_sem,Qa]
  obtain⟨rfl,rfl⟩:=c;simp only[go_sem,Qa];exact HT b
 have d2:=QS b1;have K:=QwT.1 W;obtain⟨a4,JF⟩:=QzC Z hx;refine kQ b [] PL rfl ?_ t rfl λd h c=>?_
 .simp only[go_sem,Qa,Go.undef]
 obtain⟨rfl,rfl⟩:=c;simp only[go_sem,Qa,Go.undef];apply Qg b;simp only[go_sem,Qa,Go.undef];refine kQ b [] aM rfl ?_ C rfl λd h c=>?_
 .simp only[go_sem,Qa,Go.undef,d1,d2]
 obtain⟨rfl,rfl⟩:=c;simp only[go_sem,Qa,Go.undef,d1,d2];apply Qg b;simp only[go_sem,Qa,Go.undef,d1,d2];have hA:=Qh5 (own:=λ_=>.no) (tw:=λ_=>.my) (λ_ _=>rfl) [(⟨.one,0,3,1,λ_=>x.cells⟩:Ob),⟨.one,0,10,1,λ_=>o.cells⟩] x K ω JF;have P:=QhY x.ops (Jd.Qym K) (QzD x.config) hx;obtain⟨S,hS⟩:∃S,S=(VD (S0 x.config) x.ops).1:=⟨_,rfl⟩;rw[<- hS]at hA P;refine A4 b QbO hA λd s c=>?_;obtain⟨Je,Vf,p,rfl,T1,C1,n1,V1,D1⟩:=c;have Q:s[1]? = some (⟨.one,0,10,1,λ_=>o.cells⟩:Ob):=D1.my 1 σ rfl;have U:=Qc Q;have t1:Vf 1=.my:=D1.s2 1 σ;have V:=Lj T1;apply Qg b;simp only[go_sem,Qa,Q,U];apply ZA b HS (Li T1.toRo);apply Qg b;simp only[go_sem,Qa,Q,U];have e0:=Qyz P (o:=GU 0) rfl rfl;obtain⟨_,_,_,_,sW⟩:=T1;have hD:=QI.Mt (Ot ⟨_,_,_,_,sW.x8 [(⟨.one,0,8,1,λ_=>(Ka S).cells⟩:Ob)]⟩ V1 C1 ω (GU 0) Qzu π π) (Qia p 0);rw[e0]at hD;refine Jb b My hD λd e c=>?_;obtain⟨dl,T,u,rfl,T2,s2,M⟩:=c;have bx:∀(l:Nat),l<s.length->Vf l=.my->e[l]? = s[l]?/\T l=Je l/\u l=.my:=λl r B=>
  ⟨(M.my l ξ ((Kw r).trans B)).trans (QG r),(M.s1 l ξ).trans (Ku r),(M.s2 l ξ).trans ((Kw r).trans B)⟩
 have y2:e[s.length]? = some (⟨.one,0,8,1,λ_=>(Ka S).cells⟩:Ob):=(M.my _ σ (kj (QB _))).trans (JZ rfl);have fk:u s.length=.my:=(M.s2 _ σ).trans (kj (QB _));have a0:=Qc y2;obtain⟨q,H⟩:∃q:ZK,q={ S with ops:=S.ops+1 }:=⟨_,rfl⟩;have V2:Jd q:=by rw[H];exact V1.ops _
 have C2:EP q:=by
  have:=C1.do (GU 0);rw[e0]at this;rw[H];exact this
 have es:Ka q=Ka S:=by rw[H];rfl
 have n2:q.ops=S.ops+1:=by rw[H]
 have T2:Ww T u e p q:=by rw[H];exact T2
 refine HH J8 b 9 ?_;simp only[go_sem,Qa];have s3:XJ (λl=>l<e.length/\T l=.no/\u l=.no) (e++[(⟨.one,0,3,1,λ_=>[Qb 0,Qb 0,Qb 0]⟩:Ob)]) 12 Ev.cells dl ([]:List Ev):=s2.step λj hj i=>⟨⟨hj,i.2.1,i.2.2⟩,QG hj⟩;obtain⟨E,W3,MZ,k3⟩:=Qy7 (w0:=⟨w,[],[]⟩) rfl rfl (λa=>rfl) (fr:=[(3,.ptr 1 0 0 0),(5,.ptr p 0 0 0),(6,Qb 0),(7,.ptr s.length 0 0 0),(8,.ptr e.length 0 0 0),(9,dl)]) 9 rfl s3;refine B6 (QF.trans (QF.frame (fr':=[(3,.ptr 1 0 0 0),(5,.ptr p 0 0 0),(6,Qb 0),(7,.ptr s.length 0 0 0),(8,.ptr e.length 0 0 0),(9,dl)]) (by simp only[go_sem])) W3) ?_;have m3:∀(l:Nat),l<e.length->u l=.my->E[l]? = e[l]? := λl r B=>(k3 l ξ λi=>by rw[B]at i;cases i.2.2).trans (QG r);have y:E[1]? = some (⟨.one,0,10,1,λ_=>o.cells⟩:Ob):=(m3 1 ω (bx 1 U t1).2.2).trans ((bx 1 U t1).1.trans Q);have v:E[s.length]? = some (⟨.one,0,8,1,λ_=>(Ka S).cells⟩:Ob):=(m3 _ a0 fk).trans y2;have z:E[e.length]? = some (⟨.one,0,3,1,λ_=>[Qb 0,Qb 0,Qb 0]⟩:Ob):=(k3 _ σ λi=>absurd i.1 (G4 _)).trans (JZ rfl);have J:=Qc y;have L:=Qc v;have I:=Qc z;obtain⟨j6,a3⟩:∃f,f=QV (QV T e .no) (e++[(⟨.one,0,3,1,λ_=>[Qb 0,Qb 0,Qb 0]⟩:Ob)]) .no:=⟨_,rfl⟩;obtain⟨BC,O⟩:∃f,f=Z5 (Z5 u e .my) (e++[(⟨.one,0,3,1,λ_=>[Qb 0,Qb 0,Qb 0]⟩:Ob)]) .my:=⟨_,rfl⟩;have T3:Ww j6 BC E p q:=by
  obtain⟨_,_,_,_,sX⟩:=T2;rw[a3,O];refine Ww.Qyl ⟨_,_,_,_,sX.x8 _⟩ λl r hn=>k3 l r λi=>hn ?_;exact⟨(Ku i.1).trans i.2.1,.inl ((Kw i.1).trans i.2.2)⟩
 have a6:∀l,l<e.length->u l=.my->BC l=.my:=λl r B=>by
  rw[O,Kw ξ,Kw r];exact B
 have z3:=Lj T3;rw[es]at z3;have f1:=fi _ _ V V;rw[sN]at f1;have hO:=Li T3.toRo;rw[es]at hO;apply Qg b;simp only[go_sem,Qa,y,J,v,L,z,I];refine VP b HS ?_ hO ?_
 .simp only[go_sem,Qa,y,J,v,L,z,I,Fc]
 apply Qg b;simp only[go_sem,Qa,y,J,v,L,z,I,Fc];refine Jk b aN ?_ f1 ?_
 .simp only[go_sem,Qa,y,J,v,L,z,I,Go.undef]
 apply Qg b;simp only[go_sem,Qa,y,J,v,L,z,I,Go.undef];obtain⟨_,_,_,_,sY⟩:=T3;have a2:=Ot ⟨_,_,_,_,sY.x8 [(⟨.one,0,8,1,λ_=>(Ka S).cells⟩:Ob)]⟩ V2 C2 ω o ho ω ω;refine Jb b My a2 λd h4 c=>?_;obtain⟨a7,Sq,ss,rfl,T4,s4,D4⟩:=c;have k:h4[E.length]? = some (⟨.one,0,8,1,λ_=>(Ka S).cells⟩:Ob):=(D4.my _ σ (kj (QB _))).trans (JZ rfl);have n:=Qc k;have z4:=Lj T4;have R4:=T4.toRo;obtain⟨Y,hY⟩:∃Y,Y=Wv q o:=⟨_,rfl⟩;have V7:=QzE q o;have N:=Qyr (S:=q) (o:=o);rw[<- hY]at T4 s4 z4 R4 V7 N;apply Qg b;simp only[go_sem,Qa,k,n,<- hY];by_cases e1:Y.r.err=0
 .have m:=qa e1;apply Qw b [0,1,2,3,4,5,1006,1007,8,9,1010,11,12];simp only[go_sem,Qa,k,n,m,Go.undef];refine KK b Mx ?_ F ?_
  .simp only[go_sem,Qa,k,n,m,Go.undef]
  apply Q7 b;simp only[go_sem,Qa,k,n,m,Go.undef]
 .have m:=Xx e1;have gN:=QyA V2.I R4.I (N e1).2 V7;have f4:=sV _ _ V z4;have e4:S7 (Ka S) (Ka Y.S)=true:=by
   unfold S7;rw[gN,es];exact sN _
  rw[e4]at f4;apply Qw b [0,1,2,3,4,5,1006,1007,8,9,1010,11,12];simp only[go_sem,Qa,k,n,m,Go.undef];refine Yb b HS ?_ (Li (R4.more (wG (g:=_)))) ?_
  .simp only[go_sem,Qa,k,n,m]
  apply Q7 b;simp only[go_sem,Qa,k,n,m];refine KK b iG ?_ f4 ?_
  .simp only[go_sem,Qa,k,n,m,Go.undef]
  apply Q7 b;simp only[go_sem,Qa,k,n,m,Go.undef];refine KK b Mx ?_ F ?_
  .simp only[go_sem,Qa,k,n,m,Go.undef]
  apply Q7 b;simp only[go_sem,Qa,k,n,m,Go.undef]
end Go.Fg.X
namespace Go.Fg.X
open Go.Proofs Go.Fg Go.Proofs.YtpafochnmfelfaaGreat
open Go.ChangeShapes Go.RowKit
open Go.Proofs.Tryz
def QzJ:laidOutB prog=true:=τ
def QzK:mapsRowed prog=true:=τ
def QzL:prog.stopsHeard=true:=τ
def QzM:prog.mayEnter=true:=τ
def QzN:(Rows.stateRefusedRow.lifted==prog.liftsFinal)=true:=τ
def QzO:(prog.make==some Rows.stateRefusedRow.make)=true:=τ
end Go.Fg.X
namespace Go.Fg.X
open Go.Proofs Go.Fg Go.Proofs.YtpafochnmfelfaaGreat
open Go.ChangeShapes Go.WideShapes Go.ChangeAt Go.RowKit
open Go.Proofs.Tryz
def QzP:ownKnob prog.godebug=none:=τ
def Qii:laidOutB prog=true:=τ
def QzQ(E:Os)(b:E.Started)(H:Type)(c:TypeId × Value->H):
  ReturnsInHanded {} checked E 5 .any (Rows.stateRefusedSpec.pre6 c prog f5 Rows.stateRefusedRow.domain false) (Rows.stateRefusedSpec.post c prog f5 false true false false):=by
 refine returnsInHanded_of_change (C:=checked) QzP b τ func5
  (ChangeSpec.witness6 (enc:=c) (C:=checked) false ⟨#[],#[.agg #[.int .i64 0,.int .i64 0,.slice none 0 0],.agg #[.int .i64 0,.slice none 0 0,.slice none 0 0,.int .u64 0,.int .i64 0,.int .u16 0,.int .u16 0,.int .u16 0,.int .u16 0,.int .u64 0]],[]⟩ 12 τ τ τ τ) ?_
 intro W k a ds gs l f F a4 _;have n:∀(j:Nat) t v,f5.params[j]? = some t->a[j]? = some v->Value.okWide prog W .any k t v:=f;have w:=F;obtain⟨p,q,d,Y,rfl,Ga,Z3⟩:=F;have I:DataW.TrodAll c prog W 0 (λ_=>true) true f5.params.toList a.toList ds p:=d;rw[params5]at I n;obtain⟨B,a1,d0,a3,R,q0,ar,rfl,rfl,K,P⟩:=trodAll_cons I;obtain⟨z,a0,d1,a2,Q,q1,rfl,rfl,rfl,J,O⟩:=trodAll_cons P;obtain⟨rfl,rfl,rfl⟩:=trodAll_nil O;obtain rfl:a=#[B,z]:=by cases a;simp_all
 obtain⟨rfl,rfl⟩:=trodVars_none Y;obtain⟨y,rfl,_⟩:=okWide_struct underlying26 (n 0 26 B rfl rfl);obtain⟨Z,rfl,_⟩:=okWide_struct underlying51 (n 1 51 z rfl rfl);have t0:=K;have u:∀x∈R,x.block<W.heap.size:=by obtain⟨m,r⟩:=t0;exact DataW.trod_lt m _ _ _ r
 have t1:=J;have s:∀x∈Q,x.block<W.heap.size:=by obtain⟨m,r⟩:=t1;exact DataW.trod_lt m _ _ _ r
 obtain⟨N,T,c0⟩:=Rd.many QpA K;obtain⟨M,S,c1⟩:=Rd.many QcH J;clear d f;have g:Calls prog 5 #[.agg y,.agg Z] W λe L=>e=.returned (.bool true)/\Below W.heap.size W L:=Qpt (QzF N M T.2.1.2 S) W [_,_] rfl (λi U=>match i,U with
  | 0,_=>c0
  | 1,_=>c1)
 refine g.mono λe L ⟨V,o⟩=>?_;subst V;exact⟨_,rfl,_,_,_,[],_,[],w,trodAll_mk1 (shut_bool underlying4 _),(trodAll_cons_mk (Below.trod Qii τ (Yo τ) t0 o u) (trodAll_cons_mk (Below.trod Qii τ (Yo τ) t1 o s) trodAll_mk0)),rfl,o.frame _,λh=>by cases h⟩
def jn{a b}(d:a=true)(c:b=true):(a&&b)=true:=by rw[d,c];rfl
def QzV:(Rows.stateRefusedRow.inPlace==prog.inPlace 5)=true:=τ
def QzW:(Rows.stateRefusedRow.unfollowed==prog.unfollowed 5)=true:=τ
def QzX:(Rows.stateRefusedRow.recurses==prog.recurses 5)=true:=τ
def QzY:(Rows.stateRefusedRow.named==prog.varsNamed 5)=true:=τ
def QzZ:(Rows.stateRefusedRow.maps==(f5.params.toList++Rows.stateRefusedSpec.plain.varTypes prog).any (prog.mapsRec ·))=true:=τ
def Qz0:(Rows.stateRefusedRow.ifaces==(f5.params.toList++Rows.stateRefusedSpec.plain.varTypes prog).any (prog.ifacesRec ·))=true:=τ
def Qz1:(Rows.stateRefusedRow.loops==(f5.params.toList++Rows.stateRefusedSpec.plain.varTypes prog).any (prog.loopsFrom ·))=true:=τ
def Qz2:joinedFacts prog 5 f5 Rows.stateRefusedSpec Rows.stateRefusedRow=true:=by
 unfold joinedFacts;refine(jn (jn (jn (jn (jn (jn (jn (jn (jn (jn (jn (jn (jn (jn (jn (jn (jn (jn (jn (jn (jn (jn (jn (jn (jn (jn (jn (jn (jn (jn (jn ?_ QzJ) QzK) ?_) ?_) ?_) ?_) ?_) ?_) QzV) QzW) QzX) QzY) QzZ) Qz0) ?_) Qz1) ?_) ?_) ?_) ?_) ?_) ?_) ?_) QzL) QzM) QzN) QzO) ?_) ?_) ?_) ?_);all_goals kernel_rfl
def Qz3:prog.funcNamed Rows.stateRefusedRow.func=some 5:=τ
theorem provedStateRefused:Rows.StateRefusedSaid:=
 OpenClaim.holds_of_wide 5 f5 rfl rfl rfl rfl rfl rfl rfl ⟨rfl,rfl,rfl,rfl,rfl⟩ rfl rfl rfl rfl rfl Qz3 func5 Qz2
  (Yo τ) (by unfold Func.isWrapper;first|(rw[Qf (by decide +kernel)];kernel_rfl)|(rw[Qe (by decide +kernel)];exact⟨rfl,rfl⟩))
  (λc a H b _=>QzQ c a H b)
end Go.Fg.X
namespace Go.Proofs.YtpafochnmfelfaaGreat
theorem stateRefused_done: Rows.StateRefusedSaid := Go.Fg.X.provedStateRefused
end Go.Proofs.YtpafochnmfelfaaGreat
