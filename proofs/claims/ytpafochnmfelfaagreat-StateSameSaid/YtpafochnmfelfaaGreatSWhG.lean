/- Contracts and laws on the way to the statement. No conditions. -/
import Derived.Test.YtpafochnmfelfaaGreatTA3G
import Derived.Test.YtpafochnmfelfaaGreatCA5G
import Derived.Test.YtpafochnmfelfaaGreatSCbG
import Derived.Test.YtpafochnmfelfaaGreatSU3G
set_option maxRecDepth 100000
set_option maxHeartbeats 16000000
set_option linter.unusedVariables false
set_option linter.unusedSimpArgs false
set_option linter.unusedSectionVars false
set_option linter.defProp false
namespace Go.Fg.X
open Go.Proofs Go.Fg
open Go.Proofs.Tryz
def QxI(h:List Ob):QI prog 50 h [] (λd b=>d=.ptr (h.length+2) 0 0 0/\b=h++[QM .i64 0 [],QM .i64 0 [],rV h.length (h.length+1)]):=by
 refine QZ func50 ntmps50 results50 λa w c e=>?_;simp only[go_sem,Qa]
def EO.put{S}{h x}{p r y F}{i}{K}{L}{s}(T:EO S h p r y F i K L s){c}{d}{l}(m)
  (U:x[r]? = some (JR .i64 F i c d)) (B:∀j o,h[j]? = some o->j≠r->j≠m->x[j]? = some o) (R:Lc (more S h) x d l) (I:∀j g a n,d=.ref j g a n->j=m)
  (z:∀k j g a n,k≠c->ZP i k=some (.ref j g a n)->j≠m) (Q:p≠m) (P:y≠m) :
  YO (more S h) x p { s with ZZ:=λk=>if k=c then l else s.ZZ k }:=by
 obtain⟨Z,H,W,E⟩:=tX .i64 F i c d;have M:p≠r:=λe=>by have:=T.o;rw[e,T.co]at this;cases this
 refine⟨r,y,Z,H,K,L,B _ _ T.o M Q,by rw[U,W],B _ _ T.ro (Q1 T.ne) P,T.ne,.inl T.sp,.inl T.sc,.inl T.sr,λk=>?_,λw v j g a n Y N O b f=>?_,T.rw_⟩
 .rw[E k];by_cases q:k=c
  .rw[Qf q];dsimp only;rw[Qf q];exact R
  .rw[Qe q];dsimp only;rw[Qe q];rcases T.ca k with ⟨b,f⟩|⟨j,g,a,row,b,f,C,V⟩
   .exact .inl ⟨b,f⟩
   .have ZD:ZP i k=some (.ref j g a (s.ZZ k).length):=by
     cases J:ZP i k with
     | none=>rw[J]at b;cases b
     | some d'=>rw[J]at b;exact congrArg some b
    refine .inr ⟨j,g,a,row,b,.inl f,B j _ C (λe=>?_) (z k _ _ _ _ q ZD),V⟩;rw[e,T.co]at C;cases C
 .rw[E w]at b;rw[E v]at f;by_cases u:w=c<;>by_cases t:v=c
  .rw[u,t]
  .rw[Qf u]at b;rw[Qe t]at f;exact absurd (I _ _ _ _ (G6 b)) (z v _ _ _ _ t f)
  .rw[Qe u]at b;rw[Qf t]at f;exact absurd (I _ _ _ _ (G6 f)) (z w _ _ _ _ u b)
  .rw[Qe u]at b;rw[Qe t]at f;exact T.sep w v j g a n Y N O b f
def QxJ{S}{h}{p}{s:CT}(T:YO S h p s)(b:Int)(a)(H:(s.ZZ b).length<1000000):
  QI prog 69 h [.ptr p 0 0 0,Qb b,u64 a] (λd h'=>d=Qb 0/\Step S h h'/\YO (more S h) h' p (CU s b a)):=by
 obtain⟨I,rm,U,C,c2,ZT,T⟩:=T;have r:=T.o;have v:=T.co;have z:=Qc r;have t:=Qc v;have Q:=T.ca b;have u:p≠I:=λe=>by rw[e,v]at r;cases r
 have Jj:CU s b a={ s with ZZ:=λk=>if k=b then s.ZZ b++[a] else s.ZZ k }:=by
  unfold CU;congr 1;funext k;by_cases f:k=b
  .rw[Qf f,Qf f,f]
  .rw[Qe f,Qe f]
 rw[Jj];have O7:∀k j g m n,ZP C k=some (.ref j g m n)->j<h.length:=λk j g m n f=>by
  rcases T.ca k with ⟨y,_⟩|⟨j',_,_,_,y,_,q,_⟩
  .rw[f]at y;cases y
  .rw[f]at y;cases y;exact Qc q
 have O:(ZP C b=none\/ZP C b=some .nil)->s.ZZ b=[]->Step S h (h.set I (JR .i64 U C b (.ref (h.length+1) 0 0 1))++[⟨.arr,0,1,1,λ_=>[u64 a]⟩,⟨.arr,0,1,1,λ_=>[u64 a]⟩]) /\
   YO (more S h) (h.set I (JR .i64 U C b (.ref (h.length+1) 0 0 1))++[⟨.arr,0,1,1,λ_=>[u64 a]⟩,⟨.arr,0,1,1,λ_=>[u64 a]⟩]) p { s with ZZ:=λk=>if k=b then s.ZZ b++[a] else s.ZZ k }:=λf V=>by
  refine⟨⟨λl W R=>?_,σ⟩,T.put (d:=.ref (h.length+1) 0 0 1) (h.length+1) ?_ (λj o L y B=>?_) (.inr ⟨h.length+1,0,0,λ_=>[u64 a],by simp[V],.inr ω,?_,λi M=>?_⟩) (λj g m n e=>by cases e;rfl) (λk j g m n _ ZD=>by have:=O7 k _ _ _ _ ZD;omega) ω (by have:=Qc T.ro;omega)⟩
  .rw[QG (by simpa using W),Qm (λe=>R (by rw[<- e];exact T.sc))]
  .rw[QG (by simpa using t),Qv t]
  .rw[QG (by simpa using Qc L),Qm (Q1 y),L]
  .rw[Vj (k:=1) σ,V];rfl
  .rw[V]at M ⊢;simp at M;subst M;rfl
 cases f:ZP C b with
 | none=>
  rw[f]at Q;have c:=O (.inl f) Q.nil;refine QZ func69 ntmps69 results69 λE w Y H=>?_;have z:=Qc r;have t:=Qc v;simp only[go_sem,Qa,r,z,v,t,u,u.symm,f];apply KX [] H [0,1,2,4,5,6,7,8,9,10,11] [3,12,13,14];simp only[go_sem,Qa,r,z,v,t,u,u.symm,f,Qv,Qm,↓reduceIte];simp only[go_sem]at c ⊢
  repeat' apply And.intro
  all_goals first|exact c.1|exact c.2
 | some d=>
  rw[f]at Q;rcases Q with ⟨B,q⟩|⟨x,g,m,F,B,Z,q,h4⟩
  .simp only[KV]at B;subst B;have c:=O (.inr f) q;refine QZ func69 ntmps69 results69 λE w Y H=>?_;have z:=Qc r;have t:=Qc v;simp only[go_sem,Qa,r,z,v,t,u,u.symm,f];apply KX [] H [0,1,2,4,5,6,7,8,9,10,11] [3,12,13,14];simp only[go_sem,Qa,r,z,v,t,u,u.symm,f,Qv,Qm,↓reduceIte];simp only[go_sem]at c ⊢
   repeat' apply And.intro
   all_goals first|exact c.1|exact c.2
  .simp only[KV]at B;subst B;have K:x≠p:=λe=>by rw[e,r]at q;cases q
   have J:x≠I:=λe=>by rw[e,v]at q;cases q
   have n3:x≠rm:=λe=>by rw[e,T.ro]at q;cases q
   have y6:(s.ZZ b).length<=4294967295:=ω;have h9:(s.ZZ b).length+1<=4294967295:=ω;have N:=Qc q;have c:Step S h ((h.set x ⟨.arr,g+1,1,(s.ZZ b).length+1,J7 (s.ZZ b).length m F λ_=>[u64 a]⟩).set I (JR .i64 U C b (.ref x (g+1) 0 ((s.ZZ b).length+1)))++[⟨.arr,0,1,1,λ_=>[u64 a]⟩]) /\
     YO (more S h) ((h.set x ⟨.arr,g+1,1,(s.ZZ b).length+1,J7 (s.ZZ b).length m F λ_=>[u64 a]⟩).set I (JR .i64 U C b (.ref x (g+1) 0 ((s.ZZ b).length+1)))++[⟨.arr,0,1,1,λ_=>[u64 a]⟩]) p { s with ZZ:=λk=>if k=b then s.ZZ b++[a] else s.ZZ k }:=by
    refine⟨⟨λl W R=>?_,σ⟩,T.put (d:=.ref x (g+1) 0 ((s.ZZ b).length+1)) x ?_ (λj o L y B=>?_) (.inr ⟨x,g+1,0,J7 (s.ZZ b).length m F λ_=>[u64 a],σ,.inl Z,?_,λi M=>?_⟩) (λj g m n e=>by cases e;rfl) (λk j g' yp n' QA ZL e=>?_) (Q1 K) (Q1 n3)⟩
    .rw[QG (by simpa using W),Qm (λe=>R (by rw[<- e];exact T.sc)),Qm (λe=>R (by rw[<- e];exact Z))]
    .rw[QG (by simpa using t),Qv (by simpa using t)]
    .rw[QG (by simpa using Qc L),Qm (Q1 y),Qm (Q1 B),L]
    .rw[QG (by simpa using N),Qm (Q1 J),Qv N];simp
    .simp at M;rw[Jv];by_cases P:i<(s.ZZ b).length
     .rw[xn P,h4 i P];simp[P,JD P]
     .have:i=(s.ZZ b).length:=ω;subst this;rw[zM (QB _)];simp
    .subst e;exact QA (T.sep _ _ _ _ _ _ _ _ _ ZL f)
   refine QZ func69 ntmps69 results69 λE w Y H=>?_;have z:=Qc r;have t:=Qc v;have N:=Qc q;simp only[go_sem,Qa,r,z,v,t,q,N,u,u.symm,f,K,J,K.symm,J.symm];apply KX [] H [0,1,2,4,5,6,7,8,9,10,11] [3,12,13,14];simp only[go_sem,Qa,r,z,v,t,u,u.symm,f,Qv,Qm,q,N,K,J,K.symm,J.symm,↓reduceIte,y6,h9];simp only[go_sem]at c ⊢
   repeat' apply And.intro
   all_goals first|exact c.1|exact c.2
def EO.row{S}{h h'}{p t a u}{v}{i}{l}{s}(T:EO S h p t a u v i l s){cls}{r}
  (w:h'[a]? = some (JR .i64 i l cls (.agg r.cells))) (c:∀j o,h[j]? = some o->j≠a->h'[j]? = some o) :
  ∃q E,EO S h' p t a u v q E { s with rows:=λk=>if k=cls then r else s.rows k }:=by
 obtain⟨C,n,z,y⟩:=tX .i64 i l cls (.agg r.cells);have F:p≠a:=λe=>by have:=T.o;rw[e,T.ro]at this;cases this
 refine⟨C,n,c _ _ T.o F,c _ _ T.co T.ne,by rw[w,z],T.ne,T.sp,T.sc,T.sr,λk=>?_,T.sep,λk=>?_⟩
 .rcases T.ca k with f|⟨j,g,m,row,f,B,d,x⟩
  .exact .inl f
  .refine .inr ⟨j,g,m,row,f,B,c j _ d (λe=>?_),x⟩;rw[e,T.ro]at d;cases d
 .rw[y k];dsimp only;by_cases b:k=cls
  .rw[Qf b,Qf b];rfl
  .rw[Qe b,Qe b];exact T.rw_ k
def jq.QxK{a b:jq}(h:a.cells=b.cells):a=b:=by
 obtain⟨u,t,s,q,o⟩:=a;obtain⟨n,m,k,j,i⟩:=b;simp only[jq.cells,u64,EZ,D.raw.injEq,Value.int.injEq,yj,and_true]at h;obtain⟨g,f,e,d,c⟩:=h;congr 1<;>omega
def Og(a b:Nat):IntKind.u64.wrap ((a:Int)+(b:Int))=(((a+b) % 18446744073709551616:Nat):Int):=by
 rw[IntKind.wrap_u64];omega
def QxL{S}{h}{p}{s}(T:YO S h p s)(b){done}(hd:done<18446744073709551616){bytes}(Kc:1<=bytes)(ZJ:bytes<=16384)(c):
  QI prog 107 h [.ptr p 0 0 0,Qb b,u64 done,Qb bytes,QT c] (λd h'=>Step S h h'/\YO (more S h) h' p (YM s b done bytes c)):=by
 obtain⟨Y,P,c1,Z,W,O,T⟩:=T;have m:=T.o;have B:=T.co;have M:=T.ro;have QA:=T.ne;have t:=Qc m;have C:=Qc B;have I:=Qc M;have hp:=T.ca b;have zS:p≠Y:=λe=>by rw[e,B]at m;cases m
 have CW:p≠P:=λe=>by rw[e,M]at m;cases m
 have a0:∀g:List Ob,YM s b done bytes c=s->Step S h (h++g)/\YO (more S h) (h++g) p (YM s b done bytes c):=λg e=>by
  rw[e];exact⟨Step.app S h g,YO.step (λj V N=>⟨.inl N,QG V⟩) ⟨Y,P,c1,Z,W,O,T⟩⟩
 have eP:YM s b done bytes c=s->Step S h h/\YO (more S h) h p (YM s b done bytes c):=λe=>by
  have:=a0 [] e;rwa [Jl]at this
 obtain⟨r,yl⟩:∃r,r=s.rows b:=⟨_,rfl⟩;have ZR:=T.rw_ b;rw[<- yl]at ZR;cases F:ZP Z b with
 | none=>
  rw[F]at hp;have h0:=hp.nil;have u:=eP (by unfold YM;rw[h0]);refine QZ func107 ntmps107 results107 λE w pl x=>?_;have t:=Qc m;have C:=Qc B;simp only[go_sem,Qa,m,t,B,C,F];exact u
 | some d=>
  rw[F]at hp;rcases hp with ⟨h2,f⟩|⟨R,g,q,a2,h2,hS,f,h4⟩
  .simp only[KV]at h2;subst h2;have u:=eP (by unfold YM;rw[f]);refine QZ func107 ntmps107 results107 λE w pl x=>?_;have t:=Qc m;have C:=Qc B;simp only[go_sem,Qa,m,t,B,C,F];exact u
  .simp only[KV]at h2;subst h2;have v:=Qc f;cases hc:s.ZZ b with
   | nil=>
    have u:=eP (by unfold YM;rw[hc]);rw[hc]at F;refine QZ func107 ntmps107 results107 λE w pl x=>?_;have t:=Qc m;have C:=Qc B;simp only[go_sem,Qa,m,t,B,C,F];exact u
   | cons a l=>
    rw[hc]at F f h4;have K:=h4 0 σ;simp only[go_sem,G2,List.getD_cons_zero]at K;have d1:decide (bytes<1)=false:=QS ω;have d0:(((l.length+1:Nat):Int)==0)=false:=ξ;have z:(0:Int)<((l.length+1:Nat):Int):=ω;have y:q<q+(l.length+1):=ω;have n1:R≠p:=λe=>by rw[e,m]at f;cases f
    have n2:R≠Y:=λe=>by rw[e,B]at f;cases f
    have Q:P≠R:=λe=>by rw[<- e,M]at f;cases f
    have O7:∀k j g q n,ZP Z k=some (.ref j g q n)->j<h.length:=λk j g q n F=>by
     rcases T.ca k with ⟨N,_⟩|⟨j',_,_,_,N,_,f,_⟩
     .rw[F]at N;cases N
     .rw[F]at N;cases N;exact Qc f
    have pg:∀(H:jq) (o:Ob),YM s b done bytes c=⟨λk=>if k=b then l else s.ZZ k,λk=>if k=b then H else s.rows k⟩ ->
      Step S h ((h.set P (JR .i64 W O b (.agg H.cells))).set Y (JR .i64 c1 Z b (.ref R g (q+1) l.length))++[o])/\YO (more S h) ((h.set P (JR .i64 W O b (.agg H.cells))).set Y (JR .i64 c1 Z b (.ref R g (q+1) l.length))++[o]) p (YM s b done bytes c):=λH o e=>by
     rw[e];obtain⟨a3,Ej,T1⟩:=T.row (h':=h.set P (JR .i64 W O b (.agg H.cells))) (r:=H) (cls:=b) (Qv I) (λj o V N=>by rw[Qm (Q1 N)];exact V);have a1:(h.set P (JR .i64 W O b (.agg H.cells))).length=h.length:=σ;have RO:more S (h.set P (JR .i64 W O b (.agg H.cells)))=more S h:=by unfold more;rw[a1]
     refine⟨⟨λj V hn=>?_,σ⟩,?_⟩
     .rw[QG (by simpa using V),Qm (λe=>hn (by rw[<- e];exact T.sc)),Qm (λe=>hn (by rw[<- e];exact T.sr))]
     .rw[<- RO];refine T1.put (d:=.ref R g (q+1) l.length) R ?_ (λj o V N h2=>?_) (.inr ⟨R,g,q+1,a2,rfl,.inl hS,?_,λi hi=>?_⟩) (λj g q n e=>by cases e;rfl) (λk j g' yp n' QA ZL e=>?_) (Q1 n1) Q
      .rw[QG (by simpa using C),Qv (by simpa using C)]
      .rw[QG (by have:=Qc V;simpa using this),Qm (Q1 N),V]
      .rw[QG (by simpa using v),Qm (Q1 n2),Qm Q,f];simp only[VK,QX,Ob.mk.injEq,yj,and_true];omega
      .rw[show q+1+i=q+(i+1) by omega,h4 (i+1) (by simpa using hi)];simp
      .subst e;exact QA (T.sep _ _ _ _ _ _ _ _ _ ZL F)
    by_cases h5:done<a
    .have d2:=Q3 h5;have u:=eP (by unfold YM;rw[hc];dsimp only;rw[Qe ω,Qf h5]);refine QZ func107 ntmps107 results107 λE w pl x=>?_;have t:=Qc m;have C:=Qc B;have v:=Qc f;simp only[go_sem,Qa,m,t,B,C,f,v,F,d0,d1,d2,K];exact⟨z,y,u⟩
    .have d2:=QS h5;have e0:YM s b done bytes c=⟨λk=>if k=b then l else s.ZZ k,λk=>if k=b then x6 r a done bytes c else s.rows k⟩:=by
      unfold YM;rw[hc];dsimp only;rw[Qe ω,Qe h5];congr 1;funext k;by_cases zg:k=b
      .rw[Qf zg,Qf zg,zg,<- yl]
      .rw[Qe zg,Qe zg]
     have u:∀(o:Ob) (H:jq),H=x6 r a done bytes c->∀n,n=l.length->Step S h ((h.set P (JR .i64 W O b (.agg H.cells))).set Y (JR .i64 c1 Z b (.ref R g (q+1) n))++[o])/\YO (more S h) ((h.set P (JR .i64 W O b (.agg H.cells))).set Y (JR .i64 c1 Z b (.ref R g (q+1) n))++[o]) p (YM s b done bytes c):=λo H pN n hn=>by
      subst hn;exact pg H o (by rw[e0,pN])
     have w1:IntKind.u64.wrap ((r.p:Int)+1)=(((r.p+1) % 18446744073709551616:Nat):Int):=Og r.p 1;have w2:IntKind.u64.wrap bytes=((bytes.toNat:Nat):Int):=η;have w3:=Og r.b bytes.toNat
     have w4:IntKind.u64.wrap ((r.r:Int)+1)=(((r.r+1) % 18446744073709551616:Nat):Int):=Og r.r 1;have U:IntKind.u64.wrap ((done:Int) - (a:Int))=((done - a:Nat):Int):=η;have w6:=Og r.w (done - a);have w7:max ((r.l:Nat):Int) ((done - a:Nat):Int)=((max r.l (done - a):Nat):Int):=ω;have J:(((l.length+1:Nat):Int) - 1).toNat=l.length:=ω;have ZD:(ZP O b=some (.agg r.cells))\/(ZP O b=none/\r=default):=by
      cases hh:ZP O b with
      | some d=>rw[hh]at ZR;exact .inl (congrArg some ZR)
      | none=>
       rw[hh]at ZR;have ZR:D.agg (default:jq).cells=D.agg r.cells:=ZR;exact .inr ⟨rfl,(jq.QxK (D.agg.inj ZR)).symm⟩
     rcases ZD with ZD|⟨ZD,WK⟩
     .refine QZ func107 ntmps107 results107 λE w pl x=>?_;have t:=Qc m;have C:=Qc B;have v:=Qc f;have I:=Qc M;simp only[go_sem,Qa,m,t,B,C,f,v,M,I,F,d0,d1,d2,K,ZD,w1,w2,w3];cases c with
      | true=>
       have L:=u ⟨.one,0,5,1,λ_=>(x6 r a done bytes true).cells⟩ _ rfl _ J;simp only[go_sem,x6,↓reduceIte,J,YR]at L;simp only[go_sem,Qa,w4];repeat (refine And.intro (by first|exact z|exact y|omega) ?_)
       apply Qw x Eq;simp only[go_sem,Qa,m,t,f,v,K,U,w6];repeat (refine And.intro (by first|exact z|exact y|omega) ?_)
       apply Qw x Eq;simp only[go_sem,Qa,m,t,f,v,K,U,w7];repeat (refine And.intro (by first|exact z|exact y|omega) ?_)
       apply Qw x i6;simp only[go_sem,Qa,m,t,f,v,M,I,Qm];repeat (refine And.intro (by first|exact z|exact y|omega) ?_)
       apply Qw x ut;simp only[go_sem,Qa,m,t,f,v,B,C,I,Qm CW.symm,Qm QA.symm,Qm Q];repeat (refine And.intro (by first|exact z|exact y|omega) ?_)
       simp only[go_sem,J,Qm Q,f,Ls];exact L
      | false=>
       have L:=u ⟨.one,0,5,1,λ_=>(x6 r a done bytes false).cells⟩ _ rfl _ J;simp only[go_sem,x6,↓reduceIte,J,YR]at L;simp only[go_sem,Qa];repeat (refine And.intro (by first|exact z|exact y|omega) ?_)
       apply Qw x Eq;simp only[go_sem,Qa,m,t,f,v,K,U,w6];repeat (refine And.intro (by first|exact z|exact y|omega) ?_)
       apply Qw x Eq;simp only[go_sem,Qa,m,t,f,v,K,U,w7];repeat (refine And.intro (by first|exact z|exact y|omega) ?_)
       apply Qw x i6;simp only[go_sem,Qa,m,t,f,v,M,I,Qm];repeat (refine And.intro (by first|exact z|exact y|omega) ?_)
       apply Qw x ut;simp only[go_sem,Qa,m,t,f,v,B,C,I,Qm CW.symm,Qm QA.symm,Qm Q];repeat (refine And.intro (by first|exact z|exact y|omega) ?_)
       simp only[go_sem,J,Qm Q,f,Ls];exact L
     .have WK:r=⟨0,0,0,0,0⟩:=WK;subst WK;have v1:IntKind.u64.wrap 1=1:=rfl;have v3:IntKind.u64.wrap (0+((bytes.toNat:Nat):Int))=(((0+bytes.toNat) % 18446744073709551616:Nat):Int):=Og 0 bytes.toNat
      have v6:IntKind.u64.wrap (0+((done - a:Nat):Int))=(((0+(done - a)) % 18446744073709551616:Nat):Int):=Og 0 (done - a);have v7:max (0:Int) ((done - a:Nat):Int)=((max 0 (done - a):Nat):Int):=ω;refine QZ func107 ntmps107 results107 λE w pl x=>?_;have t:=Qc m;have C:=Qc B;have v:=Qc f;have I:=Qc M;simp only[go_sem,Qa,m,t,B,C,f,v,M,I,F,d0,d1,d2,K,ZD,w2,v1,v3];cases c with
      | true=>
       have L:=u ⟨.one,0,5,1,λ_=>(x6 ⟨0,0,0,0,0⟩ a done bytes true).cells⟩ _ rfl _ J;simp only[go_sem,x6,↓reduceIte,J,YR]at L;simp only[go_sem,Qa,v1];repeat (refine And.intro (by first|exact z|exact y|omega) ?_)
       apply Qw x Eq;simp only[go_sem,Qa,m,t,f,v,K,U,v6];repeat (refine And.intro (by first|exact z|exact y|omega) ?_)
       apply Qw x Eq;simp only[go_sem,Qa,m,t,f,v,K,U,v7];repeat (refine And.intro (by first|exact z|exact y|omega) ?_)
       apply Qw x i6;simp only[go_sem,Qa,m,t,f,v,M,I,Qm];repeat (refine And.intro (by first|exact z|exact y|omega) ?_)
       apply Qw x ut;simp only[go_sem,Qa,m,t,f,v,B,C,I,Qm CW.symm,Qm QA.symm,Qm Q];repeat (refine And.intro (by first|exact z|exact y|omega) ?_)
       simp only[go_sem,J,Qm Q,f,Ls];exact L
      | false=>
       have L:=u ⟨.one,0,5,1,λ_=>(x6 ⟨0,0,0,0,0⟩ a done bytes false).cells⟩ _ rfl _ J;simp only[go_sem,x6,↓reduceIte,J,YR]at L;simp only[go_sem,Qa];repeat (refine And.intro (by first|exact z|exact y|omega) ?_)
       apply Qw x Eq;simp only[go_sem,Qa,m,t,f,v,K,U,v6];repeat (refine And.intro (by first|exact z|exact y|omega) ?_)
       apply Qw x Eq;simp only[go_sem,Qa,m,t,f,v,K,U,v7];repeat (refine And.intro (by first|exact z|exact y|omega) ?_)
       apply Qw x i6;simp only[go_sem,Qa,m,t,f,v,M,I,Qm];repeat (refine And.intro (by first|exact z|exact y|omega) ?_)
       apply Qw x ut;simp only[go_sem,Qa,m,t,f,v,B,C,I,Qm CW.symm,Qm QA.symm,Qm Q];repeat (refine And.intro (by first|exact z|exact y|omega) ?_)
       simp only[go_sem,J,Qm Q,f,Ls];exact L
@[go_sem] def QDO(k:List Int):List D:=k.map λn=>.raw (.int .u16 n)
def Qhn:Q6 prog 66 [] (Zm (.agg [.raw (.int .u16 65535),.raw (.int .u16 65535),.raw (.int .u16 65535),.raw (.int .u16 65535)])):=by
 refine Zs 0 func66 ntmps66 results66 λa w b=>?_;simp only[go_sem]
def Qho(j i h g f e d c):Q6 prog 65 [.agg [.raw (.int .u16 j),.raw (.int .u16 i),.raw (.int .u16 h),.raw (.int .u16 g)],.agg [.raw (.int .u16 f),.raw (.int .u16 e),.raw (.int .u16 d),.raw (.int .u16 c)]]
  (Zm (.agg [.raw (.int .u16 (vA j f)),.raw (.int .u16 (vA i e)),.raw (.int .u16 (vA h d)),.raw (.int .u16 (vA g c))])):=by
 refine Zs 0 func65 ntmps65 results65 λk w a=>?_;simp only[go_sem];have n:IntKind.i64.wrap 1=1:=rfl;have m:IntKind.i64.wrap 2=2:=rfl;have l:IntKind.i64.wrap 3=3:=rfl;have b:IntKind.i64.wrap 4=4:=rfl;refine kV 4 ?_;apply QC a;apply Qw a i7;simp only[go_sem];apply Qg a;simp only[go_sem,Qa,n];apply Qw a i7;simp only[go_sem];apply Qg a;simp only[go_sem,Qa,m];apply Qw a i7;simp only[go_sem];apply Qg a;simp only[go_sem,Qa,l];apply Qw a i7;simp only[go_sem];apply Qg a;simp only[go_sem,Qa,b];apply Qg a;simp only[go_sem,Qa,b];rfl
theorem QxM(r:ZX)(x:Pk):qV r (Jz x)=(vA x.wi r.wo==r.DS&&(vA x.wj r.wu==r.DT&&(vA x.wk r.A1==r.DU&&(vA x.wm r.yK==r.A3&&true)))):=rfl
@[go_sem] def QaM(x:Pk):List D:=[.raw (.int .u16 x.wi),.raw (.int .u16 x.wj),.raw (.int .u16 x.wk),.raw (.int .u16 x.wm)]
def Qhp(r:ZX)(x):Q6 prog 101 [.agg r.cells,.agg (QaM x)] (Zm (QT (qV r (Jz x)))):=by
 rw[QxM];refine Zs 0 func101 ntmps101 results101 λb w a=>?_;simp only[go_sem];apply Qw a [0,1,2,4,5,1003,6,7];simp only[go_sem];apply Vc a iL (Qho x.wi x.wj x.wk x.wm r.wo r.wu r.A1 r.yK);exact MH a
structure Qhq (h:List Ob) (p:Nat) (dr:D) (le:Nat) (dm:D) (c:Nat) (es:List Xg) (ms:List Nat) (R:List ZX):Prop where
 o:(h.map Ob.ro)[p]? = some (EN dr le dm).ro
 eo:(h.map Ob.ro)[le]? = some (kN c es).ro
 rs:(dr=.nil/\R=[])\/∃lo g row,dr=.ref lo g 0 R.length/\(h.map Ob.ro)[lo]? = some ⟨.vO,g,9,R.length,row⟩/\∀i,i<R.length->row i=(R.getD i default).cells
 mo:(dm=.nil/\ms=[])\/∃lo g row,dm=.ref lo g 0 ms.length/\(h.map Ob.ro)[lo]? = some ⟨.vO,g,1,ms.length,row⟩/\∀i,i<ms.length->row i=[Qb ((ms.getD i 0:Nat):Int)]
 I:Yl R R.length es ms
 ok:YN R=0
def rW.toR{S}{h}{p}{l}{j}{m}{c}{k}{i}{R}(T:rW S h p l j m c k i R):Qhq h p l j m c k i R:=
 ⟨ZG T.o,ZG T.eo,T.rs.imp id λ⟨b,g,a,f,_,e,d⟩=>⟨b,g,a,f,ZG e,d⟩,T.mo.imp id λ⟨b,g,a,f,_,e,d⟩=>⟨b,g,a,f,ZG e,d⟩,T.I,T.ok⟩
def rY{R}(h:YN R=0):∀r∈R,1<=r.cls:=λr a=>by
 unfold YN at h;split at h
 .cases h
 .split at h
  .rename_i b;have:=YS.1 b r a;unfold x7 at this;simp only[ZH,XZ]at this;exact this.1.1
  .cases h
def inc_le:∀(c:List Nat) (n b:Nat),c.Pairwise (·<·)->(∀j∈c,b<=j/\j<n)->c.length<=n - b
 | [],n,b,_,_=>KF _
 | a::c,n,b,d,h=>by
  rw[yi]at d;have f:=h a σ;have:=inc_le c n (a+1) d.2 λj e=>⟨d.1 j e,(h j (by simp[e])).2⟩;simp only[VK];omega
def QxN{h}{p}{dr}{le}{dm}{c}{es}{b}{R}(T:Qhq h p dr le dm c es b R)(x)(hx:SP x):
  QR prog 67 h [.ptr p 0 0 0,.agg (QaM x)] (λd=>d=.tup [Qb (Xa R (Jz x)),Qb (if Xa R (Jz x)=0 then 31 else 0)]):=by
 have g:=T.o;have v:=T.eo;have h4:=T.I.four;obtain⟨q,W⟩:∃q,q=WO es (Jz x):=⟨_,rfl⟩;have CX:=W;simp only[Jz]at CX;have a0:∀j,j<b.length->b.getD j 0∈b:=λj l=>za b 0 j l;have SR:∀i∈b,∃j,j<b.length/\b.getD j 0=i:=λi N=>by
  obtain⟨j,l,e⟩:=yh N;exact⟨j,l,by rw[Q5,QP l];exact e⟩
 have yy:b.length<=32:=by
  have h1:=inc_le b R.length 0 T.I.inc λj l=>⟨KF j,((T.I.mem j).1 l).1⟩;have h2:R.length<=32:=by
   have:=T.ok;unfold YN at this;split at this
   .cases this
   .omega
  omega
 have a1:∀j k,j<k->k<b.length->b.getD j 0<b.getD k 0:=λj k VN hk=>by
  have:=List.pairwise_iff_getElem.1 T.I.inc j k ω hk VN;rw[Q5,Q5,QP hk,QP (show j<b.length from ω)];exact this
 have rZ:∀j k,j<b.length->b.getD j 0<b.getD k 0->j<k:=λj k l h=>xg λhc=>by
  rcases Nat.lt_or_eq_of_le (Nat.le_of_not_lt hc) with h2|h2
  .have:=a1 k j h2 l;omega
  .rw[h2]at h;omega
 cases q with
 | none=>
  have z:(∀j∈b,qV (Ju R j) (Jz x)=false)->Xa R (Jz x)=0:=λE=>by
   unfold Xa;rw[T.I.none hx W.symm E]
  rcases T.mo with ⟨rfl,rfl⟩|⟨Z,gm,r5,rfl,C,qg⟩
  .rw[z (λj l=>by cases l),Qf rfl];refine Zk func67 ntmps67 results67 λJ w pl F S QQ f=>?_;rw[<- S]at g v;have m:=Qc g;have H:=Qc v;simp only[go_sem,Qa,g,m,v,H];apply Qw f i5;simp only[go_sem,Qa,g,m,v,H,<- CX];refine⟨h4,?_⟩;refine kV 0 ?_;apply QC f;apply QC f;all_goals exact KY
  .refine Zk func67 ntmps67 results67 λJ w pl F S QQ f=>?_;rw[<- S]at g v C;have m:=Qc g;have H:=Qc v;have U:=Qc C;simp only[go_sem,Qa,g,m,v,H,C,U];apply Qw f i5;simp only[go_sem,Qa,g,m,v,H,<- CX];refine⟨h4,?_⟩;refine Z4 (λk s=>(∀j,j<k->qV (Ju R (b.getD j 0)) (Jz x)=false)/\s=⟨[(0,.ptr p 0 0 0),(3,.ptr F.length 0 0 0),(6,Qb 0),(7,QT false),(24,.ref Z gm 0 b.length),(25,Qb b.length),(26,Qb k)],F++[(⟨.one,0,4,1,λ_=>QaM x⟩:Ob)]⟩) b.length QN ⟨λj l=>absurd l (XL j),rfl⟩ ?_;rintro k _ hk ⟨E,rfl⟩;by_cases y:k<b.length
   .have L:=Q3 y;have Zl:=KJ (show k<4611686018427387904 from ω);obtain⟨i,N⟩:∃i,i=b.getD k 0:=⟨_,rfl⟩;have Ic:=a0 k y;rw[<- N]at Ic;obtain⟨o,r6⟩:=(T.I.mem i).1 Ic;have K:=qg k y;rw[<- N]at K;rcases T.rs with ⟨h1,h2⟩|⟨lr,gr,eR,rfl,n,yl⟩
    .rw[h2]at o;simp at o
    rw[<- S]at n;have t:=Qc n;have u:eR i=(Ju R i).cells:=yl i o;obtain⟨r,I⟩:∃r,r=Ju R i:=⟨_,rfl⟩;rw[<- I]at u;have M:=Qhp r x;simp only[go_sem]at u K;cases Q:qV r (Jz x) with
    | false=>
     rw[Q]at M;apply Qg f;simp only[go_sem,Qa,L,y,C,U,K,Go.undef];apply Qw f i7;simp only[go_sem,Qa,g,m,n,t,u,o];refine KK f aT ?_ M ?_
     .simp only[go_sem,Qa,g,m,n,t,u,o]
     apply Q7 f;simp only[go_sem,Qa,g,m,n,t,u,o];repeat (refine And.intro δ ?_)
     refine⟨_,QF.frame (fr':=[(0,.ptr p 0 0 0),(3,.ptr F.length 0 0 0),(6,Qb 0),(7,QT false),(24,.ref Z gm 0 b.length),(25,Qb b.length),(26,Qb (k+1:Nat))]) (by simp only[go_sem,Zl]),λj l=>?_,rfl⟩;rcases vK.1 l with h5|rfl
     .exact E j h5
     .rw[<- N,<- I];exact Q
    | true=>
     rw[Q]at M;have e0:Xa R (Jz x)=r.cls:=by
      unfold Xa;rw[T.I.Xf hx o r6 (by rw[<- I];exact Q) (λj l kP=>?_) (λa' Vy=>?_),<- I]
      .obtain⟨B,P,O⟩:=SR j l;rw[<- O];exact E B (rZ B k P ω)
      .rw[<- W]at Vy;cases Vy
     have Fo:=rY T.ok r (by rw[I];exact za R default i o);rw[e0,Qe ω];apply Qg f;simp only[go_sem,Qa,L,y,C,U,K,Go.undef];apply Qw f i7;simp only[go_sem,Qa,g,m,n,t,u,o];refine KK f aT ?_ M ?_
     .simp only[go_sem,Qa,g,m,n,t,u,o]
     apply Q7 f;simp only[go_sem,Qa,g,m,n,t,u,o];all_goals exact KY
   .have ZD:k=b.length:=ω;have L:=QS y;subst ZD;have JX:∀j∈b,qV (Ju R j) (Jz x)=false:=λj l=>by
     obtain⟨B,P,O⟩:=SR j l;rw[<- O];exact E B P
    rw[z JX,Qf rfl];apply Qg f;simp only[go_sem,Qa,L];apply QC f;all_goals exact KY
 | some d=>
  obtain⟨a,rfl,V,Mc,RV,a3⟩:=T.I.yes _ _ W.symm;rcases T.rs with ⟨h1,h2⟩|⟨lr,gr,eR,rfl,n,yl⟩
  .rw[h2]at V;simp at V
  have Y:eR a=(Ju R a).cells:=yl a V;obtain⟨ra,r7⟩:∃r,r=Ju R a:=⟨_,rfl⟩;rw[<- r7]at Y;have eT:=rY T.ok ra (by rw[r7];exact za R default a V);have z:(∀j∈b,j<a->qV (Ju R j) (Jz x)=false)->Xa R (Jz x)=ra.cls:=λE=>by
   unfold Xa;rw[(T.I.whole hx W.symm E).2,<- r7]
  simp only[go_sem]at Y;rcases T.mo with ⟨rfl,rfl⟩|⟨Z,gm,r5,rfl,C,qg⟩
  .rw[z (λj l=>by cases l),Qe ω];refine Zk func67 ntmps67 results67 λJ w pl F S QQ f=>?_;rw[<- S]at g v n;have m:=Qc g;have H:=Qc v;have t:=Qc n;simp only[go_sem,Qa,g,m,v,H,n,t];apply Qw f i5;simp only[go_sem,Qa,g,m,v,H,<- CX];refine⟨h4,?_⟩;refine kV 0 ?_;apply Qg f;simp only[go_sem,Qa,g,m,n,t,Y,V];apply Qg f;simp only[go_sem,Qa,g,m,n,t,Y,V];all_goals exact KY
  .refine Zk func67 ntmps67 results67 λJ w pl F S QQ f=>?_;rw[<- S]at g v n C;have m:=Qc g;have H:=Qc v;have t:=Qc n;have U:=Qc C;simp only[go_sem,Qa,g,m,v,H,n,t,C,U];apply Qw f i5;simp only[go_sem,Qa,g,m,v,H,<- CX];refine⟨h4,?_⟩;refine Z4 (λk s=>(∀j,j<k->qV (Ju R (b.getD j 0)) (Jz x)=false)/\s=⟨[(0,.ptr p 0 0 0),(3,.ptr F.length 0 0 0),(6,Qb a),(7,QT true),(24,.ref Z gm 0 b.length),(25,Qb b.length),(26,Qb k)],F++[(⟨.one,0,4,1,λ_=>QaM x⟩:Ob)]⟩) b.length QN ⟨λj l=>absurd l (XL j),rfl⟩ ?_;rintro k _ hk ⟨E,rfl⟩;by_cases y:k<b.length
   .have L:=Q3 y;have Zl:=KJ (show k<4611686018427387904 from ω);obtain⟨i,N⟩:∃i,i=b.getD k 0:=⟨_,rfl⟩;have Ic:=a0 k y;rw[<- N]at Ic;obtain⟨o,r6⟩:=(T.I.mem i).1 Ic;have K:=qg k y;rw[<- N]at K;have u:eR i=(Ju R i).cells:=yl i o;obtain⟨r,I⟩:∃r,r=Ju R i:=⟨_,rfl⟩;rw[<- I]at u;have M:=Qhp r x;simp only[go_sem]at u K;by_cases Nt:a<i
    .have da:=Q3 Nt;rw[z (λj l a2=>by
      obtain⟨B,P,O⟩:=SR j l;rw[<- O];exact E B (rZ B k P ω)),Qe ω]
     apply Qg f;simp only[go_sem,Qa,L,y,C,U,K,da];apply Qg f;simp only[go_sem,Qa,g,m,n,t,Y,V];all_goals exact KY
    .have da:=QS Nt;cases Q:qV r (Jz x) with
     | false=>
      rw[Q]at M;apply Qg f;simp only[go_sem,Qa,L,y,C,U,K,da];apply Qw f i7;simp only[go_sem,Qa,g,m,n,t,u,o];refine KK f aT ?_ M ?_
      .simp only[go_sem,Qa,g,m,n,t,u,o]
      apply Q7 f;simp only[go_sem,Qa,g,m,n,t,u,o];repeat (refine And.intro δ ?_)
      refine⟨_,QF.frame (fr':=[(0,.ptr p 0 0 0),(3,.ptr F.length 0 0 0),(6,Qb a),(7,QT true),(24,.ref Z gm 0 b.length),(25,Qb b.length),(26,Qb (k+1:Nat))]) (by simp only[go_sem,Zl]),λj l=>?_,rfl⟩;rcases vK.1 l with h5|rfl
      .exact E j h5
      .rw[<- N,<- I];exact Q
     | true=>
      rw[Q]at M;have e0:Xa R (Jz x)=r.cls:=by
       unfold Xa;rw[T.I.Xf hx o r6 (by rw[<- I];exact Q) (λj l kP=>?_) (λa' Vy=>?_),<- I]
       .obtain⟨B,P,O⟩:=SR j l;rw[<- O];exact E B (rZ B k P ω)
       .rw[<- W]at Vy;have:=G6 Vy;simp only[Qb,D.raw.injEq,Value.int.injEq,yj]at this;omega
      have Fo:=rY T.ok r (by rw[I];exact za R default i o);rw[e0,Qe ω];apply Qg f;simp only[go_sem,Qa,L,y,C,U,K,da];apply Qw f i7;simp only[go_sem,Qa,g,m,n,t,u,o];refine KK f aT ?_ M ?_
      .simp only[go_sem,Qa,g,m,n,t,u,o]
      apply Q7 f;simp only[go_sem,Qa,g,m,n,t,u,o];all_goals exact KY
   .have ZD:k=b.length:=ω;have L:=QS y;subst ZD;rw[z (λj l _=>by
     obtain⟨B,P,O⟩:=SR j l;rw[<- O];exact E B P),Qe ω]
    apply Qg f;simp only[go_sem,Qa,L];apply Qg f;simp only[go_sem,Qa,g,m,n,t,Y,V];all_goals exact KY
end Go.Fg.X
namespace Go.Fg
open Go.RowKit (Below)
variable {Z:Nat->Prop}
section
variable {P:Program}{L:ZW}{base nt:Nat}{s:St}{o:Oper}
end
section
variable {P:Program}{L:ZW}{base nt:Nat}{w0:Start}{Q:Exit->St->Prop}
end
def eU:D->Bool
 | .imm _ _ _=>true
 | .ref _ _ _ _=>true
 | .nil=>true
 | _=>false
section
variable {P:Program}{L:ZW}{base nt:Nat}{s:St}{o:Oper}
end
section
variable {P:Program}{L:ZW}{base nt:Nat}{w0:Start}{Q:Exit->St->Prop}
end
def Oi:D->Nat
 | .imm _ n _=>n
 | _=>0
def QxP{h}{g}{w}{d}{v}(r:Qy Z h g w d v)(j:eU d=true):∃a n b,v=.slice a n b/\(a.isNone=true->Oi d=0):=by
 cases d<;>simp only[eU,YR]at j;all_goals first
  | (obtain⟨a,e⟩:=BK r;exact⟨_,_,_,e,λ_=>rfl⟩)
  | (obtain⟨a,b,_,_,_,e,k,_⟩:=OW r;refine⟨_,_,_,e,λf=>Nat.eq_zero_of_not_pos λi=>?_⟩;have c:0<_:=i;simp only[Oi]at c;rw[k c]at f;cases f)
  | (obtain⟨_,_,a,b,e,_⟩:=BL r;exact⟨_,_,_,e,λ_=>rfl⟩)
section
variable {P:Program}{L:ZW}{base nt:Nat}{w0:Start}{Q:Exit->St->Prop}
def QxQ(I:ZU P L){Q:Exit->St->Prop}{o:Oper}{c:List (Oper × G)}{s:St}{t j e a b:Nat}{x:Operand}{i:List Value}(B:o.op=.binOp .eql t x (.const (.slice none 0 0)) j)(p:eU (Qo s.fr x)=true)(v:ty L t=some ⟨.slice e,a,b,i⟩)(g:Zj nt o.dst=true)
  (C:∀b:Bool,(b=true->Oi (Qo s.fr x)=0)->AG P base nt w0 c Q ⟨Q8 s.fr o.dst (.raw (.bool b)),s.h⟩):AG P base nt w0 ((o,none)::c) Q s:=by
 intro Z z l h w r b;obtain⟨d,n,f,q,H⟩:=QxP (r.eval x) p;have F:h.eval (.const (.slice none 0 0))=.slice none 0 0:=rfl;have J:(execOp h.eval o).run P w=.ok (.value (.bool d.isNone)) w:=by
  have u:=vP (I _ _ v) rfl;have E:(Op.equal t (.slice d n f) (.slice none 0 0)).run P w=.ok d.isNone w:=TV λm=>by
   cases d<;>simp[Op.equalIn,run_underlying u]
  have y:(eqGuard .eql t x (.const (.slice none 0 0)) (.slice d n f) (.slice none 0 0)).run P w=.ok () w:=by simp[eqGuard]
  simp[execOp,B,q,F,Go.binOp,E,y]
 simp only[X5,WQ,Va];unfold Oper.wp;rw[J];simp only[Oper.upon_value];refine C _ H Z z l _ w ?_ b;cases k:o.dst with
 | none=>exact r
 | some t=>rw[k]at g;exact r.to (Tr.ext r.o λ_ _=>rfl) r.o (zQ g) (.cl _ _ (.raw _))
def Qhs(m:ZU P L){k:List Item}{c:Option Nat}{o:TypeId}{pos:String}{d:Array Edge}{n:Option (Nat × Bool)}{r:List (Oper × G)}{s:St}{t h e a b:Nat}{x:Operand}{g:List Value}
  (i:eU (Qo s.fr x)=true) (j:ty L t=some ⟨.slice e,a,b,g⟩) (l:Zj nt c=true) (f:∀b:Bool,(b=true->Oi (Qo s.fr x)=0)->Qr P base nt w0 Q (.ops r::k) .normal ⟨Q8 s.fr c (.raw (.bool b)),s.h⟩) :
  Qr P base nt w0 Q (.ops ((⟨c,.binOp .eql t x (.const (.slice none 0 0)) h,o,pos,d,n⟩,none)::r)::k) .normal s:=by
 simp only[Qr]at f ⊢;exact QxQ m rfl i j l f
end
end Go.Fg
namespace Go.Fg.X
open Go.Proofs Go.Fg
open Go.Proofs.Tryz
@[go_sem] def We(l:List ZX):D:=.imm 9 l.length (ZX.rows l)
def QxR(h:List Ob)(l:List ZX)(n:l.length<1000000):QI prog 64 h [We l] (λd f=>∃g,f=h++g/\XJ (λj=>h.length<=j) (h++g) 9 ZX.cells d l):=by
 refine QZ func64 ntmps64 results64 λe w m a=>?_;simp only[go_sem,Qa];refine Qhs xB (by simp only[go_sem];rfl) rfl rfl λb k=>?_;cases b with
 | true=>
  have c:=k rfl;simp only[go_sem,Oi]at c;apply QC a;exact⟨[],(Jl h).symm,.inl ⟨rfl,G0.1 c⟩⟩
 | false=>
  apply QC a;refine⟨ω,_,rfl,.inr ⟨h.length,_,_,rfl,QB _,JZ rfl,λi o=>?_⟩⟩;rw[zM (KF _)];rfl
def QxS(r:ZX):(SL r.want r.mask==r.want)=(vA r.DS r.wo==r.DS&&(vA r.DT r.wu==r.DT&&(vA r.DU r.A1==r.DU&&vA r.A3 r.yK==r.A3))):=by
 rw[<- Bool.and_true (vA r.A3 r.yK==r.A3)];rfl
structure zE (h H:List Ob) (l:List ZX) (k p:Nat) (dr:D) (le:Nat) (dm:D) (c:Nat) (es:List Xg) (ms:List Nat):Prop where
 ex:KN h H
 o:H[p]? = some (EN dr le dm)
 eo:H[le]? = some (kN c es)
 rs:XJ (λj=>h.length<=j) H 9 ZX.cells dr l
 mo:XJ (λj=>h.length<=j) H 1 (λi:Nat=>[Qb i]) dm ms
 hp:h.length<=p
 he:h.length<=le
 I:Yl l k es ms
 ok:∀j,j<k->x7 (Ju l j)=true
def zE.app{h H}{l}{k p}{i}{e}{m}{c}{f}{d}(N:zE h H l k p i e m c f d)(g):zE h (H++g) l k p i e m c f d:=
 ⟨N.ex.app g,(QG (Qc N.o)).trans N.o,(QG (Qc N.eo)).trans N.eo,N.rs.step λj a b=>⟨b,QG a⟩,N.mo.step λj a b=>⟨b,QG a⟩,N.hp,N.he,N.I,N.ok⟩
def zE.next{h H}{l}{k p}{m}{d}{F}{c}{E}{s}(N:zE h H l k p m d F c E s){b:List Ob}{f}{r}{a}{e}(t:KN h b)(u:b[p]? = some (EN m d f))(x:b[d]? = some (kN r a))
  (w:∀(j:Nat) (o:Ob),H[j]? = some o->o.kd=.arr->o.sz=9->b[j]? = some o) (v:XJ (λj=>h.length<=j) b 1 (λi:Nat=>[Qb i]) f e) (I:Yl l (k+1) a e) (J:∀j,j<k+1->x7 (Ju l j)=true):zE h b l (k+1) p m d f r a e:=
 ⟨t,u,x,N.rs.imp id λ⟨q,g,n,C,B,z,y⟩=>⟨q,g,n,C,B,w q _ z rfl rfl,y⟩,v,N.hp,N.he,I,J⟩
def x9{H:List Ob}{a b:Nat}{o c:Ob}(d:H[a]? = some o)(f:H[b]? = some c)(h:o.kd≠c.kd\/o.sz≠c.sz):a≠b:=λe=>by
 rw[e,f]at d;cases d;rcases h with h|h<;>exact h rfl
def zE.wo{h H}{l}{k p}{d}{a}{c}{f}(N:zE h H l k p d a .nil c f [])(g:qw (Ju l k)=false)(q:∀j,j<k+1->x7 (Ju l j)=true)(o):
  zE h (H.set p (EN d a (.ref (H.length+2) 0 0 1))++[o,⟨.arr,0,1,1,λ_=>[Qb k]⟩,⟨.arr,0,1,1,λ_=>[Qb k]⟩]) l (k+1) p d a (.ref (H.length+2) 0 0 1) c f ([]++[k]):=by
 have hp:=Qc N.o;have n:p≠a:=x9 N.o N.eo (.inl nofun);refine N.next ((N.ex.set N.hp _).app _) ?_ ?_ (λj o b m r=>?_) (.inr ⟨H.length+2,0,λ_=>[Qb k],rfl,by have:=N.ex.len;omega,Vj (k:=2) σ,λi e=>?_⟩) (N.I.mask g) q
 .rw[QG (by simpa using hp),Qv hp]
 .rw[QG (by simpa using Qc N.eo),Qm n];exact N.eo
 .rw[QG (by simpa using Qc b),Qm (x9 N.o b (.inl (by rw[m];nofun)))];exact b
 .simp at e;subst e;rfl
def zE.wu{h H:List Ob}{l}{k p}{q}{e}{c}{r}{a:List Nat}{b g}{d}(N:zE h H l k p q e (.ref b g 0 a.length) c r a)(s:h.length<=b)(m:H[b]? = some ⟨.arr,g,1,a.length,d⟩)(z:∀i,i<a.length->d i=[Qb ((a.getD i default:Nat):Int)])
  (v:qw (Ju l k)=false) (F:∀j,j<k+1->x7 (Ju l j)=true) (o u:Ob) :
  zE h ((H.set b ⟨.arr,g+1,1,a.length+1,J7 a.length 0 d λ_=>[Qb k]⟩).set p (EN q e (.ref b (g+1) 0 (a.length+1)))++[o,u]) l (k+1) p q e (.ref b (g+1) 0 (a.length+1)) c r (a++[k]):=by
 have hp:=Qc N.o;have t:=Qc m;have C:p≠e:=x9 N.o N.eo (.inl nofun);have E:b≠p:=x9 m N.o (.inl nofun);have B:b≠e:=x9 m N.eo (.inl nofun);refine N.next (((N.ex.set s _).set N.hp _).app _) ?_ ?_ (λj o n y x=>?_) (.inr ⟨b,g+1,J7 a.length 0 d λ_=>[Qb k],σ,s,?_,λi w=>?_⟩) (N.I.mask v) F
 .rw[QG (by simpa using hp),Qv (by simpa using hp)]
 .rw[QG (by simpa using Qc N.eo),Qm C,Qm B];exact N.eo
 .rw[QG (by simpa using Qc n),Qm (x9 N.o n (.inl (by rw[y];nofun))),Qm (x9 m n (.inr (by rw[x];show (1:Nat)≠9;decide)))];exact n
 .rw[QG (by simpa using t),Qm (Q1 E),Qv t];simp
 .simp at w;by_cases f:i<a.length
  .rw[xn f,Jv,z i f];simp[f,JD f]
  .have:i=a.length:=ω;subst this;rw[zM (QB _)];simp
def zE.new{h H}{l}{k p:Nat}{r}{f}{s}{c}{e}{m}(N:zE h H l k p r f s c e m)(u:qw (Ju l k)=true)(v:WO e (Ju l k).want=none)(y:∀j,j<k+1->x7 (Ju l j)=true)(o):
  zE h (H.set f (kN (c+1) (e++[⟨(Ju l k).want,Qb k,c⟩]))++[o]) l (k+1) p r f s (c+1) (e++[⟨(Ju l k).want,Qb k,c⟩]) m:=by
 have n:=Qc N.eo;have keep:∀(j:Nat) (a:Ob),H[j]? = some a->a.kd≠.map->(H.set f (kN (c+1) (e++[⟨(Ju l k).want,Qb k,c⟩]))++[o])[j]? = some a:=λj a b d=>by
  rw[QG (by simpa using Qc b),Qm (x9 N.eo b (.inl (Q1 d)))];exact b
 refine N.next ((N.ex.set N.he _).app _) (keep _ _ N.o nofun) ?_ (λj a b d q=>keep j a b (by rw[d];nofun)) (N.mo.imp id λ⟨t,g,i,d,q,x,w⟩=>⟨t,g,i,d,q,keep _ _ x nofun,w⟩) (N.I.new u v c) y;rw[QG (by simpa using n),Qv n]
def Qht(h)(l:List ZX)(hl:l.length<1000000):
  QI prog 37 h [We l] (λd h'=>∃g,h'=h++g/\(YN l=0->∃p,d=.tup [.ptr p 0 0 0,Qb 0]/\GM (λj=>h.length<=j) (h++g) p l)/\(YN l≠0->d=.tup [.raw (.pointer none),Qb (YN l)])):=by
 by_cases CE:32<l.length
 .have d0:decide ((32:Int)<(l.length:Int))=true:=Q3 ω;have e:YN l=2:=by unfold YN;rw[Qf CE]
  rw[e];refine QZ func37 ntmps37 results37 λP w pl a=>?_;simp only[go_sem,Qa,d0];exact⟨[],(Jl h).symm⟩
 .have d0:decide ((32:Int)<(l.length:Int))=false:=QS ω;refine QZ func37 ntmps37 results37 λP w pl a=>?_;simp only[go_sem,Qa,d0];refine Jb a QbX (QxR h l hl) λd h1 hR=>?_;obtain⟨t,rfl,V⟩:=hR;have L:=uh .i64;simp only[QM]at L;have O:XN d=some [d]:=by rcases V with ⟨rfl,_⟩|⟨_,_,_,rfl,_⟩<;>rfl
  have M:d.Vi=true:=by rcases V with ⟨rfl,_⟩|⟨_,_,_,rfl,_⟩<;>rfl
  apply Qg a;simp only[go_sem,Qa,O,M];obtain⟨H,J⟩:∃H,H=h++(t++[QM .i64 0 [],EN d (h.length+t.length) .nil]):=⟨_,rfl⟩;have N0:zE h H l 0 (h.length+(t.length+1)) d (h.length+t.length) .nil 0 [] []:=by
   rw[<- Wx]at J;subst J;refine⟨((KN.refl h).app t).app _,?_,?_,V.step λj f h1=>⟨h1,QG f⟩,.inl ⟨rfl,rfl⟩,ω,ω,Yl.nil l,λj f=>absurd f (XL j)⟩
   .rw[show h.length+(t.length+1)=(h++t).length+1 by simp;omega];exact Vj (k:=1) rfl
   .rw[<- uh .i64,show h.length+t.length=(h++t).length by simp];exact JZ rfl
  simp only[go_sem]at J;rw[<- J];obtain⟨p,hp⟩:∃p,p=h.length+(t.length+1):=⟨_,rfl⟩;rw[<- hp]at N0 ⊢;clear J;refine Z4 (λk s=>∃H S Q T c K m,zE h H l k p S Q T c K m/\s=⟨[(4,.ptr p 0 0 0),(17,We l),(18,Qb l.length),(19,Qb k)],H⟩) l.length QN ⟨H,_,_,_,_,_,_,N0,rfl⟩ ?_;clear N0 V O M L H hp d t;rintro k _ hk ⟨H,S,Q,T,c,K,m,N,rfl⟩;by_cases u:k<l.length
  .have E:=Q3 u;obtain⟨r,i⟩:∃r,r=Ju l k:=⟨_,rfl⟩;have W:l.getD k default=r:=i.symm;have WH:r∈l:=by rw[i];exact za l default k u
   have F:=KJ (show k<4611686018427387904 from ω);have n:=N.o;have x:=Qc n;have R:=N.eo;have Zx:=Qc R;have h4:=N.I.four;have C:=QxS r;have B:x7 r=false->YN l=1:=λa=>by
    unfold YN;rw[Qe CE,Qe];intro JX;have:=YS.1 JX r WH;rw[a]at this;cases this
   have U:=Qho r.DS r.DT r.DU r.A3 r.wo r.wu r.A1 r.yK;by_cases c1:r.cls<1
   .have d1:=Q3 c1;rw[B (by unfold x7;rw[QS (show ¬1<=r.cls from ω)];rfl)];apply Qg a;simp only[go_sem,Qa,E,u,W];apply Qw a o05;simp only[go_sem,Qa,d1,Go.undef];exact N.ex.app _
   have d1:=QS c1;by_cases c2:65536<r.cls
   .have d2:=Q3 c2;rw[B (by unfold x7;rw[QS (show ¬r.cls<=65536 from ω),Bool.and_false];rfl)];apply Qg a;simp only[go_sem,Qa,E,u,W];apply Qw a o05;simp only[go_sem,Qa,d1,d2,Go.undef];exact N.ex.app _
   have d2:=QS c2;cases Z:SL r.want r.mask==r.want with
   | false=>
    rw[B (by unfold x7;rw[Z,Bool.and_false])];rw[Z]at C;apply Qg a;simp only[go_sem,Qa,E,u,W];apply Qw a o05;simp only[go_sem,Qa,d1,d2,Go.undef];refine KK a iL ?_ U ?_
    .simp only[go_sem,Qa,d1,d2,<- C]
    apply Q7 a;simp only[go_sem,Qa,d1,d2,<- C];exact N.ex.app _
   | true=>
    rw[Z]at C;have JF:∀j,j<k+1->x7 (Ju l j)=true:=λj f=>by
     rcases vK.1 f with h5|rfl
     .exact N.ok j h5
     .rw[<- i];unfold x7;rw[Z,Q3 (show 1<=r.cls from ω),Q3 (show r.cls<=65536 from ω)];rfl
    obtain⟨q,hq⟩:∃q,q=WO K r.want:=⟨_,rfl⟩;have Y:=hq;simp only[ZX.want]at Y;have I:qw r=(r.wo==65535&&(r.wu==65535&&(r.A1==65535&&r.yK==65535))):=rfl;obtain⟨b,y⟩:∃b,b=qw r:=⟨_,rfl⟩;rw[<- y]at I;apply Qg a;simp only[go_sem,Qa,E,u,W];apply Qw a o05;simp only[go_sem,Qa,d1,d2,Go.undef];refine KK a iL ?_ U ?_
    .simp only[go_sem,Qa,d1,d2,<- C]
    apply Q7 a;simp only[go_sem,Qa,d1,d2,<- C];cases q with
    | none=>
     apply Qw a [0,1,2,3,4,5,6,7,8,9,10,11];simp only[go_sem,Qa,n,x,R,Zx,<- Y];refine⟨h4,?_⟩;apply Qw a [0,1,1002,3,4];simp only[go_sem,Qa];refine KK a QbY ?_ Qhn ?_
     .simp only[go_sem,Qa,<- I]
     apply Q7 a;simp only[go_sem,Qa,<- I];cases b with
     | false=>
      rcases N.mo with ⟨rfl,rfl⟩|⟨lm,gm,r5,rfl,Cy,v,qg⟩
      .have o:=N.wo (by rw[<- i,<- y]) JF ⟨.one,0,9,1,λ_=>r.cells⟩;simp only[go_sem,Qa,n,x];refine⟨u,_,QF.frame (fr':=[(4,.ptr p 0 0 0),(17,We l),(18,Qb l.length),(19,Qb (k+1:Nat))]) (by simp only[go_sem,F]),_,_,_,_,_,_,_,o,rfl⟩
      .have o:=N.wu Cy v qg (by rw[<- i,<- y]) JF ⟨.one,0,9,1,λ_=>r.cells⟩ ⟨.arr,0,1,1,λ_=>[Qb k]⟩;have QJ:=Qc v;have El:lm≠p:=x9 v n (.inl nofun);have sf:m.length<=4294967295:=by
        have:=inc_le m k 0 N.I.inc λj f=>⟨KF j,((N.I.mem j).1 f).1⟩;omega
       have sg:m.length+1<=4294967295:=by
        have:=inc_le m k 0 N.I.inc λj f=>⟨KF j,((N.I.mem j).1 f).1⟩;omega
       simp only[go_sem,Qa,n,x,v,QJ,Qm El,sf,sg];repeat (refine And.intro δ ?_)
       refine⟨_,QF.frame (fr':=[(4,.ptr p 0 0 0),(17,We l),(18,Qb l.length),(19,Qb (k+1:Nat))]) (by simp only[go_sem,F]),_,_,_,_,_,_,_,o,rfl⟩
     | true=>
      simp only[go_sem,Qa,n,x];apply Qw a ut;simp only[go_sem,Qa,n,x,R,Zx,<- Y];have o:=N.new (by rw[<- i,<- y]) (by rw[<- i];exact hq.symm) JF ⟨.one,0,9,1,λ_=>r.cells⟩;rw[<- i]at o;refine⟨h4,u,_,QF.frame (fr':=[(4,.ptr p 0 0 0),(17,We l),(18,Qb l.length),(19,Qb (k+1:Nat))]) (by simp only[go_sem,F]),_,_,_,_,_,_,_,o,rfl⟩
    | some d=>
     apply Qw a [0,1,2,3,4,5,6,7,8,9,10,11];simp only[go_sem,Qa,n,x,R,Zx,<- Y];refine⟨h4,?_⟩;apply Qw a [0,1,1002,3,4];simp only[go_sem,Qa];refine KK a QbY ?_ Qhn ?_
     .simp only[go_sem,Qa,<- I]
     apply Q7 a;simp only[go_sem,Qa,<- I];cases b with
     | false=>
      rcases N.mo with ⟨rfl,rfl⟩|⟨lm,gm,r5,rfl,Cy,v,qg⟩
      .have o:=N.wo (by rw[<- i,<- y]) JF ⟨.one,0,9,1,λ_=>r.cells⟩;simp only[go_sem,Qa,n,x];refine⟨u,_,QF.frame (fr':=[(4,.ptr p 0 0 0),(17,We l),(18,Qb l.length),(19,Qb (k+1:Nat))]) (by simp only[go_sem,F]),_,_,_,_,_,_,_,o,rfl⟩
      .have o:=N.wu Cy v qg (by rw[<- i,<- y]) JF ⟨.one,0,9,1,λ_=>r.cells⟩ ⟨.arr,0,1,1,λ_=>[Qb k]⟩;have QJ:=Qc v;have El:lm≠p:=x9 v n (.inl nofun);have sf:m.length<=4294967295:=by
        have:=inc_le m k 0 N.I.inc λj f=>⟨KF j,((N.I.mem j).1 f).1⟩;omega
       have sg:m.length+1<=4294967295:=by
        have:=inc_le m k 0 N.I.inc λj f=>⟨KF j,((N.I.mem j).1 f).1⟩;omega
       simp only[go_sem,Qa,n,x,v,QJ,Qm El,sf,sg];repeat (refine And.intro δ ?_)
       refine⟨_,QF.frame (fr':=[(4,.ptr p 0 0 0),(17,We l),(18,Qb l.length),(19,Qb (k+1:Nat))]) (by simp only[go_sem,F]),_,_,_,_,_,_,_,o,rfl⟩
     | true=>
      simp only[go_sem,Qa,n,x];have z:=N.app [⟨.one,0,9,1,λ_=>r.cells⟩];have o:zE h (H++[⟨.one,0,9,1,λ_=>r.cells⟩]) l (k+1) p S Q T c K m:=⟨z.ex,z.o,z.eo,z.rs,z.mo,z.hp,z.he,N.I.there (by rw[<- i,<- y]) (by rw[<- i,<- hq];rfl),JF⟩;refine⟨u,_,QF.frame (fr':=[(4,.ptr p 0 0 0),(17,We l),(18,Qb l.length),(19,Qb (k+1:Nat))]) (by simp only[go_sem,F]),_,_,_,_,_,_,_,o,rfl⟩
  .have ZD:k=l.length:=ω;have E:=QS u;subst ZD;have L:YN l=0:=by
    unfold YN;rw[Qe CE,Qf];rw[YS];intro r i;obtain⟨j,f,e⟩:=yh i;have:=N.ok j f;unfold Ju at this;rw[Q5,QP f]at this;rw[<- e];exact this
   apply Qg a;simp only[go_sem,Qa,E];apply QC a;obtain⟨g,rfl⟩:=N.ex;refine⟨g,rfl,λ_=>⟨p,rfl,S,Q,T,c,K,m,N.o,N.eo,N.rs,N.mo,N.hp,N.he,N.I,L⟩,λh=>absurd L h⟩
@[go_sem] def An(d:D):Ob:=⟨.one,0,1,1,λ_=>[d]⟩
structure qY (n:Nat) (own:Nat->Tag) (tw:Nat->TT) (h:List Ob) (bp bo op:Nat) (L:List Ev):Prop where
 hp:h[bp]? = some (An (Qb op))
 ho:∃d,h[bo]? = some (An d)/\XJ (λl=>n<=l/\own l=.no/\tw l=.no/\l≠bp/\l≠bo) h 12 Ev.cells d L
 np:n<=bp
 no:n<=bo
 op:own bp=.no
 oo:own bo=.no
 tp:tw bp=.no
 to:tw bo=.no
 ne:bp≠bo
def qY.ya{n}{i g}{o u}{h r:List Ob}{s t p}{L}(E:qY n i o h s t p L)(D:Z9 h.length i o h g u r):qY n g u r s t p L:=by
 obtain⟨d,q,v⟩:=E.ho;have k:=Qc E.hp;have l:=Qc q;exact⟨(D.keep _ k E.op E.tp).trans E.hp,⟨d,(D.keep _ l E.oo E.to).trans q,v.step λj m ⟨a,b,c,e,f⟩=>⟨⟨a,(D.s1 j m).trans b,(D.s2 j m).trans c,e,f⟩,D.keep j m b c⟩⟩,E.np,E.no,(D.s1 _ k).trans E.op,(D.s1 _ l).trans E.oo,(D.s2 _ k).trans E.tp,(D.s2 _ l).trans E.to,E.ne⟩
def Z9.Xh{m n}{b a}{c e}{h d}(f:m<=n)(D:Z9 n b c h a e d):Z9 m b c h a e d:=⟨D.s1,D.s2,λl g=>D.keep l (kv g f),D.my,D.len⟩
def QxT{n}{a}{c}{h i:List Ob}{m d}(r:n<=m)(q:a m=.no)(p:c m=.no)(b:d<h.length->n<=d/\a d=.no/\c d=.no)(s:n<=h.length)(o:h.length<=i.length)
  (k:∀j,j<h.length->j≠m->j≠d->i[j]? = h[j]?):Z9 n a c h (QV a h .no) (Z5 c h .no) i/\eN a c h (QV a h .no) (Z5 c h .no) i:=by
 refine⟨⟨λl b=>Ku b,λl b=>Kw b,λl t _ _=>k l ω ω λe=>?_,λl Qc g=>k l Qc (λe=>by rw[e,p]at g;cases g) λe=>?_,o⟩,λl Qc=>⟨λf=>⟨Ku Qc,k l Qc (λe=>f.1 (by rw[e,q])) λe=>?_⟩,λf _=>⟨Kw Qc,k l Qc (λe=>f (by rw[e,p])) λe=>?_⟩⟩⟩
 .have:=(b ω).1;omega
 .rw[e,(b ω).2.2]at g;cases g
 .exact f.1 (by rw[e];exact(b ω).2.1)
 .exact f (by rw[e];exact(b ω).2.2)
def si{a}{b}{h}(e:∀l,b l≠.no->a l=.no):∀l,Z5 b h .no l≠.no->QV a h .no l=.no:=λl c=>by
 by_cases d:l<h.length
 .rw[Kw d]at c;rw[Ku d];exact e l c
 .exact km ω
def Qhw{n}{a}{f}{h:List Ob}{s p c}{L:List Ev}(E:qY n a f h s p c L)(V:n<=h.length)(hL:L.length<1000000000)(e:Ev):
  QI prog 34 h [.agg e.cells,.ptr s 0 0 0,.ptr p 0 0 0] (λd m=>d=.tup []/\qY n (QV a h .no) (Z5 f h .no) m s p c (L++[{ e with op:=c }])/\Z9 n a f h (QV a h .no) (Z5 f h .no) m/\eN a f h (QV a h .no) (Z5 f h .no) m):=by
 have q:=E.hp;obtain⟨d,v,W⟩:=E.ho;have t:=E.ne;have C:=Qc q;have r:=Qc v;have b:∀(m:List Ob) (H:D) (o:Nat),m[s]? = some (An (Qb c))->m[p]? = some (An H)->XJ (λl=>n<=l/\QV a h .no l=.no/\Z5 f h .no l=.no/\l≠s/\l≠p) m 12 Ev.cells H (L++[{ e with op:=c }])->(o<h.length->n<=o/\a o=.no/\f o=.no)->h.length<=m.length ->
   (∀j,j<h.length->j≠p->j≠o->m[j]? = h[j]?)->qY n (QV a h .no) (Z5 f h .no) m s p c (L++[{ e with op:=c }])/\Z9 n a f h (QV a h .no) (Z5 f h .no) m/\eN a f h (QV a h .no) (Z5 f h .no) m:=λm H o a1 a2 a3 a4 a5 Z=>
  ⟨⟨a1,⟨H,a2,a3⟩,E.np,E.no,(Ku C).trans E.op,(Ku r).trans E.oo,(Kw C).trans E.tp,(Kw r).trans E.to,E.ne⟩,QxT E.no E.oo E.to a4 V a5 Z⟩
 rcases W with ⟨rfl,rfl⟩|⟨o,g,x,rfl,⟨R,Q,P,I,z⟩,J,U⟩
 .have b:=b (h.set p (An (.ref (h.length+2) 0 0 1))++[⟨.one,0,12,1,λ_=>({ e with op:=c }:Ev).cells⟩,⟨.arr,0,12,1,λ_=>({ e with op:=c }:Ev).cells⟩,⟨.arr,0,12,1,λ_=>({ e with op:=c }:Ev).cells⟩]) (.ref (h.length+2) 0 0 1) h.length
   (by rw[QG (by simpa using C),Qm t.symm];exact q) (by rw[QG (by simpa using r),Qv r])
   (.inr ⟨h.length+2,0,λ_=>({ e with op:=c }:Ev).cells,rfl,⟨ω,km ω,kj ω,ω,ω⟩,Vj (k:=2) σ,λi F=>by
    simp at F;subst F;rfl⟩) (λh=>absurd h (G4 _)) σ (λj K M S=>by rw[QG (by simpa using K),Qm (Q1 M)])
  refine QZ func34 ntmps34 results34 λy w T Y=>?_;have O:=Qc q;have N:=Qc v;simp only[go_sem,Qa,q,O,v,N,t,t.symm];simp only[go_sem]at b ⊢;exact b
 .have u:=Qc J;have SC:L.length<=4294967295:=ω;have SE:L.length+1<=4294967295:=ω;have b:=b ((h.set o ⟨.arr,g+1,12,L.length+1,J7 L.length 0 x λ_=>({ e with op:=c }:Ev).cells⟩).set p (An (.ref o (g+1) 0 (L.length+1)))++[⟨.one,0,12,1,λ_=>({ e with op:=c }:Ev).cells⟩,⟨.arr,0,12,1,λ_=>({ e with op:=c }:Ev).cells⟩]) (.ref o (g+1) 0 (L.length+1)) o
   (by rw[QG (by simpa using C),Qm t.symm,Qm I];exact q) (by rw[QG (by simpa using r),Qv (by simpa using r)])
   (.inr ⟨o,g+1,J7 L.length 0 x λ_=>({ e with op:=c }:Ev).cells,σ,⟨R,(Ku u).trans Q,(Kw u).trans P,I,z⟩,by rw[QG (by simpa using u),Qm z.symm,Qv u];simp,λi F=>by
    simp at F;by_cases B:i<L.length
    .rw[xn B,Jv,U i B];simp[B,JD B]
    .have:i=L.length:=ω;subst this;rw[zM (QB _)];simp⟩) (λ_=>⟨R,Q,P⟩) σ (λj K M S=>by rw[QG (by simpa using K),Qm (Q1 M),Qm (Q1 S)])
  refine QZ func34 ntmps34 results34 λy w T Y=>?_;have O:=Qc q;have N:=Qc v;have u:=Qc J;simp only[go_sem,Qa,q,O,v,N,J,u,t,t.symm,I,z,Qm z,SC,SE];simp only[go_sem]at b ⊢;repeat (refine And.intro δ ?_)
  exact b
def QxU{l}{n}{h}{p}{S}(T:Ww l n h p S):QR prog 71 h [.ptr p 0 0 0] (λd=>d=u64 (ZQ S)):=by
 obtain⟨u,o,x,t,T⟩:=T;have g:=ZG T.o;obtain⟨a,b,c,i⟩:=T.ln;have i:=ZG i;obtain⟨L,C⟩:=T.co.ex;have k:=Qgl C.ro T.co.I;have r:=λ(F:List Ob) (f:F=h.map Ob.ro)=>Qhl (h:=F) (Js f _ _ i);have k:=λ(F:List Ob) (f:F=h.map Ob.ro)=>Qgl (C.ro.more (Js f)) T.co.I;clear T C;unfold ZQ;obtain⟨v,q⟩:∃v,v=K7 S.M:=⟨_,rfl⟩;rw[<- q]at k ⊢;refine Zk func71 ntmps71 results71 λm w o F f y e=>?_;rw[<- f]at g i;have j:=Qc g;have s:=Qc i;simp only[go_sem,Qa,g,j,i,s];apply Qw e [0,1,2,3,4,5,6,7,9,10,11,12,1008,1013,1014,15];simp only[go_sem,Qa,g,j];apply V0 e QbT (r F f);apply Q7 e;simp only[go_sem,Qa,g,j];apply V0 e Qop (k F f);apply Q7 e;simp only[go_sem,Qa,g,j];apply MI e Qoo (QxH S.Qi S.Jt v);apply Xy e;all_goals exact KY
def Qhx{n}{o}{x}{h:List Ob}{p}{S}(T:Ww o x h p S)(V:Jd S){bp bo s}{L:List Ev}(E:qY n o x h bp bo s L)(C:n<=h.length)(hL:L.length<100000000):
  QI prog 70 h [.ptr p 0 0 0,u64 S.Qi,.clo 34 0 [.ptr bp 0 0 0,.ptr bo 0 0 0]] (λd F=>d=.tup []/\∃r ZO,Ww r ZO F p (J9 S s S.Qi).1/\qY n r ZO F bp bo s (L++(J9 S s S.Qi).2)/\Z9 n o x h r ZO F):=by
 obtain⟨ps,lp,pr,pt,T⟩:=T;have z:=T.o;obtain⟨a,b,c,hl⟩:=T.ln;have eV:=rX (ZG hl) S.Qi;by_cases hu:S.Jt<=S.Qi
 .have du:=Q3 hu;rw[du]at eV;refine QZ func70 ntmps70 results70 λU w pl i=>?_;have J:=Qc z;simp only[go_sem,Qa,z,J];apply ZA i aO eV;apply Qg i;simp only[go_sem,Qa,z,J];refine A4 i Qol (QwV T.co S.Qi) λd f y=>?_;obtain⟨rfl,P,C1,D1⟩:=y;have T1:=T.core D1 C1 (SM S.M S.Qi);have O:Z9 h.length o x h P (Z5 x h .no) f:=Z9.core T.ap (QB _) D1;obtain⟨Vf,a7⟩:∃t,t=Z5 x h .no:=⟨_,rfl⟩;rw[<- a7]at T1 O;have E1:=E.ya O;have dS:=O.len;obtain⟨j,hj⟩:∃j,j=vz S.M S.Qi:=⟨_,rfl⟩;obtain⟨k,Y⟩:∃k,k=qU S.M S.Qi:=⟨_,rfl⟩;obtain⟨b,yn⟩:∃b,b=GK S.M S.Qi:=⟨_,rfl⟩;cases ht:qv S.M S.Qi with
  | false=>
   have e:J9 S s S.Qi=({ S with M:=takeN S.M S.Qi },[]):=by unfold J9;rw[Qe ω,Qe (by rw[ht];exact vF)]
   rw[e,<- hj,<- Y,<- yn];apply QC i;have u:=T1.x8 [⟨.one,0,8,1,λ_=>qq j k b⟩];have v:=Z9.app (n:=f.length) P Vf f [⟨.one,0,8,1,λ_=>qq j k b⟩] .my (QB _);exact⟨_,_,⟨_,_,_,_,u⟩,E1.ya v,(O.Xh C).trans C (v.Xh ω)⟩
  | true=>
   have m:=V.take_len ht;have kH:=eJ V.K m;rw[<- Y]at m kH;have Cy:=V.K.l2;have Z1:=V.cl;obtain⟨done,Q⟩:∃d,d=S.Qi+CV S.M.lk k.len:=⟨_,rfl⟩;have e:J9 S s S.Qi=({ S with M:=takeN S.M S.Qi,Jt:=done,st:=YM S.st j done k.len b },[Oc s b S.Qi done j k]):=by
    unfold J9;rw[Qe ω,Qf ht,<- Y,<- Q,<- hj,<- yn]
   rw[e,<- hj,<- Y,<- yn];have u:=T1.x8 [⟨.one,0,8,1,λ_=>qq j k b⟩];have v:=O.trans (QB _) ((Z9.app (n:=f.length) P Vf f [⟨.one,0,8,1,λ_=>qq j k b⟩] .my (QB _)).Xh dS);have E2:=E.ya v;have H:(f++[(⟨.one,0,8,1,λ_=>qq j k b⟩:Ob)])[f.length]? = some ⟨.one,0,8,1,λ_=>qq j k b⟩:=JZ rfl;have n2:QV P f .no f.length=.no:=km (QB _);have m2:Z5 Vf f .my f.length=.my:=kj (QB _);apply QC i;obtain⟨q,Ol⟩:∃q,q=f++[(⟨.one,0,8,1,λ_=>qq j k b⟩:Ob)]:=⟨_,rfl⟩;rw[<- Ol]at u v E2 H;simp only[go_sem,qq]at Ol;rw[<- Ol];clear Ol;generalize QV P f .no=JM at u v E2 n2;generalize Z5 Vf f .my=VW at u v E2 m2;have Kz:=u.o;have Yi:=Qc Kz;have W:=Qc H;obtain⟨a2,b2,c2,Z7⟩:=u.ln;have V7:(takeN S.M S.Qi).lk=S.M.lk:=SM S.M S.Qi;have Z:=QxD q Z7 (by show 1<=(takeN S.M S.Qi).lk.t;rw[V7];exact V.K.t1) (by show (takeN S.M S.Qi).lk.t<=65536;rw[V7];exact V.K.t2) Z1 hu k ⟨m.1,ω⟩;have a6:S.Qi+k.len.toNat*(takeN S.M S.Qi).lk.t.toNat=done:=by rw[V7,Q];rfl
   have Z:QI prog 106 q [.ptr lp 0 0 0,u64 S.Qi,.agg k.cells] (λd F=>d=.tup [u64 done,Qb 0]/\∃a' b' c' g,F=q.set lp (qX a' b' c' (takeN S.M S.Qi).lk.t done)++g):=by
    rw[<- a6];exact Z
   simp only[go_sem,qq]at H;apply KX [7] i [0,1,2,3,4,5,6,1007,8,9,10,11,12] [];simp only[go_sem,Qa,Kz,Yi,H,W];refine kW i Qom Z λd B y=>?_;obtain⟨rfl,a3,b3,c3,g3,SS⟩:=y;have a0:=u.tl;have s3:Step (λl=>VW l=.ln) q B:=by
    rw[SS];exact⟨λl hl QA=>by rw[QG (by simpa using hl),Qm (λe=>QA (by rw[<- e];exact a0))],σ⟩
   have MZ:B[lp]? = some (qX a3 b3 c3 (takeN S.M S.Qi).lk.t done):=by rw[SS,QG (by simpa using Qc Z7),Qv (Qc Z7)]
   have I:=u.link s3 MZ;have N:=v.trans (QB _) ((Z9.part (n:=q.length) (own:=JM) (t:=.ln) ⟨σ,σ⟩ (QB _) s3).Xh v.len);have E3:=E.ya N;have qp:B[f.length]? = some _:=(s3.keep _ W (by rw[m2];simp)).trans H;have n3:QV JM q .no f.length=.no:=(Ku W).trans n2;have m3:Z5 VW q .ln f.length=.my:=(Kw W).trans m2;clear SS Z;generalize QV JM q .no=j6 at I N E3 n3;generalize Z5 VW q .ln=BC at I N E3 m3;have WY:=I.o;have zy:=Qc WY;have R:=Qc qp;apply Xy i;have a5:=QxL I.st j (done:=done) ω (bytes:=k.len) m.1 ω b;apply KX [12] i [0,1,2,3,4,5,6,7,8,9,10,11,1012] [];simp only[go_sem,Qa,WY,zy,qp,R];refine kW i Qon a5 λd h4 y=>?_;obtain⟨s4,sj⟩:=y;have T4:=I.stat s4 sj;have K:=N.trans (QB _) ((Z9.part (n:=B.length) (own:=j6) (t:=.st) ⟨σ,σ⟩ (QB _) s4).Xh N.len);have E4:=E.ya K;have y6:h4[f.length]? = some _:=(s4.keep _ R (by rw[m3];simp)).trans qp;generalize QV j6 B .no=Sq at T4 K E4;generalize Z5 BC B .st=ss at T4 K E4;have a4:=Qc y6;apply Q7 i;simp only[go_sem,Qa,y6,a4];have SF:n<=h4.length:=K9 C K.len;refine Vo i QbS rfl ?_ (Qhw E4 SF ω (Oc 0 b S.Qi done j k)) rfl λd h5 y=>?_
   .simp only[go_sem,Oc]
   obtain⟨rfl,E5,K5,a1⟩:=y;have T5:=T4.step a1 (si T4.ap);have vS:({ Oc 0 b S.Qi done j k with op:=(s:Int) }:Ev)=Oc s b S.Qi done j k:=rfl;rw[vS]at E5;apply QC i;exact⟨_,_,⟨_,_,_,_,T5⟩,E5,(K.Xh C).trans C K5⟩
 .have du:=QS hu;rw[du]at eV;have e:J9 S s S.Qi=(S,[]):=by unfold J9;rw[Qf ω]
  rw[e];refine QZ func70 ntmps70 results70 λU w pl i=>?_;have J:=Qc z;simp only[go_sem,Qa,z,J];apply ZA i aO eV;apply Qg i;simp only[go_sem,Qa,z,J];exact⟨o,x,⟨_,_,_,_,T⟩,E,Z9.refl n o x h⟩
@[go_sem] def kh.cells(r:kh):List D:=[Qb r.err,Qb r.place,Qb r.cls]
def qY.loc{n}{a}{f}{h:List Ob}{b c i}{L}(E:qY n a f h b c i L){l}{j:Ob}(p:h[l]? = some j)(q:j.kd≠.arr)(s:l≠b)(r:l≠c)(o):qY n a f (h.set l o) b c i L:=by
 obtain⟨d,x,w⟩:=E.ho;exact⟨by rw[Qm s];exact E.hp,⟨d,by rw[Qm r];exact x,w.imp id λ⟨m,g,e,v,u,k,t⟩=>⟨m,g,e,v,u,by rw[Qm (x9 p k (.inl q))];exact k,t⟩⟩,E.np,E.no,E.op,E.oo,E.tp,E.to,E.ne⟩
def Z9.CG{n}{b a}{e f}{h H:List Ob}(D:Z9 n b e h a f H){l}(k:n<=l)(i:h.length<=l)(o):Z9 n b e h a f (H.set l o):=⟨D.s1,D.s2,λj d c g=>by rw[Qm ω];exact D.keep j d c g,λj d c=>by rw[Qm ω];exact D.my j d c,by simpa using D.len⟩
def Qx1{n}{g}{K}{h:List Ob}{p}{S:ZK}(T:Ww g K h p S)(V:Jd S){bp bo f}{L:List Ev}(E:qY n g K h bp bo f L)(C:n<=h.length)(hL:L.length<10000000)(eT:∀k,(S.st.ZZ k).length<1000000)(x)(hx:SP x):
  QI prog 38 h [.ptr p 0 0 0,.agg x.cells,.clo 34 0 [.ptr bp 0 0 0,.ptr bo 0 0 0]] (λd h'=>d=.agg (zD S f x).r.cells/\∃q ZO,Ww q ZO h' p (zD S f x).S/\qY n q ZO h' bp bo f (L++(zD S f x).l)/\Z9 n g K h q ZO h'):=by
 obtain⟨ps,lp,pr,pt,T⟩:=T;have Z1:=V.cl;have s:=T.x8 [⟨.one,0,6,1,λ_=>x.cells⟩,⟨.one,0,3,1,λ_=>[Qb 0,Qb 0,Qb 0]⟩];have J:=Z9.app (n:=h.length) g K h [⟨.one,0,6,1,λ_=>x.cells⟩,⟨.one,0,3,1,λ_=>[Qb 0,Qb 0,Qb 0]⟩] .my (QB _);have E1:=E.ya J;have l:(h++[(⟨.one,0,6,1,λ_=>x.cells⟩:Ob),⟨.one,0,3,1,λ_=>[Qb 0,Qb 0,Qb 0]⟩])[h.length]? = some ⟨.one,0,6,1,λ_=>x.cells⟩:=JZ rfl;have y:(h++[(⟨.one,0,6,1,λ_=>x.cells⟩:Ob),⟨.one,0,3,1,λ_=>[Qb 0,Qb 0,Qb 0]⟩])[h.length+1]? = some ⟨.one,0,3,1,λ_=>[Qb 0,Qb 0,Qb 0]⟩:=Vj (k:=1) rfl;have N:∀i,h.length<=i->QV g h .no i=.no:=λi hi=>km hi;have m1:∀i,h.length<=i->Z5 K h .my i=.my:=λi hi=>kj hi;have dS:h.length+2=(h++[(⟨.one,0,6,1,λ_=>x.cells⟩:Ob),⟨.one,0,3,1,λ_=>[Qb 0,Qb 0,Qb 0]⟩]).length:=σ;refine QZ func38 ntmps38 results38 λb0 w pl b=>?_;simp only[go_sem,Qa];obtain⟨j,BD⟩:∃j,j=h++[(⟨.one,0,6,1,λ_=>x.cells⟩:Ob),⟨.one,0,3,1,λ_=>[Qb 0,Qb 0,Qb 0]⟩]:=⟨_,rfl⟩;rw[<- BD]at s J E1 l y dS;simp only[go_sem]at BD;rw[<- BD];clear BD;generalize QV g h .no=Je at s J E1 N;generalize Z5 K h .my=Q at s J E1 m1;have v:=s.o;have I:=Qc v;have r:=Qc l;have m:=Qc y;obtain⟨dr,le,dm,cc,es,ms,Tb⟩:=s.tb;have F:=QxN Tb.toR x hx;obtain⟨a,B⟩:∃c,c=Xa S.R (Jz x):=⟨_,rfl⟩;rw[<- B]at F;by_cases O:a=0
 .have e:zD S f x=⟨S,⟨31,0,0⟩,[]⟩:=by unfold zD;rw[Qf (by rw[<- B];exact O)]
  rw[e];rw[Qf O,O]at F;simp only[go_sem]at l;apply Qw b [0,1,2,3,4,5,1006,7,8,9,10,11];simp only[go_sem,Qa,v,I,l,r];refine Yb b QbZ ?_ F ?_
  .simp only[go_sem,Qa,v,I,l,r,y,m,Qv m]
  apply Q7 b;simp only[go_sem,Qa,v,I,l,r,y,m,Qv m];exact⟨Je,Q,⟨_,_,_,_,s.loc (N _ ω) (.inr (m1 _ ω)) _⟩,E1.loc y nofun (by have:=Qc E.hp;omega) (by obtain⟨d,j,_⟩:=E.ho;have:=Qc j;omega) _,(J.Xh C).CG ω ω _⟩
 .have nb:h.length+1≠bp/\h.length+1≠bo:=by
   obtain⟨d,j,_⟩:=E.ho;have:=Qc j;have:=Qc E.hp;omega
  rw[Qe O]at F;have P:=QwU s.co S.Qi ω a x;simp only[go_sem]at l;obtain⟨t,eX⟩:∃e,e=j7 S.M S.Qi a x:=⟨_,rfl⟩;rw[<- eX]at P;apply Qw b [0,1,2,3,4,5,1006,7,8,9,10,11];simp only[go_sem,Qa,v,I,l,r];refine Yb b QbZ ?_ F ?_
  .simp only[go_sem,Qa,v,I,l,r,y,m,Qv m]
  apply Q7 b;simp only[go_sem,Qa,v,I,l,r,y,m,Qv m];apply KX [10] b [0,1,2,3,4,5,6,7,8,9,1010,11] [];simp only[go_sem,Qa,v,I,l,r];refine kW b Qn1 P λd o H=>?_;obtain⟨rfl,z,C2,R⟩:=H;have Z:=s.core R C2 (N9 S.M S.Qi a x);have a4:Z9 j.length Je Q j z (Z5 Q j .no) o:=Z9.core s.ap (QB _) R;have K2:=J.trans (QB _) (a4.Xh J.len);have E2:=E1.ya a4;have WM:o[h.length]? = some _:=(R.keep _ r (N _ (QB _))).trans l;have JA:o[h.length+1]? = some _:=(R.keep _ m (N _ ω)).trans y;have n2:z (h.length+1)=.no:=(R.same _ m).trans (N _ ω);have b1:z h.length=.no:=(R.same _ r).trans (N _ ω);have m2:Z5 Q j .no (h.length+1)=.my:=(Kw m).trans (m1 _ ω);have a0:Z5 Q j .no h.length=.my:=(Kw r).trans (m1 _ ω);generalize Z5 Q j .no=W at Z K2 E2 m2 a0;have Kz:=Z.o;have Yi:=Qc Kz;have a2:=Qc WM;have U:=Qc JA;apply Q7 b;simp only[go_sem,Qa,Kz,Yi,WM,a2];by_cases he:t=0
  .have NL:(t != 0)=false:=by simpa using he
   have a6:Jd { S with M:=KU S.M S.Qi a x,st:=CU S.st a S.Qi }:=(V.put a x).ZZ a S.Qi (by show S.Qi<_;omega);have e:zD S f x=⟨(J9 { S with M:=KU S.M S.Qi a x,st:=CU S.st a S.Qi } f S.Qi).1,⟨0,0,a⟩,Oa f S.Qi a x::(J9 { S with M:=KU S.M S.Qi a x,st:=CU S.st a S.Qi } f S.Qi).2⟩:=by
    unfold zD;rw[Qe (by rw[<- B];exact O),Qf (by rw[<- B,<- eX];exact he),<- B]
   rw[e];have a9:=QxJ Z.st a S.Qi (eT a);simp only[go_sem,Qa,NL];apply KX [9] b [0,1,2,3,4,5,6,7,8,1009] [];simp only[go_sem,Qa,Kz,Yi];refine kW b Qn2 a9 λd u H=>?_;obtain⟨rfl,s3,a5⟩:=H;have Y:=Z.stat s3 a5;have a3:Z9 o.length z W o (QV z o .no) (Z5 W o .st) u:=Z9.part ⟨σ,σ⟩ (QB _) s3;have K3:=K2.trans (QB _) (a3.Xh K2.len);have E3:=E2.ya a3;have Ir:u[h.length]? = some _:=(s3.keep _ a2 (by rw[a0];simp)).trans WM;have xR:u[h.length+1]? = some _:=(s3.keep _ U (by rw[m2];simp)).trans JA;have n3:QV z o .no (h.length+1)=.no:=(Ku U).trans n2;have m3:Z5 W o .st (h.length+1)=.my:=(Kw U).trans m2;generalize QV z o .no=j6 at Y K3 E3 n3;generalize Z5 W o .st=BC at Y K3 E3 m3;have WY:=Y.o;have zy:=Qc WY;have a8:=Qc Ir;have Ld:=Qc xR;have yQ:n<=u.length:=K9 C K3.len;apply Xy b;apply KX [8] b [0,1,2,3,4,5,6,7,1008] [];simp only[go_sem,Qa,WY,zy,Ir,a8];refine xD b QbS rfl ?_ (Qhw E3 yQ ω (Oa 0 S.Qi a x)) rfl λd h4 H=>?_
   .simp only[go_sem,Oa]
   obtain⟨rfl,E4,eY,sj⟩:=H;have T4:=Y.step sj (si Y.ap);have K4:=(K3.Xh C).trans C eY;have Ns:h4[h.length+1]? = some _:=(eY.my _ Ld m3).trans xR;have n4:QV j6 u .no (h.length+1)=.no:=(Ku Ld).trans n3;have m4:Z5 BC u .no (h.length+1)=.my:=(Kw Ld).trans m3;have vS:({ Oa 0 S.Qi a x with op:=(f:Int) }:Ev)=Oa f S.Qi a x:=rfl;rw[vS]at E4;generalize QV j6 u .no=Sq at T4 E4 K4 eY n4;generalize Z5 BC u .no=ss at T4 E4 K4 eY m4;have Gu:=T4.o;have NN:=Qc Gu;have su:=Qc Ns;have SF:n<=h4.length:=K9 C K4.len;apply Q7 b;simp only[go_sem,Qa,Gu,NN];have a7:=Qhx (T:=⟨_,_,_,_,T4⟩) a6 E4 SF ξ;refine Jb b Qb0 a7 λd h5 H=>?_;obtain⟨rfl,Ab,sv,⟨_,_,_,_,T5⟩,E5,K5⟩:=H;have sw:h5[h.length+1]? = some _:=(K5.my _ su m4).trans Ns;have n5:=(K5.s1 _ su).trans n4;have m5:=(K5.s2 _ su).trans m4;have a1:=Qc sw;rw[Wx]at E5;apply Qg b;simp only[go_sem,Qa,sw,a1,Qv a1];exact⟨Ab,sv,⟨_,_,_,_,T5.loc n5 (.inr m5) _⟩,E5.loc sw nofun nb.1 nb.2 _,(K4.trans C K5).CG ω ω _⟩
  .have e:zD S f x=⟨{ S with M:=KU S.M S.Qi a x },⟨t,0,a⟩,[]⟩:=by unfold zD;rw[Qe (by rw[<- B];exact O),Qe (by rw[<- B,<- eX];exact he),<- B,<- eX]
   have NL:(t != 0)=true:=by simpa using he
   rw[e];simp only[go_sem,Qa,NL,JA,U,Qv U];exact⟨z,W,⟨_,_,_,_,Z.loc n2 (.inr m2) _⟩,E2.loc JA nofun nb.1 nb.2 _,(K2.Xh C).CG ω ω _⟩
def zC.q64{a}{h}{p}{M}(C:zC a h p M)(j:Int):(Z8 M j).length<=64:=by
 unfold Z8 QD;cases b:Qj M.N j with
 | none=>exact KF _
 | some n=>
  show n.q.l.length<=64;cases d:n.c.leaf with
  | true=>
   obtain⟨L,c⟩:=C.ex;obtain⟨k,e,r,Q⟩:=c.WJ j n b d;have:=Q.ring.nE;omega
  | false=>rw[C.V.Am j n b d];exact KF _
def QhF(f:Qt->Nat)(b):∀l:List Qt,(∀c∈l,f c<=b)->(l.map f).sum<=l.length*b
 | [],_=>σ
 | c::l,h=>by
  have g:=h c σ;have e:=QhF f b l λd a=>h d (by simp[a]);simp only[JN,List.sum_cons,VK,Vw,Nat.one_mul];omega
def zC.cnt{a}{h}{p}{M}(C:zC a h p M):VV M<=4096:=by
 have e:=QhF (λc=>(Z8 M c.iD).length) 64 M.T λc _=>C.q64 c.iD;have b:=C.I.tree.len;unfold VV;have d:M.T.length*64<=64*64:=YV 64 b;omega
def Qx8(S:ZK)(b a:Nat):(J9 S b a).2.length<=1:=by
 unfold J9;split
 .exact KF _
 .split
  .exact QB _
  .exact KF _
def Z9.sx{n}{c a}{d k}{h H:List Ob}(D:Z9 n c d h a k H){p}(i:d p=.sys)(o):Z9 n c d h a k (H.set p o):=
 ⟨D.s1,D.s2,λj g b f=>by rw[Qm (λe=>by rw[<- e,i]at f;cases f)];exact D.keep j g b f,λj g b=>by rw[Qm (λe=>by rw[<- e,i]at b;cases b)];exact D.my j g b,by simpa using D.len⟩
structure QhG (n:Nat) (own:Nat->Tag) (tw:Nat->TT) (h:List Ob) (p:Nat) (S:ZK) (bp bo op e:Nat) (L:List Ev) (r k:Nat) (own':Nat->Tag) (ZO:Nat->TT) (H:List Ob) (S':ZK) (L':List Ev):Prop where
 T:Ww own' ZO H p S'
 V:Jd S'
 E:qY n own' ZO H bp bo op (L++L')
 K:Z9 n own tw h own' ZO H
 hr:H[r]? = some ⟨.one,0,3,1,λ_=>[Qb 0,Qb 0,Qb 0]⟩
 nr:own' r=.no
 mr:ZO r=.my
 hk:VV S'.M+k=VV S.M
 cl:S'.Qi<=e
 go:Wb op e (VV S.M+1) S=((Wb op e (VV S'.M+1) S').1,L'++(Wb op e (VV S'.M+1) S').2)
 ln:L'.length<=k
def Qx9{n}{c}{g}{h:List Ob}{p}{S}(T:Ww c g h p S)(V:Jd S){j l b}{L:List Ev}(E:qY n c g h j l b L)(z:n<=h.length)(hL:L.length<10000000)(i)(kH:i<18446744073709551616):
  QI prog 39 h [.ptr p 0 0 0,u64 i,.clo 34 0 [.ptr j 0 0 0,.ptr l 0 0 0]] (λd Z=>d=.agg (jr S b i).r.cells/\∃f C,Ww f C Z p (jr S b i).S/\qY n f C Z j l b (L++(jr S b i).l)/\Z9 n c g h f C Z):=by
 obtain⟨ps,lp,pr,pt,T⟩:=T;have Z1:=V.cl;have nb:h.length≠j/\h.length≠l:=by
  obtain⟨d,m,_⟩:=E.ho;have:=Qc m;have:=Qc E.hp;omega
 have T1:=T.x8 [⟨.one,0,3,1,λ_=>[Qb 0,Qb 0,Qb 0]⟩];have K1:=Z9.app (n:=h.length) c g h [⟨.one,0,3,1,λ_=>[Qb 0,Qb 0,Qb 0]⟩] .my (QB _);have E1:=E.ya K1;have Wi:(h++[(⟨.one,0,3,1,λ_=>[Qb 0,Qb 0,Qb 0]⟩:Ob)])[h.length]? = some ⟨.one,0,3,1,λ_=>[Qb 0,Qb 0,Qb 0]⟩:=JZ rfl;have n1:QV c h .no h.length=.no:=km (QB _);have m1:Z5 g h .my h.length=.my:=kj (QB _);have y:=T.o;have M:=Qc y;have w1:IntKind.u64.wrap ((4611686018427387904:Int) - (S.Qi:Int))=((4611686018427387904 - S.Qi:Nat):Int):=η;by_cases K:4611686018427387904 - S.Qi<i
 .have e:jr S b i=⟨S,⟨27,0,0⟩,[]⟩:=by unfold jr;rw[Qf K]
  rw[e];have d0:=Q3 K;refine QZ func39 ntmps39 results39 λI w pl o=>?_;have M:=Qc y;simp only[go_sem,Qa,y,M,w1,d0];exact⟨_,_,⟨_,_,_,_,T.x8 _⟩,E.ya (Z9.app c g h _ .my (QB _)),(Z9.app c g h _ .my (QB _)).Xh z⟩
 .have d0:=QS K;obtain⟨e,he⟩:∃e,e=S.Qi+i:=⟨_,rfl⟩;have w2:IntKind.u64.wrap ((S.Qi:Int)+(i:Int))=((e:Nat):Int):=η;have hA:jr S b i=⟨(Wb b e (VV S.M+1) S).1,⟨0,0,0⟩,(Wb b e (VV S.M+1) S).2⟩:=by unfold jr;rw[Qe K,<- he]
  rw[hA];refine QZ func39 ntmps39 results39 λI w pl o=>?_;have M:=Qc y;simp only[go_sem,Qa,y,M,w1,d0,w2];have A0:QhG n c g h p S j l b e L h.length 0 (QV c h .no) (Z5 g h .my) (h++[(⟨.one,0,3,1,λ_=>[Qb 0,Qb 0,Qb 0]⟩:Ob)]) S []:=
   ⟨⟨_,_,_,_,T1⟩,V,by rw[Jl];exact E1,K1.Xh z,Wi,n1,m1,ω,ω,rfl,QB _⟩
  have a3:=T.co.cnt;refine Z4 (λk s=>∃f C H S' L',QhG n c g h p S j l b e L h.length k f C H S' L'/\s=⟨[(0,.ptr p 0 0 0),(2,.clo 34 0 [.ptr j 0 0 0,.ptr l 0 0 0]),(6,.ptr h.length 0 0 0),(7,u64 e)],H⟩) (VV S.M) QN ⟨_,_,_,S,[],A0,rfl⟩ ?_;clear A0 T1 K1 E1 Wi n1 m1;rintro k _ hk ⟨JM,VW,H,a,L2,A,rfl⟩;obtain⟨v,u,t,r,q⟩:=A.T;have x:=q.o;have Yi:=Qc x;have N:=QxU ⟨v,u,t,r,q⟩;obtain⟨Y,U⟩:∃Y,Y=ZQ a:=⟨_,rfl⟩;rw[<- U]at N;have R:=A.hr;have YQ:=Qc R;have J:p≠j/\p≠l:=⟨λe=>(by have m:=q.tp;rw[e,A.E.tp]at m;cases m),λe=>(by have m:=q.tp;rw[e,A.E.to]at m;cases m)⟩;have CW:p≠h.length:=λe=>by have:=T.o;have:=Qc this;omega
  apply QC o;apply ZA o Qn3 N;apply Qg o;simp only[go_sem,Qa,x,Yi];by_cases O:e<Y
  .have d1:=Q3 O;have W:Wb b e (VV a.M+1) a=({ a with Qi:=e },[]):=by
    unfold Wb;rw[Qf (by rw[<- U];exact O)]
   have B:=A.go;rw[W,Jl]at B;rw[B];simp only[go_sem,Qa,d1,x,Yi,Qm CW,R,YQ,Qv];have a0:(H.set p (qW v u t r e a.ops))[h.length]? = some ⟨.one,0,3,1,λ_=>[Qb 0,Qb 0,Qb 0]⟩:=(Qm CW).trans R;exact⟨JM,VW,⟨_,_,_,_,(q.clock e a.ops).loc A.nr (.inr A.mr) _⟩,(A.E.loc x nofun J.1 J.2 _).loc a0 nofun nb.1 nb.2 _,(A.K.sx T.tp _).CG z (QB _) _⟩
  .have d1:=QS O;have F:ZQ a<=e:=ω;obtain⟨V3,c1,c2,c3⟩:=Qhf A.V b ω F;have W:Wb b e (VV a.M+1) a=((Wb b e (VV a.M) (J9 { a with Qi:=ZQ a } b (ZQ a)).1).1,(J9 { a with Qi:=ZQ a } b (ZQ a)).2++(Wb b e (VV a.M) (J9 { a with Qi:=ZQ a } b (ZQ a)).1).2):=by
    conv=>lhs;unfold Wb
    rw[Qe (by rw[<- U];exact O)]
   have B:=A.go;rw[W,<- c1,<- Wx]at B;have Zf:=Qx8 { a with Qi:=ZQ a } b (ZQ a);subst U;have T3:=q.clock (ZQ a) a.ops;have V2:Jd { a with Qi:=ZQ a,ops:=a.ops }:=A.V.at_ c2 ω;have E3:=A.E.loc x nofun J.1 J.2 (qW v u t r (ZQ a) a.ops);have xR:(H.set p (qW v u t r (ZQ a) a.ops))[h.length]? = some _:=(Qm CW).trans R;have K3:=A.K.sx T.tp (qW v u t r (ZQ a) a.ops);have yQ:n<=(H.set p (qW v u t r (ZQ a) a.ops)).length:=K9 z K3.len;have DG:=A.ln;have xq:=A.hk;have P:=Qhx (T:=⟨_,_,_,_,T3⟩) V2 E3 yQ (by rw[JJ];omega);simp only[go_sem,Qa,d1,x,Yi];refine Jb o Qb0 P λd h5 hR=>?_;obtain⟨rfl,Ab,sv,T5,E5,Q⟩:=hR;have Ld:=Qc xR;apply QC o;have a2:VV (J9 { a with Qi:=ZQ a } b (ZQ a)).1.M+(k+1)=VV S.M:=ω;have a1:(L2++(J9 { a with Qi:=ZQ a } b (ZQ a)).2).length<=k+1:=by rw[JJ];omega
   refine⟨ω,_,QF.frame (fr':=[(0,.ptr p 0 0 0),(2,.clo 34 0 [.ptr j 0 0 0,.ptr l 0 0 0]),(6,.ptr h.length 0 0 0),(7,u64 e)]) (by simp only[go_sem]),Ab,sv,h5,_,L2++(J9 { a with Qi:=ZQ a } b (ZQ a)).2,⟨T5,V3,by rw[<- Wx];exact E5,K3.trans z Q,(Q.my _ Ld A.mr).trans xR,(Q.s1 _ Ld).trans A.nr,(Q.s2 _ Ld).trans A.mr,a2,by rw[c3];exact F,B,a1⟩,rfl⟩
def Ao(a:Nat->TT)(n:Nat):Nat->TT:=λl=>if l=n+2\/l=n+3 then .no else if n<=l then .my else a l
def eZ{a}{n l}(h:l<n):Ao a n l=a l:=by unfold Ao;rw[Qe ω,Qe ω]
def QhH{a}{n l}(h:l=n+2\/l=n+3):Ao a n l=.no:=by unfold Ao;rw[Qf h]
def Qyd{a}{n l}(h:n<=l)(c:l≠n+2)(b:l≠n+3):Ao a n l=.my:=by unfold Ao;rw[Qe ω,Qf h]
structure EP (S:ZK):Prop where
 ca:∀k,(S.st.ZZ k).length<=S.ops
structure ER (own:Nat->Tag) (tw:Nat->TT) (h:List Ob) (p:Nat) (op:Nat) (S':ZK) (L:List Ev) (r:kh) (own':Nat->Tag) (ZO:Nat->TT) (H:List Ob) (d:D):Prop where
 T:Ww own' ZO H p S'
 E:qY h.length own' ZO H (h.length+3) (h.length+2) op L
 K:Z9 h.length own tw h own' ZO H
 AL:H[h.length+1]? = some ⟨.one,0,3,1,λ_=>[Qb 0,Qb 0,Qb 0]⟩
 hr:H[h.length+4]? = some ⟨.one,0,3,1,λ_=>r.cells⟩
 ho:H[h.length+2]? = some (An d)
 hs:XJ (λl=>h.length<=l/\own' l=.no/\ZO l=.no/\l≠h.length+3/\l≠h.length+2) H 12 Ev.cells d L
 n1:own' (h.length+1)=.no
 m1:ZO (h.length+1)=.my
 n4:own' (h.length+4)=.no
 m4:ZO (h.length+4)=.my
def DoR(e:Nat->Tag)(g:Nat->TT)(h:List Ob)(p:Nat)(Y:Lb)(d:D)(b:List Ob):Prop:=
 ∃f a c,d=.tup [.agg Y.r.cells,f]/\Ww a c b p Y.S/\XJ (λl=>h.length<=l/\a l=.no/\c l=.no) b 12 Ev.cells f Y.l/\Z9 h.length e g h a c b
def ER.done{b}{f}{h}{p l}{k}{L}{r}{a}{j}{H}{d}(I:ER b f h p l k L r a j H d)(o):
  DoR b f h p ⟨k,r,L⟩ (.tup [.agg r.cells,d]) (H.set (h.length+1) o):=by
 obtain⟨t,v,u,s,T⟩:=I.T;refine⟨d,a,j,rfl,⟨_,_,_,_,T.loc I.n1 (.inr I.m1) o⟩,I.hs.imp id λ⟨m,g,e,q,c,i,n⟩=>⟨m,g,e,q,⟨c.1,c.2.1,c.2.2.1⟩,by rw[Qm (x9 I.AL i (.inl nofun))];exact i,n⟩,I.K.CG ω ω o⟩
def ER.next{b}{k}{h}{p g}{v}{L}{r}{o}{l}{H}{d}(I:ER b k h p g v L r o l H d){m}{n}{e}{c}{f}
  (u:Ww e c f p m) (q:qY h.length e c f (h.length+3) (h.length+2) g n) (a:Z9 h.length o l H e c f):∃d2,ER b k h p g m n r e c f d2:=by
 obtain⟨d2,t,s⟩:=q.ho;have j:=Qc I.AL;have i:=Qc I.hr;exact⟨d2,u,q,I.K.trans (QB _) a,(a.my _ j I.m1).trans I.AL,(a.my _ i I.m4).trans I.hr,t,s,(a.s1 _ j).trans I.n1,(a.s2 _ j).trans I.m1,(a.s1 _ i).trans I.n4,(a.s2 _ i).trans I.m4⟩
def ER.SU{a}{c}{h:List Ob}{p f}{k}{L}{r}{l}{j}{H:List Ob}{d}(I:ER a c h p f k L r l j H d)(e:kh):ER a c h p f k L e l j (H.set (h.length+4) ⟨.one,0,3,1,λ_=>e.cells⟩) d:=by
 obtain⟨t,v,u,s,T⟩:=I.T;exact⟨⟨_,_,_,_,T.loc I.n4 (.inr I.m4) _⟩,I.E.loc I.hr nofun ω ω _,I.K.CG ω ω _,by rw[Qm ω];exact I.AL,Qv (Qc I.hr),by rw[Qm ω];exact I.ho,
  I.hs.imp id λ⟨m,g,b,q,o,i,n⟩=>⟨m,g,b,q,o,by rw[Qm (x9 I.hr i (.inl nofun))];exact i,n⟩,I.n1,I.m1,I.n4,I.m4⟩
def Ot{f}{v}{h}{p}{S:ZK}(T:Ww f v h p S)(V:Jd S)(hC:EP S)(c3:S.ops<1000000)(o:ZY)(ho:ZY.Ok o)(hc:o.changes.length<1000000)(JS:o.rules.length<1000000):
  QI prog 15 h [.ptr p 0 0 0,.agg o.cells] (λd h'=>DoR f v h p (Wv S o) d h'):=by
 obtain⟨ps,lp,pr,pt,T⟩:=T;have hp:=T.o;have Oj:=Qc hp;have Zl:=KJ (show S.ops<4611686018427387904 from ω);have eS:Wv S o=Wc { S with ops:=S.ops+1 } S.ops o:=rfl;rw[eS];obtain⟨a,y0⟩:∃a,a={ S with ops:=S.ops+1 }:=⟨_,rfl⟩;have T0:Wd f v (h.set p (qW ps lp pr pt S.Qi (S.ops+1))) p ps lp pr pt { S with ops:=S.ops+1 }:=T.clock S.Qi (S.ops+1);rw[<- y0]at T0 ⊢;obtain⟨H,hH⟩:∃H,H=h.set p (qW ps lp pr pt S.Qi (S.ops+1))++[(⟨.one,0,10,1,λ_=>o.cells⟩:Ob),⟨.one,0,3,1,λ_=>[Qb 0,Qb 0,Qb 0]⟩,An .nil,An (Qb S.ops),⟨.one,0,3,1,λ_=>[Qb 1,Qb 0,Qb 0]⟩]:=⟨_,rfl⟩;have zd:(h.set p (qW ps lp pr pt S.Qi (S.ops+1))).length=h.length:=σ;have ne:∀l,l<h.length->(Ao v h.length l)=v l:=λl m=>eZ m;have t:Wd (QV f h .no) (Ao v h.length) H p ps lp pr pt a:=by
  rw[hH];refine T0.step (λl m=>⟨λ_=>⟨Ku (by rw[<- zd];exact m),QG m⟩,λ_ _=>⟨eZ (by rw[<- zd];exact m),QG m⟩⟩) λl m=>?_;by_cases h1:l<h.length
  .rw[eZ h1]at m;rw[Ku h1];exact T.ap l m
  .exact km ω
 have K1:Z9 h.length f v h (QV f h .no) (Ao v h.length) H:=by
  rw[hH];refine⟨λl m=>Ku m,λl m=>eZ m,λl m h1 z=>?_,λl m h1=>?_,σ⟩
  .rw[QG (by rw[zd];exact m),Qm (λe=>by rw[<- e,T.tp]at z;cases z)]
  .rw[QG (by rw[zd];exact m),Qm (λe=>by rw[<- e,T.tp]at h1;cases h1)]
 have q:∀k x,[(⟨.one,0,10,1,λ_=>o.cells⟩:Ob),⟨.one,0,3,1,λ_=>[Qb 0,Qb 0,Qb 0]⟩,An .nil,An (Qb S.ops),⟨.one,0,3,1,λ_=>[Qb 1,Qb 0,Qb 0]⟩][k]? = some x->H[h.length+k]? = some x:=λk x hk=>by
  rw[hH,Vj (k:=k) zd];exact hk
 have Q:qY h.length (QV f h .no) (Ao v h.length) H (h.length+3) (h.length+2) S.ops []:=
  ⟨q 3 _ rfl,⟨.nil,q 2 _ rfl,.inl ⟨rfl,rfl⟩⟩,ω,ω,km ω,km ω,QhH (.inr rfl),QhH (.inl rfl),ω⟩
 have N:H[h.length]? = some ⟨.one,0,10,1,λ_=>o.cells⟩:=q 0 _ rfl;have SV:=q 1 _ rfl;have SW:=q 2 _ rfl;have Wi:=q 4 _ rfl;have n1:∀i,h.length<=i->QV f h .no i=.no:=λi hi=>km hi;have m1:∀i,h.length<=i->i≠h.length+2->i≠h.length+3->Ao v h.length i=.my:=λi hi z h3=>Qyd hi z h3;clear q ne zd;generalize DM:QV f h .no=O at t K1 Q n1;generalize Ou:Ao v h.length=J at t K1 Q m1;have Xr:=t.o;have sy:=Qc Xr;have Kv:=Qc N;have b6:=Qc SV;have b5:=Qc SW;have wX:=Qc Wi;have c4:a.Qi=S.Qi:=by rw[y0]
 have V1:Jd a:=by rw[y0];exact V.ops _
 have Kj:h.length<=H.length:=K1.len;refine QZ func15 ntmps15 results15 λc1 w pl j=>?_;have Oj:=Qc hp;simp only[go_sem,Qa,hp,Oj,Zl];simp only[go_sem]at hH N Wi SV SW;rw[<- hH];clear hH;have Ov:h.length+1≠h.length+2:=ω;have SX:h.length+4≠h.length+2:=ω;have SY:h.length+4≠h.length+1:=ω;have I0:ER f v h p S.ops a [] ⟨1,0,0⟩ O J H .nil:=⟨⟨_,_,_,_,t⟩,Q,K1,SV,Wi,SW,.inl ⟨rfl,rfl⟩,n1 _ ω,m1 _ ω ω ω,n1 _ ω,m1 _ ω ω ω⟩;obtain⟨BW,⟨_,Ad⟩,⟨_,c2⟩,b8,kH,_⟩:=ho;by_cases L:o.kind=1
 .have W:(o.kind==1)=true:=by simpa using L
  obtain⟨la,lb,lc,ZC⟩:=t.ln;have F:=rX (ZG ZC) a.Qi;obtain⟨bf,a6⟩:∃b,b=decide (a.Jt<=a.Qi):=⟨_,rfl⟩;have e:Wc a S.ops o=⟨{ a with M:=KL a.M bf o.changes },⟨zB a.M bf o.changes,Aj a.M o.changes,0⟩,[]⟩:=by unfold Wc;rw[Qf L,<- a6]
  rw[e];rw[<- a6]at F;have C:=QwW t.co bf o.changes Ad hc;obtain⟨ce,b9⟩:∃x,x=zB a.M bf o.changes:=⟨_,rfl⟩;obtain⟨ca,eT⟩:∃x,x=Aj a.M o.changes:=⟨_,rfl⟩;rw[<- b9,<- eT]at C ⊢;simp only[go_sem,Qa,W];apply KX [15] j [0,1,2,3,4,5,6,7,8,9,10,11,13,14,1012,1015,16,17,18,19,20] [];simp only[go_sem,Qa,Xr,sy,N,Kv];apply V0 j aO F;apply Q7 j;simp only[go_sem,Qa,Xr,sy,N,Kv];refine kW j QnM C λd z E=>?_;obtain⟨rfl,JM,C2,D2⟩:=E;have Z:=t.core D2 C2 (SJ a.M bf o.changes);have y:Z9 H.length O J H JM (Z5 J H .no) z:=Z9.core t.ap (QB _) D2;obtain⟨d2,c⟩:=I0.next ⟨_,_,_,_,Z⟩ (Q.ya y) (y.Xh Kj);have I:=c.SU ⟨ce,ca,0⟩;have n:=c.hr;have s:=Qc n;have r:=c.ho;have B:=Qc r;have u:=c.AL;have K:=Qc u;apply Q7 j;simp only[go_sem,Qa,n,s];apply KX [] j [0] [1,2,3];simp only[go_sem,Qa,n,s,r,B,u,K,Qv,Qm Ov,Qm SX,Qm SY];exact⟨I.done _,I.done _⟩
 have W:(o.kind==1)=false:=by simpa using L
 by_cases U:o.kind=2
 .have b2:(o.kind==2)=true:=by simpa using U
  have R:=Qht H o.rules JS;by_cases Gp:YN o.rules=0
  .have e:Wc a S.ops o=⟨{ a with R:=o.rules },⟨0,0,0⟩,[]⟩:=by unfold Wc;rw[Qe L,Qf U,Qf Gp]
   rw[e];simp only[go_sem,Qa,W,b2,N,Kv];refine Jb j iH R λd z E=>?_;obtain⟨g,rfl,sA,_⟩:=E;obtain⟨p2,rfl,hT⟩:=sA Gp;have Z:=t.rules hT;have fa:(H++g)[p]? = some _:=(QG sy).trans Xr;have b0:=Qc fa;have y:Z9 H.length O J H (QV O H .no) (Z5 J H .GL) (H++g):=Z9.app O J H g .GL (QB _);have E2:=(Q.ya y).loc fa nofun (by have:=Qc T.o;omega) (by have:=Qc T.o;omega) (qW ps lp p2 pt a.Qi a.ops);obtain⟨d2,c⟩:=I0.next ⟨_,_,_,_,Z⟩ E2 ((y.Xh Kj).sx t.tp _);have I:=c.SU ⟨0,0,0⟩;have n:=c.hr;have s:=Qc n;have r:=c.ho;have B:=Qc r;have u:=c.AL;have K:=Qc u;have Zf:=Qc T.o;have p4:p≠h.length+4:=ω;have a4:p≠h.length+2:=ω;have b7:p≠h.length+1:=ω;have sB:(H++g)[h.length+4]? = some _:=(QG wX).trans Wi;have sC:(H++g)[h.length+2]? = some _:=(QG b5).trans SW;have a5:(H++g)[h.length+1]? = some _:=(QG b6).trans SV;have sD:=Qc sB;have a9:=Qc sC;have a8:=Qc a5;have KC:d2=.nil:=by
    have h5:=c.ho;rw[Qm a4,sC]at h5;simp only[An,QX,Ob.mk.injEq,yj]at h5;have:=congrFun h5 0;simp only[EZ,and_true]at this;exact this.symm
   rw[KC]at I;have x4:h.length+4<H.length+g.length:=by have:=sD;simpa using this
   have x2:h.length+2<H.length+g.length:=by have:=a9;simpa using this
   have x1:h.length+1<H.length+g.length:=by have:=a8;simpa using this
   apply Qg j;simp only[go_sem,Qa,fa,b0,Qm p4,sB,sD,Qv];apply KX [] j [0] [1,2,3];simp only[go_sem,Qa,x4,x2,x1,fa,b0,Qm p4,Qm a4,Qm b7,sB,sD,sC,a9,a5,a8,Qv,Qm Ov,Qm SX,Qm SY];exact⟨I.done _,I.done _⟩
  .have e:Wc a S.ops o=⟨a,⟨YN o.rules,0,0⟩,[]⟩:=by unfold Wc;rw[Qe L,Qf U,Qe Gp]
   have a7:(YN o.rules==0)=false:=by simpa using Gp
   rw[e];obtain⟨re,c0⟩:∃x,x=YN o.rules:=⟨_,rfl⟩;rw[<- c0]at R a7 Gp ⊢;simp only[go_sem,Qa,W,b2,N,Kv];refine Jb j iH R λd z E=>?_;obtain⟨g,rfl,_,sA⟩:=E;have hd:=sA Gp;subst hd;have y:Z9 H.length O J H (QV O H .no) (Z5 J H .my) (H++g):=Z9.app O J H g .my (QB _);obtain⟨d2,c⟩:=I0.next ⟨_,_,_,_,t.x8 g⟩ (Q.ya y) (y.Xh Kj);have I:=c.SU ⟨re,0,0⟩;have n:=c.hr;have s:=Qc n;have r:=c.ho;have B:=Qc r;have u:=c.AL;have K:=Qc u;have x4:h.length+4<H.length+g.length:=by have:=s;simpa using this
   have x2:h.length+2<H.length+g.length:=by have:=B;simpa using this
   have x1:h.length+1<H.length+g.length:=by have:=K;simpa using this
   apply Qg j;simp only[go_sem,Qa,a7,n,s];apply KX [] j [0] [1,2,3];simp only[go_sem,Qa,x4,x2,x1,n,s,r,B,u,K,Qv,Qm Ov,Qm SX,Qm SY];exact⟨I.done _,I.done _⟩
 have b2:(o.kind==2)=false:=by simpa using U
 by_cases k3:o.kind=3
 .have b3:(o.kind==3)=true:=by simpa using k3
  have e:Wc a S.ops o=zD a S.ops o.YB:=by unfold Wc;rw[Qe L,Qe U,Qf k3]
  rw[e];obtain⟨BD,Ol,SS,GP⟩:SP o.YB:=by
   obtain⟨_,_,a0,a1,a2,a3,_⟩:=b8;have:=wf_u16 a0;have:=wf_u16 a1;have:=wf_u16 a2;have:=wf_u16 a3;exact⟨⟨ω,ω⟩,⟨ω,ω⟩,⟨ω,ω⟩,⟨ω,ω⟩⟩
  have P:=Qx1 ⟨_,_,_,_,t⟩ V1 Q Kj σ (λk=>by rw[y0];have:=hC.ca k;show (S.st.ZZ k).length<1000000;omega) o.YB ⟨BD,Ol,SS,GP⟩;obtain⟨Y,hY⟩:∃Y,Y=zD a S.ops o.YB:=⟨_,rfl⟩;rw[<- hY]at P ⊢;simp only[go_sem,Qa,W,b2,b3,N,Kv];refine Jb j QnN P λd z E=>?_;obtain⟨rfl,JM,VW,Z,E2,y⟩:=E;rw[q4]at E2;obtain⟨d2,c⟩:=I0.next Z E2 y;have I:=c.SU Y.r;have n:=c.hr;have s:=Qc n;have r:=c.ho;have B:=Qc r;have u:=c.AL;have K:=Qc u;apply Qg j;simp only[go_sem,Qa,n,s];apply KX [] j [0] [1,2,3];simp only[go_sem,Qa,n,s,r,B,u,K,Qv,Qm Ov,Qm SX,Qm SY];exact⟨I.done _,I.done _⟩
 have b3:(o.kind==3)=false:=by simpa using k3
 by_cases k4:o.kind=4
 .have b4:(o.kind==4)=true:=by simpa using k4
  have e:Wc a S.ops o=jr a S.ops o.WS.toNat:=by unfold Wc;rw[Qe L,Qe U,Qe k3,Qf k4]
  rw[e];have hw:=wf_u64 kH;have P:=Qx9 ⟨_,_,_,_,t⟩ V1 Q Kj σ o.WS.toNat ω;obtain⟨Y,hY⟩:∃Y,Y=jr a S.ops o.WS.toNat:=⟨_,rfl⟩;rw[<- hY,show u64 o.WS.toNat=.raw (.int .u64 o.WS) by show D.raw (.int .u64 (o.WS.toNat:Int))=_;rw[GW hw.1]]at P;rw[<- hY];simp only[go_sem,Qa,W,b2,b3,b4,N,Kv];refine Jb j QnO P λd z E=>?_;obtain⟨rfl,JM,VW,Z,E2,y⟩:=E;rw[q4]at E2;obtain⟨d2,c⟩:=I0.next Z E2 y;have I:=c.SU Y.r;have n:=c.hr;have s:=Qc n;have r:=c.ho;have B:=Qc r;have u:=c.AL;have K:=Qc u;apply Qg j;simp only[go_sem,Qa,n,s];apply KX [] j [0] [1,2,3];simp only[go_sem,Qa,n,s,r,B,u,K,Qv,Qm Ov,Qm SX,Qm SY];exact⟨I.done _,I.done _⟩
 have b4:(o.kind==4)=false:=by simpa using k4
 have e:Wc a S.ops o=⟨a,⟨1,0,0⟩,[]⟩:=by unfold Wc;rw[Qe L,Qe U,Qe k3,Qe k4]
 rw[e];simp only[go_sem,Qa,W,b2,b3,b4];apply KX [] j [0] [1,2,3];simp only[go_sem,Qa,Wi,wX,SW,b5,SV,b6,Qv,Qm Ov];exact⟨I0.done _,I0.done _⟩
def Qyj(h:List Ob):QI prog 37 h [.nil] (λd a=>∃g p,a=h++g/\d=.tup [.ptr p 0 0 0,Qb 0]/\GM (λj=>h.length<=j) (h++g) p []):=
 (QI.Mt (cs':=[.nil]) (Qht h [] π) ⟨rfl,trivial⟩).mono λd a ⟨g,f,e,_⟩=>by
  obtain⟨p,c,b⟩:=e rfl;exact⟨g,p,f,c,b⟩
def YO.fresh(h:List Ob)(S)(a:∀j,h.length<=j->S j):YO S (h++[QM .i64 0 [],QM .i64 0 [],rV h.length (h.length+1)]) (h.length+2) ⟨λ_=>[],λ_=>default⟩:=
 ⟨h.length,h.length+1,0,[],0,[],Vj (k:=2) rfl,JZ rfl,Vj (k:=1) rfl,ω,a _ ω,a _ ω,a _ ω,λk=>.inl ⟨rfl,rfl⟩,λk i f g c n l d e b=>(by cases b),λk=>rfl⟩
def Qyk{f}{u}(ap:∀l,u l≠.no->f l=.no)(h){c}(K:zA c):
  QI prog 27 h [.agg c.cells] (λd W=>∃o Y p,d=.tup [.ptr p 0 0 0,Qb 0]/\Ww o Y W p (S0 c)/\Z9 h.length f u h o Y W):=by
 have Q:(h++[(⟨.one,0,2,1,λ_=>c.cells⟩:Ob)])[h.length]? = some ⟨.one,0,2,1,λ_=>c.cells⟩:=JZ rfl;have O:=QwX (QV f h .no) (h++[(⟨.one,0,2,1,λ_=>c.cells⟩:Ob)]) K;have E:=Z9.app f u h [(⟨.one,0,2,1,λ_=>c.cells⟩:Ob)] .no (QB _);have J:=si (h:=h) ap;have S:QV f h .no h.length=.no:=km (QB _);refine QZ func27 ntmps27 results27 λa0 w pl m=>?_;simp only[go_sem,Qa];obtain⟨i,L⟩:∃x,x=h++[(⟨.one,0,2,1,λ_=>c.cells⟩:Ob)]:=⟨_,rfl⟩;rw[<- L]at Q O E;simp only[go_sem]at L;rw[<- L];clear L;have Kv:=Qc Q;generalize QV f h .no=Je at O E J S;generalize Z5 u h .no=Z at E J;refine Jb m QnU O λd a q=>?_;obtain⟨JM,N,rfl,C2,R⟩:=q;have C:=E.trans (QB _) ((Z9.core J (QB _) R).Xh E.len);have Kz:a[h.length]? = some _:=(R.keep _ Kv S).trans Q;have Yi:=Qc Kz;apply Qg m;simp only[go_sem,Qa,Kz,Yi];refine A4 m QnV (Qxz a K.t1 K.t2) λd h q=>?_;obtain⟨rfl,rfl⟩:=q;apply QC m;refine Jb m iH (Qyj _) λd e q=>?_;obtain⟨g,F,s,rfl,z⟩:=q;apply QC m;refine Jb m QnW (QxI e) λd k q=>?_;obtain⟨rfl,M⟩:=q;apply QC m;have s:e=(a++[qX 0 0 0 c.t 0])++g:=s;have z:GM (λj=>(a++[qX 0 0 0 c.t 0]).length<=j) ((a++[qX 0 0 0 c.t 0])++g) F []:=z;rw[<- s]at z;have T:(a++[qX 0 0 0 c.t 0]).length=a.length+1:=σ;rw[T]at z;have l4:a.length+1<=e.length:=by rw[s,JJ,T];omega
 have l5:k.length=e.length+3:=by rw[M];simp
 have P:∀l,l<a.length->e[l]? = a[l]? := λl b=>by rw[s,Wx,QG b]
 have y:∀l,l<e.length->k[l]? = e[l]? := λl b=>by rw[M,QG b]
 have DG:e[a.length]? = some (qX 0 0 0 c.t 0):=by rw[s,Wx];exact JZ rfl
 have Jj:YO (λl=>e.length<=l) k (e.length+2) ⟨λ_=>[],λ_=>default⟩:=by rw[M];exact YO.fresh e _ λ_ h=>h
 obtain⟨H,I⟩:∃H,H=k++[qW N a.length F (e.length+2) 0 0]:=⟨_,rfl⟩;have r:∀l,l<k.length->H[l]? = k[l]? := λl b=>by rw[I,QG b]
 have hp:H[k.length]? = some (qW N a.length F (e.length+2) 0 0):=by rw[I];exact JZ rfl
 obtain⟨n,B⟩:∃t:Nat->TT,t=λl=>if l<a.length then Z5 Z i .no l else if l=a.length then .ln else if l<e.length then .GL else if l<k.length then .st else if l=k.length then .sys else .no:=⟨_,rfl⟩;have t0:∀l,l<a.length->n l=Z5 Z i .no l:=λl b=>by rw[B];dsimp only;rw[Qf b]
 have t1:n a.length=.ln:=by rw[B];dsimp only;rw[Qe ω,Qf rfl]
 have t2:∀l,a.length+1<=l->l<e.length->n l=.GL:=λl i a=>by rw[B];dsimp only;rw[Qe ω,Qe ω,Qf a]
 have t3:∀l,e.length<=l->l<k.length->n l=.st:=λl i a=>by rw[B];dsimp only;rw[Qe ω,Qe ω,Qe ω,Qf a]
 have t4:n k.length=.sys:=by rw[B];dsimp only;rw[Qe ω,Qe ω,Qe ω,Qe ω,Qf rfl]
 have X:Wd (QV JM a .no) n H k.length N a.length F (e.length+2) (S0 c):=by
  refine⟨hp,t4,C2.step λl b _=>⟨Ku b,by rw[r l ω,y l ω,P l b]⟩,⟨0,0,0,?_⟩,t1,z.step λj v i=>⟨t2 j i v,by rw[r j ω,y j v]⟩,Jj.step λj v i=>⟨t3 j i v,r j v⟩,λl b=>?_⟩
  .rw[r _ ω,y _ ω];exact DG
  .by_cases V:l<a.length
   .rw[t0 l V]at b;rw[Ku V];by_cases U:l<i.length
    .rw[Kw U]at b;rw[R.same l U];exact J l b
    .rw[kj ω]at b;exact absurd rfl b
   .exact km ω
 have KH:Z9 h.length f u h (QV JM a .no) n H:=by
  have a1:=C.len;exact⟨λl b=>by rw[Ku ω];exact C.s1 l b,λl b=>by rw[t0 l ω];exact C.s2 l b,λl b i a=>by rw[r l ω,y l ω,P l ω];exact C.keep l b i a,λl b i=>by rw[r l ω,y l ω,P l ω];exact C.my l b i,by rw[I];simp;omega⟩
 subst I;exact⟨_,n,_,rfl,⟨_,_,_,_,X⟩,KH⟩
end Go.Fg.X
namespace Go.Fg.X
open Go.Proofs Go.Fg
open Go.RowKit (Below)
open Go.Proofs.Tryz
def sG{P}{f}{C}{R}(I:D)(V:I.upto 0=true)
  (hd:∀d u,R d u->JG 6 d I\/(∃a g t n k,u[a]? = some ⟨.arr,g,t,n,k⟩/\(∀i,i<n->(k i).all D.Yu=true)/\JG 6 (D.fz a g n t k d) I) \/
   ∃a g t n k E Q T J F,u[a]? = some ⟨.arr,g,t,n,k⟩/\u[E]? = some ⟨.arr,Q,T,J,F⟩/\E≠a/\(∀i,i<n->(k i).all D.Yu=true)/\(∀i,i<J->(F i).all D.Yu=true)/\JG 6 (D.fz E Q J T F (D.fz a g n t k d)) I) (h:Q6 P f C R):Q6 P f C (Zm I):=by
 intro Z O w pl vs h1 h2 h3 hl hc;have M:pl=[]:=by have:=h3.len;simpa using this
 subst M;refine(h Z O w [] vs h1 h2 h3 hl hc).mono λe w' he=>?_;obtain⟨v,d,u,B,rfl,hR,y,Y,hT,hB⟩:=he;suffices a0:Qy Z [] [] w' I v by
  exact⟨v,_,[],[],rfl,⟨rfl,rfl⟩,Zg.nil,a0,⟨λb K Qc=>⟨K,(hT.Kg b K Qc).2⟩,λl o p e=>by simp at e,λl o H b q e=>by simp at e⟩,hB⟩
 rcases hd _ _ hR with s|⟨a,g,t,n,k,x,Z1,s⟩|⟨a,g,t,n,k,E,Q,T,J,F,x,SZ,sH,Z1,S3,s⟩
 .exact(kR 6 s Y).take V
 .have Qc:a<B.length:=by rw[y.len];exact(Wh.1 x).1
  obtain⟨p,m⟩:∃p,B[a]? = some p:=⟨_,QP Qc⟩;have Ga:=Y.fz (l:=a) (o:=⟨.arr,g,t,n,k⟩) (p:=p) x m rfl (λb q e=>by
   subst e;refine⟨h2 b ?_,λr q' z=>?_,(y.at_ a _ b q x m).2.cells rfl⟩
   .rcases Ar b w.heap.size with Qc|U
    .exact absurd m ((hT.Kg b (λi q e=>by simp at e) Qc).1 a q)
    .exact U
   .exact y.inj _ _ _ _ _ z m) Z1 (h':=u.set a (Ob.gone ⟨.arr,g,t,n,k⟩)) (λr H N e=>by
   exact⟨H,by rw[Jf (Q1 N)];exact e,rfl,rfl,rfl⟩)
  exact(kR 6 s Ga).take V
 .have pos:∀{a:Nat} {o:Ob},u[a]? = some o->∃p,B[a]? = some p:=λ{a o} x=>by
   have Qc:a<B.length:=by rw[y.len];exact(Wh.1 x).1
   exact⟨_,QP Qc⟩
  have zb:∀{a b q:Nat},B[a]? = some (some (b,q))->Z b:=λ{a b q} m=>h2 b (by
   rcases Ar b w.heap.size with Qc|U
   .exact absurd m ((hT.Kg b (λi q e=>by simp at e) Qc).1 a q)
   .exact U)
  obtain⟨p,m⟩:=pos x;obtain⟨p',S⟩:=pos SZ;have r1:=Y.fz (l:=a) (o:=⟨.arr,g,t,n,k⟩) (p:=p) x m rfl (λb q e=>by
   subst e;exact⟨zb m,λr q' z=>y.inj _ _ _ _ _ z m,(y.at_ a _ b q x m).2.cells rfl⟩) Z1 (h':=u) (λr H N e=>⟨H,e,rfl,rfl,rfl⟩)
  have M:∀(r:Nat),r≠a->(B.set a none)[r]? = B[r]? := λr X3=>by rw[Jf (Q1 X3)]
  have N:E≠a:=sH;have r2:=r1.fz (l:=E) (o:=⟨.arr,Q,T,J,F⟩) (p:=p') SZ ((M _ N).trans S) rfl (λb q e=>by
   subst e;refine⟨zb S,λr q' z=>?_,?_⟩
   .by_cases L:r=a
    .subst L;rw[VX (VM m)]at z;cases z
    .rw[M _ L]at z;exact y.inj _ _ _ _ _ z S
   .obtain⟨c,el,c1,c2,c3,c4⟩:=(y.at_ E _ b q SZ S).2.cells rfl;refine⟨c,el,c1,c2,c3,λi j W hj=>?_⟩;obtain⟨v,hv,hr⟩:=c4 i j W hj;have h5:=S3 i W;rw[YS]at h5;have h6:j<(F i).length:=by rw[c3 i W];exact hj
    have h7:(nth (F i) j).Yu=true:=h5 _ (by
     simp only[nth,Q5,QP h6,KV];exact XK h6)
    exact⟨v,hv,.cl _ _ ((FA hr h7).mono (N':=free Z (B.set a none)) (w':=w') λb K _=>⟨⟨K.1,λl q e=>by
     by_cases L:l=a
     .subst L;rw[VX (VM m)]at e;cases e
     .rw[M _ L]at e;exact K.2 l q e⟩,rfl⟩)⟩) S3 (h':=u) (λr H N e=>⟨H,e,rfl,rfl,rfl⟩)
  exact(kR 6 s r2).take V
end Go.Fg.X
namespace Go.Fg.X
open Go.Proofs Go.Fg
open Go.Proofs.Tryz
structure ZY.Small (o:ZY):Prop where
 c:o.changes.length<1000000
 r:o.rules.length<1000000
def QhT(S:ZK)(f d:Nat)(k:Int):((J9 S f d).1.st.ZZ k).length<=(S.st.ZZ k).length:=by
 have g:∀(s:CT) (c:Int) (done:Nat) (bytes:Int) (b:Bool),((YM s c done bytes b).ZZ k).length<=(s.ZZ k).length:=λs c done bytes b=>by
  unfold YM;cases h:s.ZZ c with
  | nil=>exact QB _
  | cons a l=>
   dsimp only;split
   .exact QB _
   .split
    .exact QB _
    .dsimp only;split
     .rename_i e;rw[e,h];simp
     .exact QB _
 unfold J9;split
 .exact QB _
 .split
  .exact g _ _ _ _ _
  .exact QB _
def QhU(a e)(k:Int):∀(n:Nat) (S:ZK),((Wb a e n S).1.st.ZZ k).length<=(S.st.ZZ k).length
 | 0,S=>QB _
 | n+1,S=>by
  unfold Wb;split
  .exact QB _
  .exact K9 (QhU a e k n _) (QhT { S with Qi:=ZQ S } a (ZQ S) k)
def EP.do{S}(C:EP S)(o:ZY):EP (Wv S o).S:=by
 refine⟨λk=>?_⟩;rw[eK];have a:=C.ca k;show ((Wc { S with ops:=S.ops+1 } S.ops o).S.st.ZZ k).length<=S.ops+1;unfold Wc;split
 .show (S.st.ZZ k).length<=_;omega
 .split
  .split<;>(show (S.st.ZZ k).length<=_;omega)
  .split
   .unfold zD;split
    .show (S.st.ZZ k).length<=_;omega
    .split
     .refine K9 (QhT _ _ _ k) ?_;show (if k=_ then S.st.ZZ k++[S.Qi] else S.st.ZZ k).length<=_;split
      .rw[JJ];show _+1<=_;omega
      .omega
     .show (S.st.ZZ k).length<=_;omega
   .split
    .unfold jr;split
     .show (S.st.ZZ k).length<=_;omega
     .exact K9 (QhU _ _ k _ _) (by show (S.st.ZZ k).length<=_;omega)
    .show (S.st.ZZ k).length<=_;omega
def Ww.Qyl{a}{c}{h g:List Ob}{p}{S}(T:Ww a c h p S)(e:∀l,l<h.length->¬(a l=.no/\(c l=.no\/c l=.my))->g[l]? = h[l]?):Ww (QV a h .no) (Z5 c h .my) g p S:=by
 obtain⟨k,n,m,j,T⟩:=T;refine⟨_,_,_,_,T.step (λl Qc=>⟨λd=>⟨Ku Qc,e l Qc λb=>d.1 b.1⟩,λd i=>⟨Kw Qc,e l Qc λb=>b.2.elim d i⟩⟩) λl f=>?_⟩;by_cases b:l<h.length
 .rw[Kw b]at f;rw[Ku b];exact T.ap l f
 .exact km ω
def kh.rows(l:List kh):Nat->List D:=λi=>(l.getD i default).cells
@[go_sem] theorem kh.wh(l:List kh)(i):kh.rows l i=(l.getD i default).cells:=rfl
@[go_sem] def QDV(l:List kh):D:=.imm 3 l.length (kh.rows l)
structure QDW (x:qI) (p q k:Nat) (own:Nat->Tag) (tw:Nat->TT) (H:List Ob) (S:ZK) (R:List kh) (E:List Ev) (dR dE:D):Prop where
 T:Ww own tw H p S
 V:Jd S
 C:EP S
 ops:S.ops=k
 hx:H[0]? = some ⟨.one,0,3,1,λ_=>x.cells⟩
 hr:H[1]? = some ⟨.one,0,2,1,λ_=>[.nil,.nil]⟩
 hq:H[q]? = some ⟨.one,0,2,1,λ_=>[dR,dE]⟩
 q2:2<=q
 my:∀l,l=0\/l=1\/l=q->own l=.no/\tw l=.my
 sR:XJ (λl=>own l=.no/\tw l=.my) H 3 kh.cells dR R
 sE:XJ (λl=>own l=.no/\tw l=.my) H 12 Ev.cells dE E
 run:VD (S0 x.config) (x.ops.take k)=(S,R,E)
 lR:R.length=k
 lE:E.length<=5000*k
def Jd.start{b}{d}{h}{p}{c}(T:Ww b d h p (S0 c)):Jd (S0 c):=by
 obtain⟨_,_,_,_,T⟩:=T;exact⟨T.co.I,T.co.V,T.co.K,λj x hx=>(by cases hx),QB _,KF _,KF _,λk=>⟨BF _,BF _,BF _,BF _,BF _⟩,λk a e=>(by cases e)⟩
def QL(S:ZK)(n:Nat):Prop:=∀j,(Z8 S.M j).length<=n
def Wf(n:Nd)(a:Bool)(f:Nat):List D:=n.c.cells++(QT a::u64 n.Ja::(n.du.cells++(n.sh.cells++(n.cp.cells++(u64 f::n.q.Nk)))))
theorem Qyn(M)(a)(n):Qgm M a n=Wf n (Jq M a) (V8 M a n):=rfl
section
variable (n:Nd)(a:Bool)(f:Nat)
@[go_sem] theorem QDX:(Wf n a f).length=67:=rfl
@[go_sem] theorem QDY:(Wf n a f).all D.Vi=true:=rfl
@[go_sem] theorem QDZ:(List.drop 15 (Wf n a f)).getD 0 D.undef=u64 n.Ja:=rfl
@[go_sem] theorem QD0:(List.drop 2 (Wf n a f)).getD 0 D.undef=QT n.c.leaf:=rfl
@[go_sem] theorem QD1:(List.drop 63 (Wf n a f)).getD 0 D.undef=u64 n.q.cd:=rfl
@[go_sem] theorem QD2:(List.drop 65 (Wf n a f)).getD 0 D.undef=u64 n.q.bo:=rfl
@[go_sem] theorem QD3:(List.drop 66 (Wf n a f)).getD 0 D.undef=u64 n.q.bd:=rfl
@[go_sem] theorem QD4(v):List.take 63 (Wf n a f)++(.raw (.int .u64 ((v:Nat):Int))::List.drop 64 (Wf n a f))=Wf { n with q:={ n.q with cd:=v } } a f:=rfl
@[go_sem] theorem QD5(v):List.take 66 (Wf n a f)++[.raw (.int .u64 ((v:Nat):Int))]=Wf { n with q:={ n.q with bd:=v } } a f:=rfl
end
@[go_sem] def QD6(n:Nd)(a:Bool)(f:Nat):Ob:=⟨.one,0,67,1,λ_=>Wf n a f⟩
def fb(n:Nd)(a b:Nat):Nd:={ n with q:={ n.q with cd:=a,bd:=b } }
structure BE (M M':Qn):Prop where
 T:M'.T=M.T
 A:M'.A=M.A
 KT:M'.KT=M.KT
 Lv:M'.Lv=M.Lv
 acc:M'.acc=M.acc
 N:∀id n,Qj M.N id=some n->∃a b,Qj M'.N id=some (fb n a b)
structure sI (S S':ZK):Prop where
 M:BE S.M S'.M
 un:S'.Jt=S.Jt
 R:S'.R=S.R
 st:S'.st=S.st
 ck:S'.Qi=S.Qi
def Le(o:ZY):Bool:=decide (o.changes.length<=40)&&decide (o.rules.length<=40)
def CY(x:qI)(m:Nat):Bool:=decide (x.ops.length<=m)&&x.ops.all Le
def QhV{b:Type}(l:List b)(d:b)(f):l.all f=true↔∀j,j<l.length->f (l.getD j d)=true:=by
 rw[YS];constructor
 .intro h j e;exact h _ (za l d j e)
 .intro h a g;obtain⟨i,c,rfl⟩:=yh g;have:=h i c;simpa[Q5,c] using this
def Qys(x:qI)(m:Nat)(t:m<1000000):Q6 prog 7 [.agg x.cells,Qb m] (Zm (QT (CY x m))):=by
 refine Zs 0 func7 ntmps7 results7 λp w l=>?_;simp only[go_sem];by_cases q:m<x.ops.length
 .simp only[go_sem,q,decide_true];have:CY x m=false:=by simp[CY];omega
  rw[this]
 .have s:decide (m<x.ops.length)=false:=ξ;simp only[go_sem,s];refine HO (G:=Nat) [13,14] (λk=>∀j,j<k->Le (x.ops.getD j default)=true) (λk e=>[(15,Qb k)]) (λk e=>[]) (x.ops.length) (0) rfl (QF.to 0 (by (simp only[go_sem])<;>simp)) ?_ ?_
  .intro j g;omega
  intro k e f o;apply Zd l;have r:=KJ (show k<4611686018427387904 from ω);first|refine jL f (λc=>?_) (λc=>?_)|refine jM f (λc=>?_) (λc=>?_)
  .simp only[go_sem,c];have n:¬ (∀j,j<x.ops.length->Le (x.ops.getD j default)=true)->CY x m=false:=λd=>by
    rw[Ym];intro i;simp only[CY,ZH]at i;exact d ((QhV _ default _).1 i.2)
   first|refine FK (λb=>?_) (λb=>?_)|refine FL (λb=>?_) (λb=>?_)|refine FM (λb=>?_) (λb=>?_)|refine vZ (λb=>?_) (λb=>?_)|refine FN (λb=>?_) (λb=>?_)|refine FO (λb=>?_) (λb=>?_)|refine FP (λb=>?_) (λb=>?_)|refine FH (λb=>?_) (λb=>?_)
   .simp only[go_sem];rw[n (λd=>by have:=d k c;simp only[Le,ZH,XZ]at this;omega)]
   .simp only[go_sem];first|refine FK (λa=>?_) (λa=>?_)|refine FL (λa=>?_) (λa=>?_)|refine FM (λa=>?_) (λa=>?_)|refine vZ (λa=>?_) (λa=>?_)|refine FN (λa=>?_) (λa=>?_)|refine FO (λa=>?_) (λa=>?_)|refine FP (λa=>?_) (λa=>?_)|refine FH (λa=>?_) (λa=>?_)
    .simp only[go_sem];rw[n (λd=>by have:=d k c;simp only[Le,ZH,XZ]at this;omega)]
    .simp only[go_sem];repeat (refine And.intro δ ?_)
     refine⟨_,QF.to 0 (by (simp only[go_sem,r])<;>simp),xA.mk (0) (?_)⟩;intro j g;rcases vK.1 g with h|rfl
     .exact o j h
     .simp only[Le,ZH,XZ];omega
  .simp only[go_sem];apply Zd l;subst c;have:CY x m=true:=by
    simp only[CY,ZH];exact⟨ξ,(QhV _ default _).2 o⟩
   rw[this]
def Qyt:ZY:=⟨1,[Qg5 1 65536],[],⟨0,0,0,0,0,0⟩,0⟩
def Ox:ZY:=⟨2,[],[⟨0,0,0,0,0,0,0,0,1⟩],⟨0,0,0,0,0,0⟩,0⟩
def qx:ZY:=⟨3,[],[],⟨7,100,0,0,0,0⟩,0⟩
def Qyu:ZY:=⟨4,[],[],⟨0,0,0,0,0,0⟩,150⟩
def S4:List ZY:=[Qyt,Ox,qx,qx,Qyu]
def sJ:∀o∈S4,ZY.Ok o/\ZY.Small o:=by
 have c:Pk.Ok ⟨0,0,0,0,0,0⟩:=⟨π,π,π,π,π,π,trivial⟩;have f:Pk.Ok ⟨7,100,0,0,0,0⟩:=⟨π,π,π,π,π,π,trivial⟩;have j:Jr.Ok (Qg5 1 65536):=⟨π,⟨π,π,trivial,⟨π,π,π,trivial⟩,⟨π,π,π,trivial⟩,⟨π,π,π,trivial⟩,π,π,trivial⟩,trivial⟩;have i:ZX.Ok ⟨0,0,0,0,0,0,0,0,1⟩:=⟨π,π,π,π,π,π,π,π,π,trivial⟩;have b:∀{e:Type} {P:e->Prop},∀a∈([]:List e),P a:=λa h=>(by cases h);intro o g;simp only[S4,QE,Tt,or_false]at g;rcases g with rfl|rfl|rfl|rfl|rfl
 .exact⟨⟨π,⟨π,λa d=>by obtain rfl:=qz.1 d;exact j⟩,⟨π,b⟩,c,π,trivial⟩,π,π⟩
 .exact⟨⟨π,⟨π,b⟩,⟨π,λa d=>by obtain rfl:=qz.1 d;exact i⟩,c,π,trivial⟩,π,π⟩
 .exact⟨⟨π,⟨π,b⟩,⟨π,b⟩,f,π,trivial⟩,π,π⟩
 .exact⟨⟨π,⟨π,b⟩,⟨π,b⟩,f,π,trivial⟩,π,π⟩
 .exact⟨⟨π,⟨π,b⟩,⟨π,b⟩,c,π,trivial⟩,π,π⟩
def Qyv{h}{p}{L}{M}(c:XI h p L M)(V:Inv M)(a):QR prog 46 h [.ptr p 0 0 0,Qb a] (λd=>d=kf (Z8 M a)):=by
 cases b:Qj M.N a with
 | none=>
  have e:Z8 M a=[]:=by unfold Z8 QD;rw[b];rfl
  rw[e];exact IZ.closed (Kq.mono (Qwd c b) λd g h=>.inl ⟨h.2,rfl⟩)
 | some n=>
  have e:Z8 M a=n.q.l:=by unfold Z8 QD;rw[b];rfl
  have i:=Qwe c b;cases f:n.c.leaf with
  | true=>
   rw[e];exact QR.mono i λd h=>by rw[h,Qf f]
  | false=>
   rw[e,V.Am a n b f];exact IZ.closed (Kq.mono i λd g h=>.inl ⟨by rw[h.2,Qe (by rw[f];exact vF)],rfl⟩)
end Go.Fg.X
namespace Go.Fg.X
open Go.Proofs Go.Fg
open Go.RowKit (Below)
open Go.Proofs.Tryz
def Qyw{P}{f}{h}{S}{R}(N:D)(hu:∀k,N.upto k=true)
  (hd:∀d g,R d g->JG 6 d N\/(∃a u s n m,h.length<=a/\(h++g)[a]? = some ⟨.arr,u,s,n,m⟩/\(∀i,i<n->(m i).all D.Yu=true)/\JG 6 (D.fz a u n s m d) N) \/
   ∃a u s n m I fc ES Y V,h.length<=a/\h.length<=I/\(h++g)[a]? = some ⟨.arr,u,s,n,m⟩/\(h++g)[I]? = some ⟨.arr,fc,ES,Y,V⟩/\I≠a/\(∀i,i<n->(m i).all D.Yu=true)/\(∀i,i<Y->(V i).all D.Yu=true)/\JG 6 (D.fz I fc Y ES V (D.fz a u n s m d)) N) (H:Kq P f h S R):QR P f h S (λd=>d=N):=by
 intro Z Q w F vs h1 h2 L J hc;have HQ:Zg Z w.heap.size (h.map Ob.ro) F w:=by
  refine⟨L.len,L.inj,L.Vh,λl o b q ho t=>⟨λhr=>?_,(L.at_ l o b q ho t).2⟩⟩;obtain⟨U,_,rfl⟩:=DO ho;rw[Pd,Kd.toRo_ro]at hr;cases hr
 refine(H Z w.heap.size w F vs (QB _) h2 HQ J hc).mono λe T he=>?_;obtain⟨v,d,_,y,rfl,⟨g,rfl,hR⟩,B,hV,hT,hB⟩:=he;have hE:∀b,b<w.heap.size->T.heap[b]? = w.heap[b]? := λb hb=>hB.block b hb;have Zf:∀(l:Nat),l<h.length->y[l]? = F[l]? := λl J=>by
  have Z7:l<F.length:=by rw[L.len];simpa using J
  obtain⟨U,p',m1,m2,_,_,m3⟩:=hT.obj l _ _ (ZG (QP J)) (QP Z7);rw[JD (by simpa using J),ZG (QP J)]at m1;cases m1;obtain⟨_,rfl⟩:=m3 rfl;rw[m2,QP Z7]
 have C:(h.map Ob.ro++g).take h.length=h.map Ob.ro:=TB σ;have MV:Qy Z (h.map Ob.ro) F T N v->_:=λhx=>(⟨v,N,h.map Ob.ro,F,rfl,⟨[],(Jl _).symm,hu _,rfl⟩,L.ext hE,hx,Go.Fg.Tr.ext L hE,hB.mono h1⟩:∃v' d h' y,Ending.returned v=.returned v'/\(∃g,h'=h.map Ob.ro++g/\d.upto h.length=true/\d=N)/\Zg Z Q h' y T/\Qy Z h' y T d v'/\Go.Fg.Tr (h.map Ob.ro) F w h' y T/\Below Q w T);refine MV ?_;have yP:∀{a u s n:Nat} {m:Nat->List D},h.length<=a->(h++g)[a]? = some ⟨.arr,u,s,n,m⟩->(h.map Ob.ro++g)[a]? = some ⟨.arr,u,s,n,m⟩:=λ{a u s n m} F9 O=>by
  rw[JE ω]at O;rw[JE (by simpa using F9)];simpa using O
 have pos:∀{a:Nat} {o:Ob},(h.map Ob.ro++g)[a]? = some o->∃p,y[a]? = some p:=λ{a o} O=>by
  have Qc:a<y.length:=by rw[B.len];exact(Wh.1 O).1
  exact⟨_,QP Qc⟩
 have W:∀{q:List Pl},(∀l,l<h.length->q[l]? = y[l]?)->q.take h.length=F:=λ{q} hq=>by
  apply xh;intro i;rw[Xc];by_cases K:i<h.length
  .rw[Qf K,hq i K,Zf i K]
  .rw[Qe K,Dg (by rw[L.len];simp;omega)]
 rcases hd _ _ hR with z|⟨a,u,s,n,m,F9,O,Z1,z⟩|⟨a,u,s,n,m,I,fc,ES,Y,V,F9,a0,O,SZ,sH,Z1,S3,z⟩
 .have r:=(kR 6 z hV).take (hu h.length);rw[C,W λl _=>rfl]at r;exact r
 .have E:=yP F9 O;obtain⟨p,t⟩:=pos E;have Ga:=hV.fz (l:=a) (o:=⟨.arr,u,s,n,m⟩) (p:=p) E t rfl (λb q e=>by
   subst e;exact⟨h2 b ((B.at_ a _ b q E t).1 rfl),λx q' M=>B.inj _ _ _ _ _ M t,(B.at_ a _ b q E t).2.cells rfl⟩) Z1 (h':=h.map Ob.ro++g) (λx U QA e=>⟨U,e,rfl,rfl,rfl⟩)
  have r:=(kR 6 z Ga).take (hu h.length);rw[C,W λl J=>Jf ω]at r;exact r
 .have E:=yP F9 O;have fe:=yP a0 SZ;obtain⟨p,t⟩:=pos E;obtain⟨p',ZI⟩:=pos fe;have r1:=hV.fz (l:=a) (o:=⟨.arr,u,s,n,m⟩) (p:=p) E t rfl (λb q e=>by
   subst e;exact⟨h2 b ((B.at_ a _ b q E t).1 rfl),λx q' M=>B.inj _ _ _ _ _ M t,(B.at_ a _ b q E t).2.cells rfl⟩) Z1 (h':=h.map Ob.ro++g) (λx U QA e=>⟨U,e,rfl,rfl,rfl⟩)
  have sK:∀(x:Nat),x≠a->(y.set a none)[x]? = y[x]? := λx X3=>by rw[Jf (Q1 X3)]
  have r2:=r1.fz (l:=I) (o:=⟨.arr,fc,ES,Y,V⟩) (p:=p') fe ((sK _ sH).trans ZI) rfl (λb q e=>by
   subst e;refine⟨h2 b ((B.at_ I _ b q fe ZI).1 rfl),λx q' M=>?_,?_⟩
   .by_cases C:x=a
    .subst C;rw[VX (VM t)]at M;cases M
    .rw[sK _ C]at M;exact B.inj _ _ _ _ _ M ZI
   .obtain⟨c,el,c1,c2,c3,c4⟩:=(B.at_ I _ b q fe ZI).2.cells rfl;refine⟨c,el,c1,c2,c3,λi j K hj=>?_⟩;obtain⟨v,hv,hr⟩:=c4 i j K hj;have h5:=S3 i K;rw[YS]at h5;have h6:j<(V i).length:=by rw[c3 i K];exact hj
    have h7:(nth (V i) j).Yu=true:=h5 _ (by
     simp only[nth,Q5,QP h6,KV];exact XK h6)
    exact⟨v,hv,.cl _ _ ((FA hr h7).mono (N':=free Z (y.set a none)) (w':=T) λb hb _=>⟨⟨hb.1,λl q e=>by
     by_cases C:l=a
     .subst C;rw[VX (VM t)]at e;cases e
     .rw[sK _ C]at e;exact hb.2 l q e⟩,rfl⟩)⟩) S3 (h':=h.map Ob.ro++g) (λx U QA e=>⟨U,e,rfl,rfl,rfl⟩)
  have r:=(kR 6 z r2).take (hu h.length);rw[C,W λl J=>(Jf ω).trans (Jf ω)]at r;exact r
def QF.Qyy{f}{c}{h}{d'}(t)(i:JG 6 (get c t) d'):QF f ⟨c,h⟩ ⟨put c t d',h⟩:=by
 intro Z z d j g a w r b;refine⟨g,⟨r.nt,r.defers,λu=>?_,r.o⟩,b⟩;show Qy Z _ _ w (get (put c t _) u) _;rw[Dm];by_cases e:u=t
 .subst e;rw[Qf rfl];exact kR 6 i (r.fr u)
 .rw[Qe e];exact r.fr u
def QF.QhW{M}{I}{h:List Ob}(l k m n){g}{d}(C:h[l]? = some ⟨.one,g,n,1,d⟩)(O:k<(d 0).length)(R:nth (d 0) k=.nil):
  QF M ⟨I,h⟩ ⟨I,(h++[(⟨.arr,0,m,0,λ_=>[]⟩:Ob)]).set l ⟨.one,g,n,1,λ_=>(d 0).set k (.ref h.length 0 0 0)⟩⟩:=by
 intro Z z L nt f a w r b;have t:f.length=h.length:=r.o.len;have B:=r.o.BH ⟨.arr,0,m,0,λ_=>[]⟩ rfl;have T1:Go.Fg.Tr h f w (h++[(⟨.arr,0,m,0,λ_=>[]⟩:Ob)]) (f++[none]) w:=Go.Fg.Tr.push r.o (λ_ _=>rfl) _ _ (by intro b q e;simp at e);have y:(h++[(⟨.arr,0,m,0,λ_=>[]⟩:Ob)])[l]? = some (⟨.one,g,n,1,d⟩:Ob):=xl C;have HP:l<f.length:=by have h1:=Kh C;omega
 have s:(f++[none])[l]? = some f[l]:=xl (QP HP);generalize Uo:f[l]=p at s;have N:(h++[(⟨.arr,0,m,0,λ_=>[]⟩:Ob)])[h.length]? = some ⟨.arr,0,m,0,λ_=>[]⟩:=σ;cases p with
 | none=>exact absurd (B.Vh l _ y s) σ
 | some p=>
  obtain⟨Y,q⟩:=p;obtain⟨g1,x⟩:=B.at_ l _ Y q y s;obtain⟨c,el,H,W,V,U⟩:=x.cells rfl;have XO:l<h.length:=Kh C;have K:=Go.Fg.Tr.QV (w':=w) B y s (o':=⟨.one,g,n,1,λ_=>(d 0).set k (.ref h.length 0 0 0)⟩) rfl rfl rfl (λ_ _ _=>rfl) (λc el h=>⟨c,h,rfl⟩);have R2:=Zg.QV (w':=w) B y s (o':=⟨.one,g,n,1,λ_=>(d 0).set k (.ref h.length 0 0 0)⟩) rfl rfl rfl rfl (λ_ _ _=>rfl) H H rfl W (λi F=>by rw[Xd];exact V 0 Nat.zero_lt_one) (λi j F S=>by
   have O3:i=0:=by have:i<1:=F;omega
   subst O3;obtain⟨v,P,o⟩:=U 0 j Nat.zero_lt_one S;refine⟨v,P,?_⟩;by_cases J:j=k
   .subst J;have o:Qy Z _ _ w (nth (d 0) j) v:=o;rw[R]at o;obtain⟨a0,Q⟩:=BK o;have E:nth ((d 0).set j (.ref h.length 0 0 0)) j=.ref h.length 0 0 0:=by simp[nth,Q5,O]
    show Qy Z _ _ w (nth ((d 0).set j (.ref h.length 0 0 0)) j) v;rw[E,Q];refine .ref _ _ _ _ ⟨.arr,0,m,0,λ_=>[]⟩ none a0 0 ?_ ?_ rfl (QB _) (λ_=>.inl ⟨rfl,rfl⟩)
    .rw[Jf ω];exact N
    .rw[<- t];simp
   .have E:nth ((d 0).set k (.ref h.length 0 0 0)) j=nth (d 0) j:=by simp[nth,Q5,Jf (Q1 J)]
    show Qy Z _ _ w (nth ((d 0).set k (.ref h.length 0 0 0)) j) v;rw[E];exact o.tr K) rfl
  have T:=T1.trans K;exact⟨f++[none],⟨r.nt,r.defers,λu=>(r.fr u).tr T,R2⟩,b.step T (Below.refl _ _)⟩
end Go.Fg.X
namespace Go.Fg.X
open Go.Proofs Go.Fg
open Go.Proofs.Tryz
structure Vg where
 n:Nd
 a:Bool
 f:Nat
instance:Inhabited Vg:=⟨⟨default,false,0⟩⟩
def Vg.cells(i:Vg):List D:=Wf i.n i.a i.f
def Vg.rows(l:List Vg):Nat->List D:=λi=>(l.getD i default).cells
@[go_sem] theorem Vg.wh(l:List Vg)(i):Vg.rows l i=Wf (l.getD i default).n (l.getD i default).a (l.getD i default).f:=rfl
@[go_sem] def Lf(l:List Vg):D:=.imm 67 l.length (Vg.rows l)
def QhX(l:List (List Pk)):Nat->List D:=λi=>[kf (l.getD i [])]
@[go_sem] theorem QD7(l:List (List Pk))(i):QhX l i=[kf (l.getD i [])]:=rfl
@[go_sem] def Oy(l:List (List Pk)):D:=.imm 1 l.length (QhX l)
structure VJ where
 cf:Cf
 Qi:Nat
 Jt:Nat
 acc:Nat
 R:List ZX
 C:List Vg
 Q:List (List Pk)
@[go_sem] def VJ.cells(v:VJ):List D:=[Qb v.cf.t,Qb v.cf.JU,u64 v.Qi,u64 v.Jt,u64 v.acc,We v.R,Lf v.C,Oy v.Q]
def S5(M:Qn)(n:Nd):Vg:=⟨n,Jq M n.c.iD,V8 M n.c.iD n⟩
def Ka(S:ZK):VJ:=⟨S.M.lk,S.Qi,S.Jt,S.M.acc,S.R,S.M.N.map (S5 S.M),S.M.N.map λn=>Z8 S.M n.c.iD⟩
structure StR (h:List Ob) (v:VJ) (d:D) (h':List Ob):Prop where
 ex:∃(G:List Ob) (lC gC lQ gQ:Nat) (kr wY:Nat->List D),h'=h++G/\d=.agg [Qb v.cf.t,Qb v.cf.JU,u64 v.Qi,u64 v.Jt,u64 v.acc,We v.R,.ref lC gC 0 v.C.length,.ref lQ gQ 0 v.Q.length]/\h.length<=lC/\h.length<=lQ /\
  h'[lC]? = some ⟨.arr,gC,67,v.C.length,kr⟩/\h'[lQ]? = some ⟨.arr,gQ,1,v.Q.length,wY⟩/\(∀i,i<v.C.length->kr i=(v.C.getD i default).cells)/\∀i,i<v.Q.length->wY i=[kf (v.Q.getD i [])]
def StR.top{a}{b}{h c:List Ob}{p}{S}(T:Ww a b h p S)(k:∀l,l<h.length->c[l]? = h[l]?):Ww (QV a h .no) (Z5 b h .my) c p S:=T.Qyl λl d _=>k l d
def Vg.calm(i:Vg):Vg:=⟨{ i.n with q:={ i.n.q with cd:=0,bd:=0 } },i.a,i.f⟩
def VJ.calm(v:VJ):VJ:={ v with C:=v.C.map Vg.calm }
def S6{M:Qn}(I:Qx M){n:Nd}(f:n∈M.N):Qj M.N n.c.iD=some n:=by
 have k:n.c∈M.T:=by rw[I.nodes];exact Jm.2 ⟨n,f,rfl⟩
 obtain⟨m,g,e⟩:=I.ND ((WC I.tree.rising).2 ⟨k,rfl⟩);have o:m∈M.N:=xj g;have j:M.N.Pairwise λa b=>a.c.iD<b.c.iD:=by
  have:=I.tree.rising;unfold WB at this;rw[I.nodes,OK]at this;exact this
 have d:∀N:List Nd,N.Pairwise (λa b=>a.c.iD<b.c.iD)->n∈N->m∈N->m=n:=by
  intro N;induction N with
  | nil=>intro _ h;cases h
  | cons a N i=>
   intro c h1 h2;rw[yi]at c;rcases QE.1 h1 with rfl|h1
   .rcases QE.1 h2 with rfl|h2
    .rfl
    .have:=c.1 m h2;rw[e]at this;omega
   .rcases QE.1 h2 with l|h2
    .have:=c.1 n h1;rw[<- l,e]at this;omega
    .exact i c.2 h1 h2
 rw[g,d M.N j f o]
structure Alk (M M':Qn):Prop where
 ex:∃A' c,M'={ M with A:=A',Qi:=c }/\∀a,a∈M.A↔a∈A'
section
variable {M M':Qn}
end
def opE(k:Nat)(e:Ev):Ev:={ e with op:=(k:Int) }
structure QEa (S S':ZK):Prop where
 M:Alk S.M S'.M
 un:S'.Jt=S.Jt
 R:S'.R=S.R
 ck:S'.Qi=S.Qi
section
variable {S S':ZK}
end
structure StE (v v':VJ):Prop where
 cf:v.cf=v'.cf
 Qi:v.Qi=v'.Qi
 Jt:v.Jt=v'.Jt
 acc:v.acc=v'.acc
 R:v.R=v'.R
 lC:v.C.length=v'.C.length
 C:∀i,i<v.C.length->(v.C.getD i default).cells=(v'.C.getD i default).cells
 Q:v.Q=v'.Q
def ET(n:Nd)(a:Bool)(f:Nat):List Value:=(AD (Wf n a f)).getD []
theorem QyD(n)(a)(f):AD (Wf n a f)=some (ET n a f):=rfl
def sL(n:Nd)(a:Bool)(f:Nat)(b:Nd)(d:Bool)(c:Nat):Bool:=(YZ (ET n a f) (ET b d c)).getD false
theorem QhZ(n)(a)(f)(b)(d)(c):YZ (ET n a f) (ET b d c)=some (sL n a f b d c):=rfl
def QyE{x y}{b}(f:cat x≠2)(h:Yr x y=some b):b=true↔x=y:=by
 unfold Yr at h;split at h
 .rename_i k a c g;cases d:IntKind.same k c with
  | false=>rw[d]at h;cases h
  | true=>
   rw[d]at h;have e:k=c:=by cases k<;>cases c<;>first|rfl|cases d
   subst e;cases h;simp
 .cases h;simp
 .exact absurd rfl f
 .cases h
def Qh0:∀{x y:List Value} {b:Bool},(∀v∈x,cat v≠2)->YZ x y=some b->(b=true↔x=y)
 | [],[],b,_,h=>by cases h;simp
 | [],_::_,b,_,h=>by cases h
 | _::_,[],b,_,h=>by cases h
 | u::x,v::y,b,hx,h=>by
  unfold YZ at h;split at h
  .rename_i p q d c;cases h;rw[ZH,QyE (hx u K8) d,Qh0 (λv a=>hx v (Km _ a)) c,EZ]
  .cases h
def QyF(n)(a)(f):∀v∈ET n a f,cat v≠2:=λv b=>by
 have h:((ET n a f).map cat).all (λk=>k != 2)=true:=rfl;have:=YS.1 h _ (List.mem_map_of_mem b);simpa using this
theorem Qh1(n)(a)(f:Nat):Wf n a f=(ET n a f).map D.raw:=rfl
def QyG{n}{a}{f}{b}{d}{c}:sL n a f b d c=true↔Wf n a f=Wf b d c:=by
 rw[Qh0 (QyF _ _ _) (QhZ n a f b d c),Qh1 n a f,Qh1 b d c];constructor
 .intro h;rw[h]
 .intro h;exact(List.map_inj_right λx y e=>D.raw.inj e).1 h
def Vg.CZ(i j:Vg):Bool:=sL i.n i.a i.f j.n j.a j.f
def Vg.QyH{i j:Vg}:i.CZ j=true↔i.cells=j.cells:=QyG
def Xb{c:Type}[Inhabited c](e:c->c->Bool)(a b:List c):Bool:=decide (a.length=b.length)&&(List.range a.length).all λi=>e (a.getD i default) (b.getD i default)
def Da{g:Type}[Inhabited g]{e}{a b:List g}:Xb e a b=true↔a.length=b.length/\∀i,i<a.length->e (a.getD i default) (b.getD i default)=true:=by
 unfold Xb;rw[ZH,XZ,YS];exact⟨λ⟨f,d⟩=>⟨f,λi c=>d i (G1.2 c)⟩,λ⟨f,d⟩=>⟨f,λi c=>d i (G1.1 c)⟩⟩
def fg{c:Type}[Inhabited c]{e}{a b:List c}{i}(d:i<a.length)(h:e (a.getD i default) (b.getD i default)=false):Xb e a b=false:=by
 rw[Ym];intro f;rw[(Da.1 f).2 i d]at h;cases h
def wZ(x y:Pk):Bool:=x.iD==y.iD&&(x.len==y.len&&(x.wi==y.wi&&(x.wj==y.wj&&(x.wk==y.wk&&x.wm==y.wm))))
def QyI{x y}:wZ x y=true↔x=y:=by
 cases x;cases y;simp[wZ]
def Ap(x y:ZX):Bool:=x.wo==y.wo&&(x.wu==y.wu&&(x.A1==y.A1&&(x.yK==y.yK&&(x.DS==y.DS&&(x.DT==y.DT&&(x.DU==y.DU&&(x.A3==y.A3&&x.cls==y.cls)))))))
def QyJ{x y}:Ap x y=true↔x=y:=by
 cases x;cases y;simp[Ap]
def sM{c:Type}[Inhabited c]{e:c->c->Bool}(d:∀x y,e x y=true↔x=y){a b:List c}:Xb e a b=true↔a=b:=by
 rw[Da];constructor
 .rintro⟨j,h⟩;apply List.ext_getElem j;intro i f g;have:=(d _ _).1 (h i f);simpa[Q5,f,g] using this
 .rintro rfl;exact⟨rfl,λi _=>(d _ _).2 rfl⟩
def EU(v w:VJ):Bool:=(v.cf.t==w.cf.t&&v.cf.JU==w.cf.JU)&&(decide (v.Qi=w.Qi)&&(decide (v.Jt=w.Jt)&&(decide (v.acc=w.acc)&&decide (v.Q.length=w.Q.length))))
def qy(v w:VJ):Bool:=EU v w&&(Xb (Xb wZ) v.Q w.Q&&(Xb Ap v.R w.R&&Xb Vg.CZ v.C w.C))
def QyK{v w}:qy v w=true↔StE v w:=by
 unfold qy EU;simp only[ZH,zH,XZ,sM (λx y=>QyJ),sM (λx y=>sM (λx y=>QyI)),Da,Vg.QyH];constructor
 .rintro⟨⟨⟨i,g⟩,f,e,d,n⟩,c,b,a,j⟩;obtain⟨⟨t,l⟩,H,F,E,C,B,z⟩:=v;obtain⟨⟨k,m⟩,u,s,r,q,p,o⟩:=w;simp only at i g f e d c b a j;subst i g;exact⟨rfl,f,e,d,b,a,j,c⟩
 .intro h;exact⟨⟨⟨by rw[h.cf],by rw[h.cf]⟩,h.Qi,h.Jt,h.acc,by rw[h.Q]⟩,h.Q,h.R,h.lC,h.C⟩
def sN(v:VJ):qy v v=true:=QyK.2 ⟨rfl,rfl,rfl,rfl,rfl,rfl,λi _=>rfl,rfl⟩
def S7(v w:VJ):Bool:=qy v.calm w.calm
def Lg(v:VJ):Bool:=v.Q.all (λq=>decide (q.length=0))&&decide (v.Jt<=v.Qi)
def GR:Jr:=⟨1,⟨1,0,true,⟨0,0,0⟩,⟨65536,0,65536⟩,⟨0,0,0⟩,1,300⟩⟩
def S8:ZY:=⟨1,[GR],[],⟨0,0,0,0,0,0⟩,0⟩
def QyL:ZY:=⟨4,[],[],⟨0,0,0,0,0,0⟩,200⟩
def S9:List Qt:=[GR.cls]
def Qh2:KS [] [GR]=S9:=τ
def Qh3:J6 [] S9=[1]:=by
 unfold J6;have h:xS [] S9=[1]:=τ;rw[h,QcU (Lp [1]) σ];rfl
def M37:Qn:=Qg6 [1] (M0 c6) S9
def QyM:kb (M0 c6) S9 true=false:=by
 unfold kb db;have h:(M0 c6).T=[]:=rfl;rw[h,Qh3];decide +kernel
def QyN:zB (M0 c6) true [GR]=0:=by
 unfold zB;have h:(M0 c6).T=[]:=rfl;rw[h,Qh2,QyM];decide +kernel
def QyO:KL (M0 c6) true [GR]=M37:=by
 unfold KL;rw[Qf QyN,show (M0 c6).T=[] from rfl,Qh2,Qw3,show (M0 c6).T=[] from rfl,Qh3];rfl
def sO:ZK:=⟨M37,0,[],⟨λ_=>[],λ_=>default⟩,0,1⟩
def QyP:(Wv (S0 c6) S8).S=sO:=by
 show ZK.mk (KL (M0 c6) true [GR]) 0 [] _ 0 1=sO;rw[QyO];rfl
def Db:ZK:=(Wv (Wv sO Ox).S qx).S
def Lh:ZK:=(Wv Db qx).S
def Oz:ZK:=(Wv Lh qx).S
def sP:ZK:=(Wv Oz QyL).S
def QyQ:(VD (S0 c6) [S8,Ox,qx]).1=Db:=by
 show (VD (Wv (S0 c6) S8).S [Ox,qx]).1=Db;rw[QyP];rfl
def QyR:Lg (Ka Db)=false:=by decide +kernel
def QyS:S7 (Ka Db) (Ka Lh)=false:=by decide +kernel
def QyT:qy (Ka Lh) (Ka Oz)=false:=by decide +kernel
def QyU:S7 (Ka Lh) (Ka Oz)=true:=by decide +kernel
def QyV:Lg (Ka sP)=true:=by decide +kernel
def QyW:(Ka Db).C.length=1:=by decide +kernel
def QyX:(Ka Db).Jt=100:=by decide +kernel
end Go.Fg.X
namespace Go.Fg
open Go.RowKit (Below)
def QyY{Z}{h:List Ob}{j}{w}{l g e n}{v}(r:Qy Z h j w (.ref l g e n) v){o:Ob}(m:h[l]? = some o)(s:o.gen=g):∃a d,v=.slice a n d/\(a.isNone=true->n=0):=by
 obtain⟨y,p,a,d,rfl,i,z,_,_,k⟩:=BL r;rw[m]at i;cases i;refine⟨a,d,rfl,λf=>?_⟩;rcases k s.symm with ⟨x,u⟩|⟨b,q,c,el,rfl,t,_⟩
 .first|exact x|exact u
 .rw[t]at f;cases f
section
variable {P:Program}{L:ZW}{base nt:Nat}{w0:Start}{Q:Exit->St->Prop}
def QyZ(V:ZU P L){k:List Item}{c:Option Nat}{C:TypeId}{pos:String}{d:Array Edge}{B:Option (Nat × Bool)}{r:List (Oper × G)}{s:St}{t q e a b:Nat}{x:Operand}{F:List Value}{l g j n:Nat}{u:Ob}
  (K:Qo s.fr x=.ref l g j n) (o:s.h[l]? = some u) (H:u.gen=g) (O:ty L t=some ⟨.slice e,a,b,F⟩) (v:Zj nt c=true) (y:∀b:Bool,(b=true->n=0)->Qr P base nt w0 Q (.ops r::k) .normal ⟨Q8 s.fr c (.raw (.bool b)),s.h⟩) :
  Qr P base nt w0 Q (.ops ((⟨c,.binOp .eql t x (.const (.slice none 0 0)) q,C,pos,d,B⟩,none)::r)::k) .normal s:=by
 simp only[Qr]at y ⊢;intro Z z J E w f W;have p:=f.eval x;rw[K]at p;obtain⟨h,i,M,U⟩:=QyY p o H;have T:E.eval (.const (.slice none 0 0))=.slice none 0 0:=rfl;have Y:(execOp E.eval ⟨c,.binOp .eql t x (.const (.slice none 0 0)) q,C,pos,d,B⟩).run P w=.ok (.value (.bool h.isNone)) w:=by
  have N:=vP (V _ _ O) rfl;have S:(Op.equal t (.slice h n i) (.slice none 0 0)).run P w=.ok h.isNone w:=TV λm=>by
   cases h<;>simp[Op.equalIn,run_underlying N]
  have R:(eqGuard .eql t x (.const (.slice none 0 0)) (.slice h n i) (.slice none 0 0)).run P w=.ok () w:=by simp[eqGuard]
  simp[execOp,M,T,Go.binOp,S,R]
 simp only[X5,WQ,Va];unfold Oper.wp;rw[Y];simp only[Oper.upon_value];refine y _ U Z z J _ w ?_ W;cases I:c with
 | none=>exact f
 | some t=>rw[I]at v;exact f.to (Tr.ext f.o λ_ _=>rfl) f.o (zQ v) (.cl _ _ (.raw _))
end
end Go.Fg
namespace Go.Fg.X
open Go.Proofs Go.Fg
open Go.Proofs.Tryz
def XJ.closed{p:Type}[Inhabited p]{P}{f}{h:List Ob}{c}{k}{b}(o:∀a,(b a).all D.Yu=true){L:List p}(H:Kq P f h c (λd g=>XJ (λj=>h.length<=j) (h++g) k b d L)):QR P f h c (λd=>d=.imm k L.length λi=>b (L.getD i default)):=by
 refine bU (.imm k L.length λi=>b (L.getD i default)) (λ_=>rfl) ?_ H;rintro d g (⟨rfl,s⟩|⟨l,n,e,rfl,u,r,q⟩)
 .subst s;exact .inl rfl
 .refine .inr ⟨l,n,k,_,e,u,r,λi m=>?_,?_⟩
  .rw[q i m];exact o _
  .have t:D.fz l n L.length k e (.ref l n 0 L.length)=.imm k L.length (rowFrom 0 e):=by simp[D.fz,DI]
   rw[t,DN];refine⟨rfl,rfl,λi m=>?_⟩;rw[DL,Jv,q i m];exact wc (qH _) _
def Qy2(h:List Ob)(l:List ZX)(e g)(c)(x:l.length<1000000)(a:(h.map Ob.ro)[e]? = some ⟨.vO,g,9,l.length,c⟩)(f:∀i,i<l.length->c i=ZX.cells (l.getD i default)):
  Kq prog 64 h [.ref e g 0 l.length] (λd k=>XJ (λj=>h.length<=j) (h++k) 9 ZX.cells d l):=by
 refine Yz J8 200 func64 rfl ntmps64 results64 rfl λo w v F r u m=>?_;rw[<- r]at a;have n:=Qc a;simp only[go_sem,Qa,a,n];refine QyZ xB (by simp only[go_sem];rfl) a rfl rfl rfl λb t=>?_;cases b with
 | true=>
  have s:=t rfl;apply QC m;exact⟨[],(Jl F).symm,.inl ⟨rfl,G0.1 s⟩⟩
 | false=>
  apply Qg m;simp only[go_sem,Qa,a,n];refine⟨⟨ω,λk p=>by rw[f k p];rfl⟩,_,rfl,.inr ⟨F.length,1,_,rfl,ω,by rw[u];exact JZ rfl,λi q=>?_⟩⟩;rw[zM (KF _)];exact f i q
def Qy3(h:List Ob)(l:List ZX)(n:l.length<1000000):Kq prog 64 h [We l] (λd k=>XJ (λj=>h.length<=j) (h++k) 9 ZX.cells d l):=by
 refine Yz J8 200 func64 rfl ntmps64 results64 rfl λe w m F p g a=>?_;simp only[go_sem,Qa];refine Qhs xB (by simp only[go_sem];rfl) rfl rfl λb f=>?_;cases b with
 | true=>
  have c:=f rfl;simp only[go_sem,Oi]at c;apply QC a;exact⟨[],(Jl F).symm,.inl ⟨rfl,G0.1 c⟩⟩
 | false=>
  apply QC a;refine⟨ω,_,rfl,.inr ⟨F.length,1,_,rfl,ω,by rw[g];exact JZ rfl,λi o=>?_⟩⟩;rw[zM (KF _)];rfl
def Qy4(h:List Ob):Kq prog 64 h [.nil] (λd k=>XJ (λj=>h.length<=j) (h++k) 9 ZX.cells d []):=QI.Mt (Qy3 h [] π) ⟨rfl,trivial⟩
def Qy5(l:List ZY){k}(a:k<l.length):l.take (k+1)=l.take k++[l.getD k default]:=by
 rw[E9,QP a,Q5,QP a];rfl
def Qy6(S:ZK)(l:List ZY){k}(a:k<l.length):(VD S (l.take (k+1))).1=(Wv (VD S (l.take k)).1 (l.getD k default)).S/\(VD S (l.take (k+1))).2.2=(VD S (l.take k)).2.2++(Wv (VD S (l.take k)).1 (l.getD k default)).l:=by
 rw[Qy5 l a,Qhc];exact⟨rfl,by simp only[VD,Jl]⟩
structure LpI (c:Cf) (ops:List ZY) (p k lo g:Nat) (h0:List Ob) (Kp:Nat->Prop) (own:Nat->Tag) (tw:Nat->TT) (H:List Ob) (S:ZK) (E:List Ev) (row:Nat->List D):Prop where
 T:Ww own tw H p S
 V:Jd S
 C:EP S
 Qye:S.ops=k
 kp:∀l,l<h0.length->Kp l->H[l]? = h0[l]?/\own l=.no/\tw l=.my
 Zq:H[lo]? = some ⟨.arr,g,12,E.length,row⟩
 rw_:∀i,i<E.length->row i=Ev.cells (E.getD i default)
 my:own lo=.no/\tw lo=.my
 nk:lo<h0.length->¬Kp lo
 S_:S=(VD (S0 c) (ops.take k)).1
 E_:E=(VD (S0 c) (ops.take k)).2.2
 lE:E.length<=5000*k
section
variable {c:Cf}{ops:List ZY}{p k lo g:Nat}{h0:List Ob}{Kp:Nat->Prop}{own:Nat->Tag}{tw:Nat->TT}{H:List Ob}{S:ZK}{E:List Ev}{row:Nat->List D}
end
structure Two (own:Nat->Tag) (tw:Nat->TT) (own':Nat->Tag) (ZO:Nat->TT) (H:List Ob) (p p':Nat) (S S':ZK):Prop where
 a:Ww own tw H p S
 b:Ww own' ZO H p' S'
 ap:∀l,l<H.length->(own l=.no/\tw l=.my)\/(own' l=.no/\ZO l=.my)
section
variable {own own':Nat->Tag}{tw ZO:Nat->TT}{H:List Ob}{p p':Nat}{S S':ZK}
def QEd(own:Nat->Tag)(tw:Nat->TT)(own':Nat->Tag)(ZO:Nat->TT)(l:Nat):Prop:=own l=.no/\tw l=.my/\own' l=.no/\ZO l=.my
end
def Qh5{own}{tw}(Q:∀l,tw l≠.no->own l=.no)(h)(x:qI)(K:zA x.config)(r:x.ops.length<=1000)(m:∀o∈x.ops,ZY.Ok o/\ZY.Small o):
  QI prog 10 h [.agg x.cells] (λd M=>∃a e p,d=.tup [.ptr p 0 0 0,Qb 0]/\Ww a e M p (VD (S0 x.config) x.ops).1/\EP (VD (S0 x.config) x.ops).1/\(VD (S0 x.config) x.ops).1.ops=x.ops.length/\Jd (VD (S0 x.config) x.ops).1/\Z9 h.length own tw h a e M):=by
 have N:(h++[(⟨.one,0,3,1,λ_=>x.cells⟩:Ob)])[h.length]? = some ⟨.one,0,3,1,λ_=>x.cells⟩:=JZ rfl;have j:=Z9.app own tw h [(⟨.one,0,3,1,λ_=>x.cells⟩:Ob)] .my (QB _);have Z:∀l,Z5 tw h .my l≠.no->QV own h .no l=.no:=λl r=>by
  by_cases g:l<h.length
  .rw[Kw g]at r;rw[Ku g];exact Q l r
  .exact km ω
 have L:=Qyk Z (h++[(⟨.one,0,3,1,λ_=>x.cells⟩:Ob)]) K;refine QZ func10 ntmps10 results10 λP w pl b=>?_;simp only[go_sem,Qa];refine A4 b QnI L λd g u=>?_;obtain⟨Je,Vf,p,rfl,z,B⟩:=u;have y:g[h.length]? = some ⟨.one,0,3,1,λ_=>x.cells⟩:=(B.my _ σ (kj (QB _))).trans N;have I:=Qc y;have O:=j.trans (QB _) (B.Xh σ);apply Qg b;simp only[go_sem,Qa,y,I];refine Z4 (λk s=>∃a e H S,(Ww a e H p S/\Jd S/\EP S/\S.ops=k/\S=(VD (S0 x.config) (x.ops.take k)).1/\Z9 h.length own tw h a e H)/\s=⟨[(4,.ptr p 0 0 0),(5,Qb 0),(15,.imm 10 x.ops.length (ZY.rows x.ops)),(16,Qb x.ops.length),(17,Qb k)],H⟩) x.ops.length QN ⟨_,_,_,_,⟨z,Jd.start z,⟨λk=>KF _⟩,rfl,rfl,O⟩,rfl⟩ ?_;clear z B O y I L j N;rintro k _ hk ⟨JM,U,H,S,⟨T,V,C,f,t,D⟩,rfl⟩;by_cases c:k<x.ops.length
 .have v:=Q3 c;have R:=KJ (show k<4611686018427387904 from ω);obtain⟨o,q⟩:∃o,o=x.ops.getD k default:=⟨_,rfl⟩;have i:o∈x.ops:=by rw[q];exact za x.ops default k c
  obtain⟨_,_,_,_,W⟩:=T;have F:=Ot ⟨_,_,_,_,W.x8 [⟨.one,0,10,1,λ_=>o.cells⟩]⟩ V C ω o (m o i).1 (m o i).2.c (m o i).2.r;have j:=Z9.app (n:=H.length) JM U H [⟨.one,0,10,1,λ_=>o.cells⟩] .my (QB _);apply Qg b;simp only[go_sem,Qa,v,c,<- q];refine A4 b My F λd h3 u=>?_;obtain⟨dl,j6,BC,rfl,Y,s3,K3⟩:=u;apply QC b;have J:=(Qy6 (S0 x.config) x.ops c).1;rw[<- t,<- q]at J;have E:h.length<=H.length:=D.len;have D4:=D.trans (QB _) ((j.Xh E).trans ω (K3.Xh (by rw[JJ];omega)));refine⟨c,_,QF.frame (by simp only[go_sem,R]),_,_,_,_,⟨Y,V.do (m o i).1.2.1.2,C.do o,by rw[eK,f],J.symm,D4⟩,rfl⟩
 .obtain rfl:k=x.ops.length:=ω;have v:=QS c;rw[zG]at t;rw[<- t];apply Qg b;simp only[go_sem,Qa,v,c];apply QC b;exact⟨_,_,_,rfl,T,C,f,V,D⟩
def Qza{h:List Ob}{m c}{f:List Zy}(s:(h.map Ob.ro)[m]? = some (QM .i64 c f).ro):Kq prog 110 h [.mref m 0] (λd g=>d=.mref h.length 0/\g=[QM .i64 c f]):=by
 intro Z x w j z u S R y C;match z,y with
 | [v],_=>
 obtain⟨o,p,b,t,J,I,U,H⟩:=Dq (C 0 σ);rw[s]at t;cases t;have E:=H rfl;subst E;have P:v=.map (some b):=I.2;subst P;obtain⟨_,B⟩:=R.at_ m _ b 0 s J;obtain⟨V,M,k,a,r,F,N,L,n,O⟩:=B.map rfl;refine(AnyW.maps_Clone Qep b k a w r).mono ?_;rintro e Q ⟨rfl,rfl⟩;have e:∀b,b<w.heap.size->(w.alloc (.map k a)).heap[b]? = w.heap[b]? := λb r=>kz w _ b r;have T:Go.Fg.Tr (h.map Ob.ro) j w (h.map Ob.ro++[QM .i64 c f]) (j++[some (w.heap.size,0)]) (w.alloc (.map k a)):=Go.Fg.Tr.push R e _ _ (by intro b q h;simp at h;omega);have K:j.length=h.length:=by rw[R.len,JV]
 refine⟨.map (some w.heap.size),.mref h.length 0,h.map Ob.ro++[QM .i64 c f],j++[some (w.heap.size,0)],rfl,⟨_,rfl,rfl,rfl⟩,Zg.LC R e _ (QB _) u ?_,?_,T,BQ u _⟩
 .have hx:OT Z (h.map Ob.ro++[QM .i64 c f]) (j++[some (w.heap.size,0)]) (w.alloc (.map k a)) (QM .i64 c f) w.heap.size 0:=
   ⟨rfl,M,k,a,heap_alloc_new w _,F,N,L.tr T,λi e l=>⟨(n i e l).1,(n i e l).2.1.tr T,(n i e l).2.2.1.tr T,(n i e l).2.2.2.tr T⟩,O⟩
  exact hx
 .exact .mref _ _ (QM .i64 c f) (some (w.heap.size,0)) w.heap.size σ (by rw[<- K];simp) ⟨by simp[QM,VE,Kd.ty],rfl⟩ (QB _) (λ_=>rfl)
def Qzb{h:List Ob}{t}{T}(R:Wq h t T):Kq prog 72 h [.ptr t 0 0 0] (λd g=>d=.ptr (h.length+1) 0 0 0/\Wq (h++g) (h.length+1) T):=by
 obtain⟨m,c,n,a,j,k⟩:=R;refine Yz J8 200 func72 rfl ntmps72 results72 rfl λi w p F e f b=>?_;rw[<- e]at a;have o:=Qc a;simp only[go_sem,Qa,a,o];refine AW b Qb7 rfl ?_ (Qza (Js e _ _ j)) rfl λd h l=>?_
 .simp only[go_sem,Qa]
 obtain⟨rfl,rfl⟩:=l;apply QC b;refine⟨_,rfl,by rw[f],h.length,c,n,?_,?_,k⟩
 .rw[ju,JE σ];simp[Ob.ro];exact⟨rfl,by rw[f]⟩
 .rw[ju,JE σ];simp
def GS{b:Type}[Inhabited b](H:List Ob)(e:Nat)(f:b->List D)(d:D)(l:List b):Prop:=
 (d=.nil/\l=[])\/∃c g a,d=.ref c g 0 l.length/\(H.map Ob.ro)[c]? = some ⟨.vO,g,e,l.length,a⟩/\∀i,i<l.length->a i=f (l.getD i default)
structure OA (H:List Ob) (p:Nat) (S:ZK):Prop where
 ex:∃(ps pl pr pt:Nat) (L:Loc) (a b c:Nat) (dr:D) (le:Nat) (dm:D),(H.map Ob.ro)[p]? = some (qW ps pl pr pt S.Qi S.ops).ro/\XI H ps L S.M/\(H.map Ob.ro)[pl]? = some (qX a b c S.M.lk.t S.Jt).ro/\(H.map Ob.ro)[pr]? = some (EN dr le dm).ro/\GS H 9 ZX.cells dr S.R
 I:Qx S.M
 V:Inv S.M
 sQ:S.R.length<=32
def Ww.toRo{f}{i}{h}{p}{S}(T:Ww f i h p S):OA h p S:=by
 obtain⟨k,m,l,j,T⟩:=T;obtain⟨L,C⟩:=T.co.ex;obtain⟨a,b,c,q⟩:=T.ln;obtain⟨t,o,u,x,w,v,Q⟩:=T.tb;refine⟨⟨k,m,l,j,L,a,b,c,t,o,u,ZG T.o,C.ro,ZG q,ZG Q.o,?_⟩,T.co.I,T.co.V,?_⟩
 .rcases Q.rs with d|⟨n,g,e,d,_,s,r⟩
  .exact .inl d
  .exact .inr ⟨n,g,e,d,ZG s,r⟩
 .have:=Q.ok;unfold YN at this;split at this
  .cases this
  .omega
def OA.more{h h':List Ob}{p}{S}(e:∀(l:Nat) (o:Ob),(h.map Ob.ro)[l]? = some o->(h'.map Ob.ro)[l]? = some o)(T:OA h p S):OA h' p S:=by
 obtain⟨j,m,k,i,L,a,b,c,x,q,y,t,C,u,r,s⟩:=T.ex;refine⟨⟨j,m,k,i,L,a,b,c,x,q,y,e _ _ t,C.more e,e _ _ u,e _ _ r,?_⟩,T.I,T.V,T.sQ⟩;rcases s with d|⟨n,g,f,d,w,v⟩
 .exact .inl d
 .exact .inr ⟨n,g,f,d,e _ _ w,v⟩
def GS.same{a:Type}[Inhabited a]{h F:List Ob}(i:F=h.map Ob.ro){c:Nat}{f:a->List D}{d:D}{l:List a}(H:GS h c f d l):GS F c f d l:=
 H.imp id λ⟨e,g,b,m,k,j⟩=>⟨e,g,b,m,Js i _ _ k,j⟩
def Qzc{h}{c}{R:List ZX}(j:GS h 9 ZX.cells c R)(m:R.length<1000000):QR prog 64 h [c] (λd=>d=We R):=by
 have e:We R=.imm 9 R.length λi=>ZX.cells (R.getD i default):=rfl;rw[e];rcases j with ⟨rfl,rfl⟩|⟨f,g,b,rfl,l,k⟩
 .exact XJ.closed (λa=>rfl) (Qy4 h)
 .exact XJ.closed (λa=>rfl) (Qy2 h R f g b m l k)
def Qzd{h:List Ob}{e k}{i l:D}{R:List ZX}(b:(h.map Ob.ro)[e]? = some (EN i k l).ro)(f:GS h 9 ZX.cells i R)(p:R.length<=32):QR prog 44 h [.ptr e 0 0 0] (λd=>d=We R):=by
 have c:=λ(F:List Ob) (a:F=h.map Ob.ro)=>Qzc (GS.same a f) ω;clear f;refine Zk func44 ntmps44 results44 λj w n F a o g=>?_;rw[<- a]at b;have m:=Qc b;simp only[go_sem,Qa,b,m];refine VP g QbX ?_ (c F a) ?_
 .simp only[go_sem,Qa];exact Cc _
 apply QC g;all_goals exact KY
def Qzf{h:List Ob}{p}{L}{M:Qn}(C:XI h p L M):Kq prog 40 h [.ptr p 0 0 0] (λd g=>d=.ptr (h.length+1) 0 0 0/\Wq (h++g) (h.length+1) M.T):=by
 have a:=C.ob;have j:=C.tr;refine Yz J8 200 func40 rfl ntmps40 results40 rfl λi w n F b f c=>?_;rw[<- b]at a;have m:=Qc a;simp only[go_sem,Qa,a,m];refine AW c Qb1 rfl ?_ (Qzb (j.more (Js b))) rfl λd h k=>?_
 .simp only[go_sem,Qa]
 obtain⟨rfl,R⟩:=k;apply QC c;refine⟨_,rfl,by rw[f],?_⟩;rw[<- f];refine R.more λl o e=>?_;rw[ju]at e ⊢;rwa [b,bE]at e
section
variable {h:List Ob}{p:Nat}{S:ZK}(T:OA h p S)
include T
theorem Qzg:QR prog 17 h [.ptr p 0 0 0] (λd=>d=u64 S.Qi):=by
 obtain⟨l,g,m,k,L,a,b,c,t,n,u,e,C,r,o,q⟩:=T.ex;refine Zk func17 ntmps17 results17 λf w g F i v s=>?_;rw[<- i]at e;have j:=Qc e;simp only[go_sem,Qa,e,j];exact⟨[],(Jl _).symm⟩
theorem Qzh:QR prog 18 h [.ptr p 0 0 0] (λd=>d=u64 S.Jt):=by
 obtain⟨o,j,q,n,L,a,b,c,u,r,v,f,C,k,s,t⟩:=T.ex;have l:=λ(F:List Ob) (e:F=h.map Ob.ro)=>Qhl (h:=F) (Js e _ _ k);clear C;refine Zk func18 ntmps18 results18 λi w j F e x g=>?_;rw[<- e]at f;have m:=Qc f;simp only[go_sem,Qa,f,m];apply ZA g QbT (l F e);apply QC g;all_goals exact KY
theorem Qzi:QR prog 19 h [.ptr p 0 0 0] (λd=>d=u64 S.M.acc):=by
 obtain⟨n,j,o,m,L,a,b,c,u,q,v,f,C,t,r,s⟩:=T.ex;have k:=λ(F:List Ob) (e:F=h.map Ob.ro)=>Qv3 (C.more (Js e));clear C;refine Zk func19 ntmps19 results19 λi w j F e x g=>?_;rw[<- e]at f;have l:=Qc f;simp only[go_sem,Qa,f,l];apply ZA g QnQ (k F e);apply QC g;all_goals exact KY
theorem Qzj:QR prog 28 h [.ptr p 0 0 0] (λd=>d=.agg S.M.lk.cells):=by
 obtain⟨o,k,q,n,L,a,b,c,v,r,x,f,C,u,s,t⟩:=T.ex;have l:=λ(F:List Ob) (e:F=h.map Ob.ro) (G:List Ob)=>Qv4 ((C.more (Js e)).more (wG (g:=G)));clear C;refine Zk func28 ntmps28 results28 λj w k F e y i=>?_;rw[<- e]at f;have m:=Qc f;simp only[go_sem,Qa,f,m];apply ZA i QnX (l F e _);apply QC i;exact⟨_,rfl⟩
theorem Qzk{e}{n}(j:Qj S.M.N e=some n):QR prog 22 h [.ptr p 0 0 0,Qb e] (λd=>d=.tup [.agg (Wf n (Jq S.M e) (V8 S.M e n)),Qb 0]):=by
 obtain⟨s,o,t,r,L,a,b,c,z,u,B,i,C,y,v,x⟩:=T.ex;have l:=λ(F:List Ob) (f:F=h.map Ob.ro) (G:List Ob)=>Qv7 ((C.more (Js f)).more (wG (g:=G))) T.I j (T.V.Am e n j);clear C;rw[Qyn]at l;refine Zk func22 ntmps22 results22 λm w o F f E k=>?_;rw[<- f]at i;have q:=Qc i;simp only[go_sem,Qa,i,q];apply ZA k QnS (l F f _);apply QC k;exact⟨_,rfl,rfl,rfl⟩
theorem Qzl(f):QR prog 24 h [.ptr p 0 0 0,Qb f] (λd=>d=kf (Z8 S.M f)):=by
 obtain⟨o,k,q,n,L,a,b,c,v,r,x,g,C,u,s,t⟩:=T.ex;have l:=λ(F:List Ob) (e:F=h.map Ob.ro)=>Qyv (C.more (Js e)) T.V f;clear C;refine Zk func24 ntmps24 results24 λj w k F e y i=>?_;rw[<- e]at g;have m:=Qc g;simp only[go_sem,Qa,g,m];apply ZA i QnT (l F e);apply QC i;all_goals exact KY
theorem Qzm:QR prog 21 h [.ptr p 0 0 0] (λd=>d=We S.R):=by
 obtain⟨q,j,r,o,L,a,b,c,u,s,v,f,C,t,k,l⟩:=T.ex;have m:=λ(F:List Ob) (e:F=h.map Ob.ro)=>Qzd (h:=F) (Js e _ _ k) (GS.same e l) T.sQ;clear C;refine Zk func21 ntmps21 results21 λi w j F e x g=>?_;rw[<- e]at f;have n:=Qc f;simp only[go_sem,Qa,f,n];apply ZA g QnR (m F e);apply QC g;all_goals exact KY
theorem Qzn:QR prog 16 h [.ptr p 0 0 0] (λd=>d=ints (S.M.T.map (·.iD))):=by
 obtain⟨q,k,r,o,L,a,b,c,x,s,y,g,C,v,t,u⟩:=T.ex;have m:=λ(F:List Ob) (f:F=h.map Ob.ro)=>Qzf (C.more (Js f));have i:=T.I.tree.len;clear C;refine Zk func16 ntmps16 results16 λj w k F f z e=>?_;rw[<- f]at g;have n:=Qc g;simp only[go_sem,Qa,g,n];refine AW e QnP rfl ?_ (m F f) rfl λd h l=>?_
 .simp only[go_sem,Qa]
 obtain⟨rfl,R⟩:=l;apply QC e;apply ZA e aP (bV R ω);apply QC e;exact⟨_,rfl⟩
end
@[go_sem] theorem QEe(l:List Pk):kf l=.imm 6 l.length (Pk.rows l):=rfl
def Qzo(a b:List Pk)(u:a.length<1000000)(v:b.length<1000000):Q6 prog 29 [kf a,kf b] (Zm (QT (Xb wZ a b))):=by
 by_cases l:a.length=b.length
 .have m:(((a.length:Nat):Int) != ((b.length:Nat):Int))=false:=by rw[l];simp
  refine Zs 0 func29 ntmps29 results29 λf w i=>?_;simp only[go_sem];simp only[go_sem,m];refine HO (G:=Nat) [0,1,12,13] (λk=>∀j,j<k->wZ (a.getD j default) (b.getD j default)=true) (λk n=>[(14,Qb k)]) (λk n=>[]) (a.length) (0) rfl (QF.to 0 (by (simp only[go_sem])<;>simp)) ?_ ?_
  .intro j p;omega
  intro k n o q;apply Zd i;have s:=KJ (show k<4611686018427387904 from ω);first|refine jL o (λc=>?_) (λc=>?_)|refine jM o (λc=>?_) (λc=>?_)
  .have t:k<b.length:=ω;simp only[go_sem,c];apply Qw i [0,1,2,3,4,5];simp only[go_sem,c,t];cases g:wZ (a.getD k default) (b.getD k default)
   .have d:=g;simp only[wZ]at d;have e:=fg c g;simp only[go_sem,d,e]
   .have d:=g;simp only[wZ]at d;simp only[go_sem,d];repeat (refine And.intro δ ?_)
    refine⟨_,QF.to 0 (by (simp only[go_sem,s])<;>simp),xA.mk (0) (?_)⟩;intro j p;rcases vK.1 p with r|rfl
    .exact q j r
    .exact g
  .simp only[go_sem];apply Zd i;subst c;have e:Xb wZ a b=true:=Da.2 ⟨l,q⟩;rw[e]
 .have m:(((a.length:Nat):Int) != ((b.length:Nat):Int))=true:=ξ;have e:Xb wZ a b=false:=by
   rw[Ym];intro h;exact l (Da.1 h).1
  rw[e];refine Zs 0 func29 ntmps29 results29 λf w i=>?_;simp only[go_sem];simp only[go_sem,m]
def Qzp(a b:List ZX)(u:a.length<1000000)(v:b.length<1000000):Q6 prog 30 [We a,We b] (Zm (QT (Xb Ap a b))):=by
 by_cases l:a.length=b.length
 .have m:(((a.length:Nat):Int) != ((b.length:Nat):Int))=false:=by rw[l];simp
  refine Zs 0 func30 ntmps30 results30 λf w i=>?_;simp only[go_sem];simp only[go_sem,m];refine HO (G:=Nat) [0,1,12,13] (λk=>∀j,j<k->Ap (a.getD j default) (b.getD j default)=true) (λk n=>[(14,Qb k)]) (λk n=>[]) (a.length) (0) rfl (QF.to 0 (by (simp only[go_sem])<;>simp)) ?_ ?_
  .intro j p;omega
  intro k n o q;apply Zd i;have s:=KJ (show k<4611686018427387904 from ω);first|refine jL o (λc=>?_) (λc=>?_)|refine jM o (λc=>?_) (λc=>?_)
  .have t:k<b.length:=ω;simp only[go_sem,c];apply Qw i [0,1,2,3,4,5];simp only[go_sem,c,t];cases g:Ap (a.getD k default) (b.getD k default)
   .have d:=g;simp only[Ap]at d;have e:=fg c g;simp only[go_sem,d,e]
   .have d:=g;simp only[Ap]at d;simp only[go_sem,d];repeat (refine And.intro δ ?_)
    refine⟨_,QF.to 0 (by (simp only[go_sem,s])<;>simp),xA.mk (0) (?_)⟩;intro j p;rcases vK.1 p with r|rfl
    .exact q j r
    .exact g
  .simp only[go_sem];apply Zd i;subst c;have e:Xb Ap a b=true:=Da.2 ⟨l,q⟩;rw[e]
 .have m:(((a.length:Nat):Int) != ((b.length:Nat):Int))=true:=ξ;have e:Xb Ap a b=false:=by
   rw[Ym];intro h;exact l (Da.1 h).1
  rw[e];refine Zs 0 func30 ntmps30 results30 λf w i=>?_;simp only[go_sem];simp only[go_sem,m]
attribute [go_sem] QyD QhZ
@[go_sem] theorem QEf(n)(a)(f):List.take 67 (Wf n a f)=Wf n a f:=rfl
@[go_sem] theorem QEg(n)(a)(f:Nat):(ET n a f).map cat=[0,0,1,0,0,0,0,0,0,0,0,0,0,0,1,0,1,0,0,0,0,0,0,0,0,1,0,0,0,0,0,0,0,0,1,0,0,0,1,0,0,0,0,0,0,0,0,1,0,1,0,0,0,0,0,0,0,0,1,0,0,0,0,0,0,0,0]:=rfl
def Qzq(a b:List Vg)(u:a.length<1000000)(v:b.length<1000000):Q6 prog 31 [Lf a,Lf b] (Zm (QT (Xb Vg.CZ a b))):=by
 by_cases l:a.length=b.length
 .have m:(((a.length:Nat):Int) != ((b.length:Nat):Int))=false:=by rw[l];simp
  refine Zs 0 func31 ntmps31 results31 λf w i=>?_;simp only[go_sem];simp only[go_sem,m];refine HO (G:=Nat) [0,1,12,13] (λk=>∀j,j<k->Vg.CZ (a.getD j default) (b.getD j default)=true) (λk n=>[(14,Qb k)]) (λk n=>[]) (a.length) (0) rfl (QF.to 0 (by (simp only[go_sem])<;>simp)) ?_ ?_
  .intro j p;omega
  intro k n o q;apply Zd i;have s:=KJ (show k<4611686018427387904 from ω);first|refine jL o (λc=>?_) (λc=>?_)|refine jM o (λc=>?_) (λc=>?_)
  .have t:k<b.length:=ω;simp only[go_sem,c];apply Qw i [0,1,2,3,4,5];simp only[go_sem,c,t];cases g:Vg.CZ (a.getD k default) (b.getD k default)
   .have d:=g;simp only[Vg.CZ]at d;have e:=fg c g;simp only[go_sem,d,e]
   .have d:=g;simp only[Vg.CZ]at d;simp only[go_sem,d];repeat (refine And.intro δ ?_)
    refine⟨_,QF.to 0 (by (simp only[go_sem,s])<;>simp),xA.mk (0) (?_)⟩;intro j p;rcases vK.1 p with r|rfl
    .exact q j r
    .exact g
  .simp only[go_sem];apply Zd i;subst c;have e:Xb Vg.CZ a b=true:=Da.2 ⟨l,q⟩;rw[e]
 .have m:(((a.length:Nat):Int) != ((b.length:Nat):Int))=true:=ξ;have e:Xb Vg.CZ a b=false:=by
   rw[Ym];intro h;exact l (Da.1 h).1
  rw[e];refine Zs 0 func31 ntmps31 results31 λf w i=>?_;simp only[go_sem];simp only[go_sem,m]
def sS(h:List Ob)(v:VJ)(d:D)(g:List Ob):Prop:=∃(b j a f:Nat) (e c:Nat->List D),d=.agg [Qb v.cf.t,Qb v.cf.JU,u64 v.Qi,u64 v.Jt,u64 v.acc,We v.R,.ref b j 0 v.C.length,.ref a f 0 v.Q.length]/\h.length<=b/\h.length<=a /\
  (h++g)[b]? = some ⟨.arr,j,67,v.C.length,e⟩/\(h++g)[a]? = some ⟨.arr,f,1,v.Q.length,c⟩/\(∀i,i<v.C.length->e i=(v.C.getD i default).cells)/\∀i,i<v.Q.length->c i=[kf (v.Q.getD i [])]
def sS.closed{P}{f}{h}{a}{v:VJ}(H:Kq P f h a (sS h v)):QR P f h a (λd=>d=.agg v.cells):=by
 refine Qyw (.agg v.cells) (λ_=>rfl) ?_ H;rintro d g ⟨j,o,b,l,k,m,rfl,w,u,r,n,q,p⟩;have s:b≠j:=λe=>by
  rw[e,r]at n;cases n
 have t:Nat.beq b j=false:=by rw[<- XY,VL];exact s
 refine .inr (.inr ⟨j,o,67,_,k,b,l,1,_,m,w,u,r,n,s,λi c=>by rw[q i c];rfl,λi c=>by rw[p i c];rfl,?_⟩);have y:D.fz j o v.C.length 67 k (.agg [Qb v.cf.t,Qb v.cf.JU,u64 v.Qi,u64 v.Jt,u64 v.acc,We v.R,.ref j o 0 v.C.length,.ref b l 0 v.Q.length])=.agg [Qb v.cf.t,Qb v.cf.JU,u64 v.Qi,u64 v.Jt,u64 v.acc,We v.R,.imm 67 v.C.length (rowFrom 0 k),.ref b l 0 v.Q.length]:=by
  simp[D.fz,q8,DI,t,Qb,u64,We]
 have x:D.fz b l v.Q.length 1 m (.agg [Qb v.cf.t,Qb v.cf.JU,u64 v.Qi,u64 v.Jt,u64 v.acc,We v.R,.imm 67 v.C.length (rowFrom 0 k),.ref b l 0 v.Q.length])=.agg [Qb v.cf.t,Qb v.cf.JU,u64 v.Qi,u64 v.Jt,u64 v.acc,We v.R,.imm 67 v.C.length (rowFrom 0 k),.imm 1 v.Q.length (rowFrom 0 m)]:=by
  simp[D.fz,q8,DI,Qb,u64,We]
 rw[y,x];simp only[VJ.cells,iC,iF];refine⟨rfl,rfl,rfl,rfl,rfl,qH _ _,?_,?_,iE▸trivial⟩
 .simp only[Lf,DN];refine⟨trivial,trivial,λi c=>?_⟩;rw[DL,Jv,q i c];exact wc (qH _) _
 .simp only[Oy,DN];refine⟨trivial,trivial,λi c=>?_⟩;rw[DL,Jv,p i c];exact wc (qH _) _
def Li{h}{p}{S:ZK}(T:OA h p S):QR prog 11 h [.ptr p 0 0 0] (λd=>d=.agg (Ka S).cells):=by
 refine sS.closed ?_;have f:=λ(F:List Ob) (e:F=h.map Ob.ro) (G:List Ob)=>(T.more (Js e)).more (wG (g:=G));have K:=T.I.tree.len;have N:S.M.N.length<=64:=by rw[T.I.nodes,JV]at K;exact K
 refine Yz J8 200 func11 rfl ntmps11 results11 rfl λL w O F e J a=>?_;simp only[go_sem,Qa];apply ZA a QnJ (Qzj (f F e _));apply QC a;apply ZA a QnC (Qzg (f F e _));apply QC a;apply ZA a QnD (Qzh (f F e _));apply QC a;apply ZA a QnE (Qzi (f F e _));apply QC a;apply ZA a QnF (Qzm (f F e _));apply QC a;refine B6 (QF.QhW (F.length+1) 6 67 8 (Vj (k:=1) rfl) σ rfl) ?_;simp only[go_sem,Qa];refine B6 (QF.QhW (F.length+1) 7 1 8 (Vj (k:=1) rfl) σ rfl) ?_;simp only[go_sem,Qa];apply ZA a QnB (Qzn (f F e _));apply QC a;obtain⟨b,x⟩:∃b,b=S.M.T.map (·.iD):=⟨_,rfl⟩;have v:b.length=S.M.N.length:=by rw[x,T.I.nodes];simp
 rw[<- x];refine Z4 (λk s=>∃m t l r G,(∀i,i<k->t i=(S5 S.M (S.M.N.getD i default)).cells)/\(∀i,i<k->r i=[kf (Z8 S.M (S.M.N.getD i default).c.iD)]) /\
  s=⟨[(0,.ptr p 0 0 0),(2,.ptr F.length 0 0 0),(3,.ptr (F.length+1) 0 0 0),(20,ints b),(21,Qb b.length),(22,Qb k)],F++((⟨.one,0,8,1,λ_=>[Qb 0,Qb 0,u64 0,u64 0,u64 0,.nil,.nil,.nil]⟩:Ob)::(⟨.one,0,8,1,λ_=>[Qb S.M.lk.t,Qb S.M.lk.JU,u64 S.Qi,u64 S.Jt,u64 S.M.acc,We S.R,.ref (F.length+2) m 0 k,.ref (F.length+3) l 0 k]⟩:Ob)::(⟨.arr,m,67,k,t⟩:Ob)::(⟨.arr,l,1,k,r⟩:Ob)::G)⟩) b.length QN ⟨0,λ_=>[],0,λ_=>[],[],λi c=>absurd c (XL i),λi c=>absurd c (XL i),rfl⟩ ?_
 rintro k _ P ⟨m,t,l,r,G,E,C,rfl⟩;by_cases o:k<b.length
 .have y:=Q3 o;have M:=KJ (show k<4611686018427387904 from ω);have q:k<S.M.N.length:=ω;obtain⟨n,u⟩:∃n,n=S.M.N.getD k default:=⟨_,rfl⟩;have B:n∈S.M.N:=by rw[u];exact za _ default k q
  obtain⟨id,I⟩:∃id,id=b.getD k 0:=⟨_,rfl⟩;have z:n.c.iD=id:=by rw[I,x,T.I.nodes,u];simp[Q5,q]
  have H:=S6 T.I B;rw[z]at H;apply Qg a;simp only[go_sem,Qa,y,o,<- I];apply ZA a QnG (Qzk (f F e _) H);apply QC a;refine⟨ω,?_⟩;apply Qw a [0,1,2,3,1004,1005,1006,7,1008];simp only[go_sem,Qa];apply V0 a QnH (Qzl (f F e _) id);apply Xy a;refine⟨ω,o,_,QF.frame (by simp only[go_sem,M]),m+1,_,l+1,_,_,λi c=>?_,λi c=>?_,rfl⟩
  .by_cases j:i<k
   .rw[xn j,Jv];exact E i j
   .obtain rfl:i=k:=ω;rw[zM (QB _),<- u];show Wf n (Jq S.M id) (V8 S.M id n)=Wf n (Jq S.M n.c.iD) (V8 S.M n.c.iD n);rw[z]
  .by_cases j:i<k
   .rw[xn j,Jv];exact C i j
   .obtain rfl:i=k:=ω;rw[zM (QB _),<- u,z]
 .obtain rfl:k=b.length:=ω;have y:=QS o;apply Qg a;simp only[go_sem,Qa,y,o];apply QC a;refine⟨_,rfl,F.length+2,m,F.length+3,l,t,r,?_,ω,ω,?_,?_,?_,?_⟩
  .simp[Ka,v];exact⟨rfl,rfl,rfl,rfl,rfl,rfl⟩
  .rw[J,JE ω];simp[Ka,v]
  .rw[J,JE ω];simp[Ka,v]
  .intro i c;have c:i<S.M.N.length:=by simpa[Ka] using c
   rw[E i ω];simp[Ka,Q5,c]
  .intro i c;have c:i<S.M.N.length:=by simpa[Ka] using c
   rw[C i ω];simp[Ka,Q5,c]
structure VJ.Small (v:VJ):Prop where
 R:v.R.length<1000000
 C:v.C.length<1000000
 Q:v.Q.length<1000000
 q:∀q∈v.Q,q.length<1000000
def VJ.Small.at_{v:VJ}(h:v.Small){k}(a:k<v.Q.length):(v.Q.getD k []).length<1000000:=h.q _ (za v.Q [] k a)
def fi(v u:VJ)(i:v.Small)(q:u.Small):Q6 prog 12 [.agg v.cells,.agg u.cells] (Zm (QT (qy v u))):=by
 have F:=Qzp v.R u.R i.R q.R;have H:=Qzq v.C u.C i.C q.C;have J:=i.Q;cases c:(v.cf.t==u.cf.t&&v.cf.JU==u.cf.JU);case false=>
  have e:qy v u=false:=by unfold qy EU;rw[c];rfl
  rw[e];refine Zs 0 func12 ntmps12 results12 λa w b=>?_;simp only[go_sem];simp only[go_sem,c,Go.undef]
 by_cases B:v.Qi=u.Qi;case neg=>
  have e:qy v u=false:=by unfold qy EU;rw[QS B];simp
  have f:=bn (show ((v.Qi:Nat):Int)≠((u.Qi:Nat):Int) from ω);rw[e];refine Zs 0 func12 ntmps12 results12 λa w b=>?_;simp only[go_sem];simp only[go_sem,c,f,Go.undef]
 have f:=bk (show ((v.Qi:Nat):Int)=((u.Qi:Nat):Int) from ω);by_cases n:v.Jt=u.Jt;case neg=>
  have e:qy v u=false:=by unfold qy EU;rw[QS n];simp
  have h:=bn (show ((v.Jt:Nat):Int)≠((u.Jt:Nat):Int) from ω);rw[e];refine Zs 0 func12 ntmps12 results12 λa w b=>?_;simp only[go_sem];simp only[go_sem,c,f,h,Go.undef]
 have h:=bk (show ((v.Jt:Nat):Int)=((u.Jt:Nat):Int) from ω);by_cases z:v.acc=u.acc;case neg=>
  have e:qy v u=false:=by unfold qy EU;rw[QS z];simp
  have p:=bn (show ((v.acc:Nat):Int)≠((u.acc:Nat):Int) from ω);rw[e];refine Zs 0 func12 ntmps12 results12 λa w b=>?_;simp only[go_sem];simp only[go_sem,c,f,h,p,Go.undef]
 have p:=bk (show ((v.acc:Nat):Int)=((u.acc:Nat):Int) from ω);by_cases r:v.Q.length=u.Q.length;case neg=>
  have e:qy v u=false:=by unfold qy EU;rw[QS r];simp
  have s:=bn (show ((v.Q.length:Nat):Int)≠((u.Q.length:Nat):Int) from ω);rw[e];refine Zs 0 func12 ntmps12 results12 λa w b=>?_;simp only[go_sem];simp only[go_sem,c,f,h,p,s,Go.undef]
 have s:=bk (show ((v.Q.length:Nat):Int)=((u.Q.length:Nat):Int) from ω);have E:EU v u=true:=by
  unfold EU;rw[c,Q3 B,Q3 n,Q3 z,Q3 r];rfl
 refine Zs 0 func12 ntmps12 results12 λa w b=>?_;simp only[go_sem];simp only[go_sem,c,f,h,p,s,Go.undef];refine HO (G:=Nat) [2,3,43,44] (λk=>∀j,j<k->Xb wZ (v.Q.getD j []) (u.Q.getD j [])=true) (λk t=>[(4,QT false),(45,Qb k)]) (λk t=>[(⟨.one,0,8,1,λ_=>v.cells⟩:Ob),(⟨.one,0,8,1,λ_=>u.cells⟩:Ob)]) (v.Q.length) (0) rfl (QF.to 2 (by (simp only[go_sem])<;>simp)) ?_ ?_
 .intro j y;omega
 intro k t x C;apply Zd b;have I:=KJ (show k<4611686018427387904 from ω);first|refine jL x (λd=>?_) (λd=>?_)|refine jM x (λd=>?_) (λd=>?_)
 .have g:k<u.Q.length:=ω;have m:=Qzo (v.Q.getD k []) (u.Q.getD k []) (i.at_ d) (q.at_ g);simp only[go_sem,d,g];cases l:Xb wZ (v.Q.getD k []) (u.Q.getD k [])
  .have e:Xb (Xb wZ) v.Q u.Q=false:=fg d l;have o:qy v u=false:=by unfold qy;rw[e,EW,Bool.and_false]
   rw[l]at m;refine Jk b QbQ ?_ m ?_
   .simp only[go_sem,g,o]
   apply Qg b;simp only[go_sem,g,o]
  .rw[l]at m;refine Jk b QbQ ?_ m ?_
   .simp only[go_sem,g]
   apply Qg b;simp only[go_sem,g];repeat (refine And.intro δ ?_)
   refine⟨_,QF.to 2 (by (simp only[go_sem,I])<;>simp),xA.mk (0) (?_)⟩;intro j y;rcases vK.1 y with n|rfl
   .exact C j n
   .exact l
 .subst d;have e:Xb (Xb wZ) v.Q u.Q=true:=Da.2 ⟨r,C⟩;have o:qy v u=(Xb Ap v.R u.R&&Xb Vg.CZ v.C u.C):=by unfold qy;rw[e,E,Df,Df]
  rw[o];simp only[go_sem];apply Zd b;refine Jk b QnK ?_ F ?_
  .simp only[go_sem,Go.undef]
  apply Qg b;simp only[go_sem,Go.undef];cases K:Xb Ap v.R u.R
  .simp only[go_sem,Go.undef]
  .simp only[go_sem,Go.undef];refine Jk b QnL ?_ H ?_
   .simp only[go_sem,Go.undef]
   apply Qg b;simp only[go_sem,Go.undef]
@[go_sem] theorem QEh(n:Nd)(a)(f):List.take 6 (List.drop 61 (Wf n a f))=n.q.Nk:=rfl
@[go_sem] theorem QEi(n:Nd)(a)(f):List.take 61 (Wf n a f)++(.raw (.int .u64 ((n.q.ci:Nat):Int))::.raw (.int .u64 ((n.q.co:Nat):Int))::.raw (.int .u64 0)::.raw (.int .u64 ((n.q.bi:Nat):Int))::.raw (.int .u64 ((n.q.bo:Nat):Int))::.raw (.int .u64 0)::List.drop 67 (Wf n a f))=Wf { n with q:={ n.q with cd:=0,bd:=0 } } a f:=rfl
def Qh7(v:VJ):Nat->List D:=λi=>(v.C.getD i default).calm.cells
def Qh8(v:VJ)(p:v.Small):Q6 prog 33 [.agg v.cells] (Zm (.agg v.calm.cells)):=by
 refine sG (R:=λd m=>∃c g a,d=.agg [Qb v.cf.t,Qb v.cf.JU,u64 v.Qi,u64 v.Jt,u64 v.acc,We v.R,.ref c g 0 v.C.length,Oy v.Q]/\m[c]? = some ⟨.arr,g,67,v.C.length,a⟩/\∀i,i<v.C.length->a i=(v.C.getD i default).calm.cells) _ rfl ?_ ?_
 .rintro d m ⟨c,g,a,rfl,q,l⟩;refine .inr (.inl ⟨c,g,67,_,a,q,λi b=>by rw[l i b];rfl,?_⟩);have u:D.fz c g v.C.length 67 a (.agg [Qb v.cf.t,Qb v.cf.JU,u64 v.Qi,u64 v.Jt,u64 v.acc,We v.R,.ref c g 0 v.C.length,Oy v.Q])=.agg [Qb v.cf.t,Qb v.cf.JU,u64 v.Qi,u64 v.Jt,u64 v.acc,We v.R,.imm 67 v.C.length (rowFrom 0 a),Oy v.Q]:=by
   simp[D.fz,q8,DI,Qb,u64,We,Oy]
  rw[u];simp only[VJ.cells,iC,iF];refine⟨rfl,rfl,rfl,rfl,rfl,qH _ _,?_,qH _ _,iE▸trivial⟩;simp only[Lf,DN];refine⟨trivial,by simp[VJ.calm],λi b=>?_⟩;have b:i<v.C.length:=by simpa[VJ.calm] using b
  rw[DL,Jv,l i b];have t:Vg.rows v.calm.C i=(v.C.getD i default).calm.cells:=by simp[Vg.rows,VJ.calm,Q5,b]
  rw[t];exact wc (qH _) _
 have y:=p.C;refine af J8 200 func33 rfl ntmps33 results33 rfl λo w f=>?_;simp only[go_sem,Qa];refine FD (QF.Qg3 3 67 (by simp only[go_sem])) ?_;simp only[go_sem];refine Z4 (λk s=>∃g,s=⟨[(1,.ptr 0 0 0 0),(2,.ptr 1 0 0 0),(3,.ref 2 g 0 k),(8,Lf v.C),(9,Qb v.C.length),(10,Qb k)],[(⟨.one,0,8,1,λ_=>v.cells⟩:Ob),(⟨.one,0,8,1,λ_=>[Qb 0,Qb 0,u64 0,u64 0,u64 0,.nil,.nil,.nil]⟩:Ob),(⟨.arr,g,67,k,Qh7 v⟩:Ob)]⟩) v.C.length (s0:=⟨[(1,.ptr 0 0 0 0),(2,.ptr 1 0 0 0),(3,.ref 2 0 0 0),(8,Lf v.C),(9,Qb v.C.length),(10,Qb 0)],[(⟨.one,0,8,1,λ_=>v.cells⟩:Ob),(⟨.one,0,8,1,λ_=>[Qb 0,Qb 0,u64 0,u64 0,u64 0,.nil,.nil,.nil]⟩:Ob),(⟨.arr,0,67,0,Qh7 v⟩:Ob)]⟩) (QF.to 3 (by simp only[go_sem];simp)) ⟨0,rfl⟩ ?_;rintro k _ z ⟨g,rfl⟩;by_cases e:k<v.C.length
 .have h:=Q3 e;have x:=KJ (show k<4611686018427387904 from ω);obtain⟨i,b⟩:∃i,i=v.C.getD k default:=⟨_,rfl⟩;apply Qg f;simp only[go_sem,Qa,h,e,<- b];refine⟨ω,_,QF.to 3 ⟨?_,by simp only[go_sem],by simp only[go_sem];exact λj r=>rfl,?_⟩,g+1,rfl⟩
  .simp only[go_sem,x]
  .simp only[go_sem];intro j r;by_cases n:j<k
   .rw[Q3 n];rfl
   .obtain rfl:j=k:=ω;rw[QS n,b];rfl
 .obtain rfl:k=v.C.length:=ω;have h:=QS e;apply Qg f;simp only[go_sem,Qa,h,e];apply QC f;exact⟨2,g,_,rfl,rfl,λi b=>rfl⟩
def sV(v u:VJ)(b:v.Small)(c:u.Small):Q6 prog 14 [.agg v.cells,.agg u.cells] (Zm (QT (S7 v u))):=by
 have j:=Qh8 v b;have i:=Qh8 u c;have g:=fi v.calm u.calm ⟨b.R,by simpa[VJ.calm] using b.C,b.Q,b.q⟩ ⟨c.R,by simpa[VJ.calm] using c.C,c.Q,c.q⟩;refine Zs 0 func14 ntmps14 results14 λf w a=>?_;simp only[go_sem];apply Qw a [0,2,1001,1003,1004,5];simp only[go_sem];refine Qaz a QbR rfl ?_ j rfl λd h e=>?_
 .simp only[go_sem]
 obtain⟨rfl,rfl⟩:=e;simp only[go_sem];apply VG a;refine Qaz a QbR rfl ?_ i rfl λd h e=>?_
 .simp only[go_sem]
 obtain⟨rfl,rfl⟩:=e;simp only[go_sem];apply VG a;apply Vc a aN g;apply VG a;rfl
def Qh9(v:VJ)(o:v.Small):Q6 prog 26 [.agg v.cells] (Zm (QT (Lg v))):=by
 have t:=o.Q;refine Zs 0 func26 ntmps26 results26 λn w g=>?_;simp only[go_sem];refine HO (G:=Nat) [1,6,7] (λk=>∀j,j<k->(v.Q.getD j []).length=0) (λk b=>[(2,QT false),(8,Qb k)]) (λk b=>[(⟨.one,0,8,1,λ_=>v.cells⟩:Ob)]) (v.Q.length) (0) rfl (QF.to 1 (by (simp only[go_sem])<;>simp)) ?_ ?_
 .intro j d;omega
 intro k b c m;apply Zd g;have s:=KJ (show k<4611686018427387904 from ω);first|refine jL c (λa=>?_) (λa=>?_)|refine jM c (λa=>?_) (λa=>?_)
 .simp only[go_sem,a];by_cases l:(v.Q.getD k []).length=0
  .have d0:=QS (show ¬(0:Int)<(((v.Q.getD k []).length:Nat):Int) by omega);simp only[go_sem,d0];repeat (refine And.intro δ ?_)
   refine⟨_,QF.to 1 (by (simp only[go_sem,s])<;>simp),xA.mk (0) (?_)⟩;intro j d;rcases vK.1 d with r|rfl
   .exact m j r
   .exact l
  .have d0:=Q3 (show (0:Int)<(((v.Q.getD k []).length:Nat):Int) by omega);have e:Lg v=false:=by
    unfold Lg;rw[EV];left;rw[Ym];intro h;have:=YS.1 h _ (za v.Q [] k a);exact l (Yo this)
   simp only[go_sem,d0,e]
 .subst a;have e:Lg v=decide (v.Jt<=v.Qi):=by
   unfold Lg;have:(v.Q.all λq=>decide (q.length=0))=true:=YS.2 λq p=>by
    obtain⟨i,f,rfl⟩:=yh p;have:=m i f;rw[Q5,QP f]at this;exact Q3 this
   rw[this,Df]
  rw[e];simp only[go_sem];exact ze g
def Lj{a}{c}{h}{p}{S:ZK}(T:Ww a c h p S):(Ka S).Small:=by
 have R:=T.toRo;obtain⟨_,_,_,_,e⟩:=T;have b:=R.I.tree.len;have f:S.M.N.length<=64:=by rw[R.I.nodes,JV]at b;exact b
 have g:=R.sQ;refine⟨by show S.R.length<_;omega,by simp[Ka];omega,by simp[Ka];omega,λq d=>?_⟩;obtain⟨n,_,rfl⟩:=Jm.1 d;have:=e.co.q64 n.c.iD;show (Z8 S.M n.c.iD).length<_;omega
def GU(t:Nat):ZY:=⟨4,[],[],⟨0,0,0,0,0,0⟩,t⟩
@[go_sem] def Qzt(t:Nat):List D:=[Qb 4,.nil,.nil,.raw (.int .u64 0),.raw (.int .i64 0),.raw (.int .u16 0),.raw (.int .u16 0),.raw (.int .u16 0),.raw (.int .u16 0),.raw (.int .u64 (t:Int))]
def Qia(p t:Nat):Yy (JG 6) [.ptr p 0 0 0,.agg (Qzt t)] [.ptr p 0 0 0,.agg (GU t).cells]:=⟨rfl,⟨rfl,rfl,rfl,rfl,rfl,rfl,rfl,rfl,rfl,rfl,trivial⟩,trivial⟩
def Qzv:ZY.Ok (GU 200):=⟨π,⟨π,λa h=>by cases h⟩,⟨π,λa h=>by cases h⟩,⟨π,π,π,π,π,π,trivial⟩,π,trivial⟩
def yL:qI:=⟨c6,[S8,Ox,qx]⟩
@[go_sem] def fj:List D:=[Qb 3,.nil,.nil,.raw (.int .u64 7),.raw (.int .i64 100),.raw (.int .u16 0),.raw (.int .u16 0),.raw (.int .u16 0),.raw (.int .u16 0),.raw (.int .u64 0)]
def Qib(p):Yy (JG 6) [.ptr p 0 0 0,.agg fj] [.ptr p 0 0 0,.agg qx.cells]:=⟨rfl,⟨rfl,rfl,rfl,rfl,rfl,rfl,rfl,rfl,rfl,rfl,trivial⟩,trivial⟩
def Qzw:∀o∈[S8,Ox,qx],ZY.Ok o/\ZY.Small o:=by
 have c:Pk.Ok ⟨0,0,0,0,0,0⟩:=⟨π,π,π,π,π,π,trivial⟩;have e:Jr.Ok GR:=⟨π,⟨π,π,trivial,⟨π,π,π,trivial⟩,⟨π,π,π,trivial⟩,⟨π,π,π,trivial⟩,π,π,trivial⟩,trivial⟩;intro o b;simp only[QE,Tt,or_false]at b;rcases b with rfl|rfl|rfl
 .exact⟨⟨π,⟨π,λa d=>by obtain rfl:=qz.1 d;exact e⟩,⟨π,λa h=>(by cases h)⟩,c,π,trivial⟩,π,π⟩
 .exact sJ _ (by simp[S4])
 .exact sJ _ (by simp[S4])
def Qzx:Q6 prog 9 [] (Zm (QT true)):=by
 refine sG (R:=λd hh=>d=QT true) _ rfl (λd hh h=>.inl (h▸qH _ _)) ?_;refine af J8 200 func9 rfl ntmps9 results9 rfl λa9 w a=>?_;simp only[go_sem,Qa];refine B6 (QF.freeze rfl 2 rfl rfl (λi n=>?_)) ?_
 .obtain rfl:i=0:=(by have:i<1:=n;omega);rfl
 simp only[go_sem];refine B6 (QF.freeze rfl 3 rfl rfl (λi n=>?_)) ?_
 .obtain rfl:i=0:=(by have:i<1:=n;omega);rfl
 simp only[go_sem];refine B6 (QF.freeze rfl 4 rfl rfl (λi n=>?_)) ?_
 .obtain rfl|rfl|rfl:i=0\/i=1\/i=2:=(by have:i<3:=n;omega);all_goals rfl
 simp only[go_sem];refine B6 (QF.Qyy (d':=.agg yL.cells) 23 ?_) ?_
 .simp only[go_sem];refine⟨rfl,rfl,rfl,λi n=>?_⟩;match i,n with
  | 0,_=>exact⟨rfl,⟨rfl,rfl,λj P=>by match j,P with|0,_=>exact wc (qH _) _|j+1,h=>exact absurd (show j+1<1 from h) ω⟩,rfl,rfl,rfl,rfl,rfl,rfl,rfl,rfl,trivial⟩
  | 1,_=>exact⟨rfl,rfl,⟨rfl,rfl,λj P=>by match j,P with|0,_=>exact wc (qH _) _|j+1,h=>exact absurd (show j+1<1 from h) ω⟩,rfl,rfl,rfl,rfl,rfl,rfl,rfl,trivial⟩
  | 2,_=>exact⟨rfl,rfl,rfl,rfl,rfl,rfl,rfl,rfl,rfl,rfl,trivial⟩
  | j+3,h=>exact absurd (show j+3<3 from h) ω
 simp only[go_sem];have K6:zA c6:=⟨π,π,π,π⟩;have a8:∀o∈yL.ops,ZY.Ok o/\ZY.Small o:=Qzw;have hA:=Qh5 (own:=λ_=>.no) (tw:=λ_=>.my) (λ_ _=>rfl) [(⟨.one,0,14,1,λ_=>GR.cls.cells⟩:Ob),(⟨.one,0,10,1,λ_=>fj⟩:Ob),⟨.arr,1,15,0,λ_=>[]⟩,⟨.arr,1,9,0,λ_=>[]⟩,⟨.arr,1,10,0,λ_=>[]⟩] yL K6 π a8;rw[show (VD (S0 yL.config) yL.ops).1=Db from QyQ]at hA;have a1:=QyR;have a2:=QyS;have a3:=QyT;have a4:=QyU;have a5:=QyV;have a6:=QyW;have a7:=QyX;have l:ZY.Ok qx/\ZY.Small qx:=sJ _ (by simp[S4]);have rb:Lh=(Wv Db qx).S:=rfl;have rd:Oz=(Wv Lh qx).S:=rfl;have re:sP=(Wv Oz (GU 200)).S:=rfl;generalize sP=Se at *;generalize Oz=Sd at *;generalize Lh=J at *;generalize Db=m at *;refine Jb a QbO hA λd r q=>?_;obtain⟨Je,Vf,p,rfl,V,C1,n1,V1,D1⟩:=q;have C:r[1]? = some (⟨.one,0,10,1,λ_=>fj⟩:Ob):=D1.my 1 σ rfl;have v:=Qc C;apply Qg a;simp only[go_sem,Qa,C,v];apply ZA a HS (Li V.toRo);apply Qg a;simp only[go_sem,Qa,C,v];have n1:m.ops=3:=n1;have y:=Lj V;have t1:Vf 1=.my:=D1.s2 1 σ;obtain⟨_,_,_,_,sW⟩:=V;have s:=QI.Mt (Ot ⟨_,_,_,_,sW.x8 [(⟨.one,0,8,1,λ_=>(Ka m).cells⟩:Ob)]⟩ V1 C1 ω qx l.1 l.2.c l.2.r) (Qib p);refine Jb a My s λd t q=>?_;obtain⟨dl,JM,VW,rfl,I,s2,M⟩:=q;have T:=V1.do l.1.2.1.2;have Y:=C1.do qx;have n2:=eK m qx;rw[<- rb]at I T Y n2;have O:t[1]? = some (⟨.one,0,10,1,λ_=>fj⟩:Ob):=(M.my 1 ξ ((Kw v).trans t1)).trans ((QG v).trans C);have B:t[r.length]? = some (⟨.one,0,8,1,λ_=>(Ka m).cells⟩:Ob):=(M.my _ σ (kj (QB _))).trans (JZ rfl);have x:=Qc O;have u:=Qc B;have b0:VW 1=.my:=(M.s2 1 ξ).trans ((Kw v).trans t1);have fk:VW r.length=.my:=(M.s2 _ σ).trans (kj (QB _));apply Qg a;simp only[go_sem,Qa,O,x,B,u];apply ZA a HS (Li I.toRo);apply Qg a;simp only[go_sem,Qa,O,x,B,u];have N:=Lj I;obtain⟨_,_,_,_,sX⟩:=I;have s:=QI.Mt (Ot ⟨_,_,_,_,sX.x8 [(⟨.one,0,8,1,λ_=>(Ka J).cells⟩:Ob)]⟩ T Y ω qx l.1 l.2.c l.2.r) (Qib p);refine Jb a My s λd S q=>?_;obtain⟨b2,j6,BC,rfl,H,s3,L⟩:=q;have V3:=T.do l.1.2.1.2;have C3:=Y.do qx;have n3:=eK J qx;rw[<- rd]at H V3 C3 n3;have z:S[r.length]? = some (⟨.one,0,8,1,λ_=>(Ka m).cells⟩:Ob):=(L.my _ ξ ((Kw u).trans fk)).trans ((QG u).trans B);have E:S[t.length]? = some (⟨.one,0,8,1,λ_=>(Ka J).cells⟩:Ob):=(L.my _ σ (kj (QB _))).trans (JZ rfl);have K:=Qc z;have F:=Qc E;have Z:BC r.length=.my:=(L.s2 _ ξ).trans ((Kw u).trans fk);have a0:BC t.length=.my:=(L.s2 _ σ).trans (kj (QB _));apply Qg a;simp only[go_sem,Qa,z,K,E,F];apply ZA a HS (Li H.toRo);apply Qg a;simp only[go_sem,Qa,z,K,E,F];have z3:=Lj H;obtain⟨_,_,_,_,sY⟩:=H;have s:=QI.Mt (Ot ⟨_,_,_,_,sY.x8 [(⟨.one,0,8,1,λ_=>(Ka Sd).cells⟩:Ob)]⟩ V3 C3 ω (GU 200) Qzv π π) (Qia p 200);refine Jb a My s λd Q q=>?_;obtain⟨b1,Sq,ss,rfl,U,s4,W⟩:=q;rw[<- re]at U;have b:Q[r.length]? = some (⟨.one,0,8,1,λ_=>(Ka m).cells⟩:Ob):=(W.my _ ξ ((Kw K).trans Z)).trans ((QG K).trans z);have e:Q[t.length]? = some (⟨.one,0,8,1,λ_=>(Ka J).cells⟩:Ob):=(W.my _ ξ ((Kw F).trans a0)).trans ((QG F).trans E);have c:Q[S.length]? = some (⟨.one,0,8,1,λ_=>(Ka Sd).cells⟩:Ob):=(W.my _ σ (kj (QB _))).trans (JZ rfl);have k:=Qc b;have g:=Qc e;have f:=Qc c;have z4:=Lj U;have f1:=Qh9 _ y;have f2:=sV _ _ y N;have f3:=fi _ _ N z3;have f4:=sV _ _ N z3;have f5:=fi _ _ y y;have f6:=Qh9 _ z4;rw[a1]at f1;rw[a2]at f2;rw[a3]at f3;rw[a4]at f4;rw[sN]at f5;rw[a5]at f6;have b6:=qa (show (((Ka m).C.length:Nat):Int)=1 by omega);have b7:=qa (show (((Ka m).Jt:Nat):Int)=100 by omega);apply Qg a;simp only[go_sem,Qa,b,k,e,g,c,f];refine Jk a QbP ?_ f1 ?_
 .simp only[go_sem,Qa,Go.undef,b,k,e,g,c,f]
 apply Qg a;simp only[go_sem,Qa,Go.undef,b,k,e,g,c,f];refine Jk a iG ?_ f2 ?_
 .simp only[go_sem,Qa,Go.undef,b,k,e,g,c,f]
 apply Qg a;simp only[go_sem,Qa,Go.undef,b,k,e,g,c,f];refine Jk a aN ?_ f3 ?_
 .simp only[go_sem,Qa,Go.undef,b,k,e,g,c,f]
 apply Qg a;simp only[go_sem,Qa,Go.undef,b,k,e,g,c,f];refine Jk a iG ?_ f4 ?_
 .simp only[go_sem,Qa,Go.undef,b,k,e,g,c,f]
 apply Qg a;simp only[go_sem,Qa,Go.undef,b,k,e,g,c,f];refine Jk a aN ?_ f5 ?_
 .simp only[go_sem,Qa,Go.undef,b,k,e,g,c,f]
 apply Qg a;simp only[go_sem,Qa,Go.undef,b,k,e,g,c,f];refine VP a HS ?_ (Li U.toRo) ?_
 .simp only[go_sem,Qa,Qa,Go.undef,b,k,e,g,c,f]
 apply Qg a;simp only[go_sem,Qa,Qa,Go.undef,b,k,e,g,c,f];refine Jk a QbP ?_ f6 ?_
 .simp only[go_sem,Qa,Go.undef,b,k,e,g,c,f,b6,b7]
 apply Qg a;simp only[go_sem,Qa,Go.undef,b,k,e,g,c,f,b6,b7]
def QzC{x:qI}{m}(h:CY x m=true)(d:∀a∈x.ops,ZY.Ok a):x.ops.length<=m/\∀o∈x.ops,ZY.Ok o/\ZY.Small o:=by
 simp only[CY,ZH,XZ]at h;obtain⟨b,e⟩:=h;refine⟨b,λo c=>?_⟩;have:=YS.1 e o c;simp only[Le,ZH,XZ]at this;exact⟨d o c,ω,ω⟩
end Go.Fg.X
namespace Go.Fg.X
open Go.Proofs Go.Fg
open Go.Proofs.Tryz
def QCm(a b:List ZX)(u:a.length<1000000)(v:b.length<1000000):Q6 prog 20 [We a,We b] (Zm (QT (Xb Ap a b))):=by
 by_cases l:a.length=b.length
 .have m:(((a.length:Nat):Int) != ((b.length:Nat):Int))=false:=by rw[l];simp
  refine Zs 0 func20 ntmps20 results20 λf w i=>?_;simp only[go_sem];simp only[go_sem,m];refine HO (G:=Nat) [0,1,12,13] (λk=>∀j,j<k->Ap (a.getD j default) (b.getD j default)=true) (λk n=>[(14,Qb k)]) (λk n=>[]) (a.length) (0) rfl (QF.to 0 (by (simp only[go_sem])<;>simp)) ?_ ?_
  .intro j p;omega
  intro k n o q;apply Zd i;have s:=KJ (show k<4611686018427387904 from ω);first|refine jL o (λc=>?_) (λc=>?_)|refine jM o (λc=>?_) (λc=>?_)
  .have t:k<b.length:=ω;simp only[go_sem,c];apply Qw i [0,1,2,3,4,5];simp only[go_sem,c,t];cases g:Ap (a.getD k default) (b.getD k default)
   .have d:=g;simp only[Ap]at d;have e:=fg c g;simp only[go_sem,d,e]
   .have d:=g;simp only[Ap]at d;simp only[go_sem,d];repeat (refine And.intro δ ?_)
    refine⟨_,QF.to 0 (by (simp only[go_sem,s])<;>simp),xA.mk (0) (?_)⟩;intro j p;rcases vK.1 p with r|rfl
    .exact q j r
    .exact g
  .simp only[go_sem];apply Zd i;subst c;have e:Xb Ap a b=true:=Da.2 ⟨l,q⟩;rw[e]
 .have m:(((a.length:Nat):Int) != ((b.length:Nat):Int))=true:=ξ;have e:Xb Ap a b=false:=by
   rw[Ym];intro h;exact l (Da.1 h).1
  rw[e];refine Zs 0 func20 ntmps20 results20 λf w i=>?_;simp only[go_sem];simp only[go_sem,m]
def QCo(a b:List Pk)(u:a.length<1000000)(v:b.length<1000000):Q6 prog 23 [kf a,kf b] (Zm (QT (Xb wZ a b))):=by
 by_cases l:a.length=b.length
 .have m:(((a.length:Nat):Int) != ((b.length:Nat):Int))=false:=by rw[l];simp
  refine Zs 0 func23 ntmps23 results23 λf w i=>?_;simp only[go_sem];simp only[go_sem,m];refine HO (G:=Nat) [0,1,12,13] (λk=>∀j,j<k->wZ (a.getD j default) (b.getD j default)=true) (λk n=>[(14,Qb k)]) (λk n=>[]) (a.length) (0) rfl (QF.to 0 (by (simp only[go_sem])<;>simp)) ?_ ?_
  .intro j p;omega
  intro k n o q;apply Zd i;have s:=KJ (show k<4611686018427387904 from ω);first|refine jL o (λc=>?_) (λc=>?_)|refine jM o (λc=>?_) (λc=>?_)
  .have t:k<b.length:=ω;simp only[go_sem,c];apply Qw i [0,1,2,3,4,5];simp only[go_sem,c,t];cases g:wZ (a.getD k default) (b.getD k default)
   .have d:=g;simp only[wZ]at d;have e:=fg c g;simp only[go_sem,d,e]
   .have d:=g;simp only[wZ]at d;simp only[go_sem,d];repeat (refine And.intro δ ?_)
    refine⟨_,QF.to 0 (by (simp only[go_sem,s])<;>simp),xA.mk (0) (?_)⟩;intro j p;rcases vK.1 p with r|rfl
    .exact q j r
    .exact g
  .simp only[go_sem];apply Zd i;subst c;have e:Xb wZ a b=true:=Da.2 ⟨l,q⟩;rw[e]
 .have m:(((a.length:Nat):Int) != ((b.length:Nat):Int))=true:=ξ;have e:Xb wZ a b=false:=by
   rw[Ym];intro h;exact l (Da.1 h).1
  rw[e];refine Zs 0 func23 ntmps23 results23 λf w i=>?_;simp only[go_sem];simp only[go_sem,m]
end Go.Fg.X
