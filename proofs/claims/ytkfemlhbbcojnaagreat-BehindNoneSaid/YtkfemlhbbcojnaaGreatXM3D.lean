/- Contracts and laws on the way to the statement. No conditions. -/
import Derived.Test.YtkfemlhbbcojnaaGreatTA3D
import Derived.Test.YtkfemlhbbcojnaaGreatCA3D
import Derived.Test.YtkfemlhbbcojnaaGreatSCaD
import Derived.Test.YtkfemlhbbcojnaaGreatSU1D
set_option maxRecDepth 100000
set_option maxHeartbeats 16000000
set_option linter.unusedVariables false
set_option linter.unusedSimpArgs false
set_option linter.unusedSectionVars false
set_option linter.defProp false
namespace Go.Fg.X
open Go.Proofs Go.Fg
open Go.Proofs.Tryz
def Qzp(h:List Ob):QH prog 82 h [] (λd h'=>d=.ptr (h.length+2) 0 0 0/\h'=h++[QK .i64 0 [],QK .i64 0 [],tP h.length (h.length+1)]):=by
 refine QQ func82 ntmps82 results82 λbase w pl hb=>?_;simp only[go_sem,Qe]
def EX.put{S}{h h'}{p cm rm c1}{Zx}{c2}{Z1}{s}(T:EX S h p cm rm c1 Zx c2 Z1 s){cls}{d}{l}(lo)
  (hc:h'[cm]? = some (JZ .i64 c1 Zx cls d)) (ho:∀j o,h[j]? = some o->j≠cm->j≠lo->h'[j]? = some o) (hd:LG (more S h) h' d l) (hl:∀j g off n,d=.ref j g off n->j=lo)
  (hs:∀k j g off n,k≠cls->ZL Zx k=some (.ref j g off n)->j≠lo) (hp:p≠lo) (hr:rm≠lo) :
  YS (more S h) h' p { s with Jc:=λk=>if k=cls then l else s.Jc k }:=by
 obtain⟨c',es',h3,h4⟩:=Qaz .i64 c1 Zx cls d;have Rh:p≠cm:=λe=>by have:=T.o;rw[e,T.co]at this;cases this
 refine⟨cm,rm,c',es',c2,Z1,ho _ _ T.o Rh hp,by rw[hc,h3],ho _ _ T.ro (Q3 T.ne) hr,T.ne,.inl T.sp,.inl T.sc,.inl T.sr,λk=>?_,λk1 k2 j g off n g' vQ n' h1 h2=>?_,T.rw_⟩
 .rw[h4 k];by_cases hk:k=cls
  .rw[Qd hk];dsimp only;rw[Qd hk];exact hd
  .rw[Qc hk];dsimp only;rw[Qc hk];rcases T.ca k with ⟨h1,h2⟩|⟨j,g,off,row,h1,h2,h5,h6⟩
   .exact .inl ⟨h1,h2⟩
   .have Jf:ZL Zx k=some (.ref j g off (s.Jc k).length):=by
     cases ha:ZL Zx k with
     | none=>rw[ha]at h1;cases h1
     | some d'=>rw[ha]at h1;exact congrArg some h1
    refine .inr ⟨j,g,off,row,h1,.inl h2,ho j _ h5 (λe=>?_) (hs k _ _ _ _ hk Jf),h6⟩;rw[e,T.co]at h5;cases h5
 .rw[h4 k1]at h1;rw[h4 k2]at h2;by_cases a1:k1=cls<;>by_cases a2:k2=cls
  .rw[a1,a2]
  .rw[Qd a1]at h1;rw[Qc a2]at h2;exact absurd (hl _ _ _ _ (Mf h1)) (hs k2 _ _ _ _ a2 h2)
  .rw[Qc a1]at h1;rw[Qd a2]at h2;exact absurd (hl _ _ _ _ (Mf h2)) (hs k1 _ _ _ _ a1 h1)
  .rw[Qc a1]at h1;rw[Qc a2]at h2;exact T.sep k1 k2 j g off n g' vQ n' h1 h2
def Qzq{S}{h}{p}{s:Da}(T:YS S h p s)(cls:Int)(a)(hb:(s.Jc cls).length<1000000):
  QH prog 149 h [.ptr p 0 0 0,Qa cls,u64 a] (λd h'=>d=Qa 0/\Step S h h'/\YS (more S h) h' p (vw s cls a)):=by
 obtain⟨cm,rm,c1,Zx,c2,Z1,T⟩:=T;have ho:=T.o;have hm:=T.co;have Ql:=Qb ho;have Zg:=Qb hm;have hp:=T.ca cls;have Rh:p≠cm:=λe=>by rw[e,hm]at ho;cases ho
 have ZO:vw s cls a={ s with Jc:=λk=>if k=cls then s.Jc cls++[a] else s.Jc k }:=by
  unfold vw;congr 1;funext k;by_cases hk:k=cls
  .rw[Qd hk,Qd hk,hk]
  .rw[Qc hk,Qc hk]
 rw[ZO];have PM:∀k j g off n,ZL Zx k=some (.ref j g off n)->j<h.length:=λk j g off n hk=>by
  rcases T.ca k with ⟨h1,_⟩|⟨j',_,_,_,h1,_,h3,_⟩
  .rw[hk]at h1;cases h1
  .rw[hk]at h1;cases h1;exact Qb h3
 have new:(ZL Zx cls=none\/ZL Zx cls=some .nil)->s.Jc cls=[]->Step S h (h.set cm (JZ .i64 c1 Zx cls (.ref (h.length+1) 0 0 1))++[⟨.arr,0,1,1,λ_=>[u64 a]⟩,⟨.arr,0,1,1,λ_=>[u64 a]⟩]) /\
   YS (more S h) (h.set cm (JZ .i64 c1 Zx cls (.ref (h.length+1) 0 0 1))++[⟨.arr,0,1,1,λ_=>[u64 a]⟩,⟨.arr,0,1,1,λ_=>[u64 a]⟩]) p { s with Jc:=λk=>if k=cls then s.Jc cls++[a] else s.Jc k }:=λhk hw=>by
  refine⟨⟨λl hl hn=>?_,σ⟩,T.put (d:=.ref (h.length+1) 0 0 1) (h.length+1) ?_ (λj o hj h1 h2=>?_) (.inr ⟨h.length+1,0,0,λ_=>[u64 a],by simp[hw],.inr ω,?_,λi hi=>?_⟩) (λj g off n e=>by cases e;rfl) (λk j g off n _ Jf=>by have:=PM k _ _ _ _ Jf;omega) ω (by have:=Qb T.ro;omega)⟩
  .rw[QG (by simpa using hl),Qr (λe=>hn (by rw[<- e];exact T.sc))]
  .rw[QG (by simpa using Zg),QE Zg]
  .rw[QG (by simpa using Qb hj),Qr (Q3 h1),hj]
  .rw[VD (k:=1) σ,hw];rfl
  .rw[hw]at hi ⊢;simp at hi;subst hi;rfl
 cases hk:ZL Zx cls with
 | none=>
  rw[hk]at hp;have fin:=new (.inl hk) hp.nil;refine QQ func149 ntmps149 results149 λbase w pl hb=>?_;have Ql:=Qb ho;have Zg:=Qb hm;simp only[go_sem];apply Vk [] hb [0,1,2,4,5,6,7,8,9,10,11] [3,12,13,14];simp only[go_sem,Qe,ho,Ql,hm,Zg,hk];simp only[go_sem]at fin ⊢
  repeat' apply And.intro
  all_goals first|exact fin.1|exact fin.2
 | some d=>
  rw[hk]at hp;rcases hp with ⟨h2,h3⟩|⟨lo,g,off,row,h2,hS,h3,h4⟩
  .simp only[KR]at h2;subst h2;have fin:=new (.inr hk) h3;refine QQ func149 ntmps149 results149 λbase w pl hb=>?_;have Ql:=Qb ho;have Zg:=Qb hm;simp only[go_sem];apply Vk [] hb [0,1,2,4,5,6,7,8,9,10,11] [3,12,13,14];simp only[go_sem,Qe,ho,Ql,hm,Zg,hk];simp only[go_sem]at fin ⊢
   repeat' apply And.intro
   all_goals first|exact fin.1|exact fin.2
  .simp only[KR]at h2;subst h2;have n1:lo≠p:=λe=>by rw[e,ho]at h3;cases h3
   have n2:lo≠cm:=λe=>by rw[e,hm]at h3;cases h3
   have n3:lo≠rm:=λe=>by rw[e,T.ro]at h3;cases h3
   have CI:(s.Jc cls).length<=4294967295:=ω;have h9:(s.Jc cls).length+1<=4294967295:=ω;have KB:=Qb h3;have fin:Step S h ((h.set lo ⟨.arr,g+1,1,(s.Jc cls).length+1,Kt (s.Jc cls).length off row λ_=>[u64 a]⟩).set cm (JZ .i64 c1 Zx cls (.ref lo (g+1) 0 ((s.Jc cls).length+1)))++[⟨.arr,0,1,1,λ_=>[u64 a]⟩]) /\
     YS (more S h) ((h.set lo ⟨.arr,g+1,1,(s.Jc cls).length+1,Kt (s.Jc cls).length off row λ_=>[u64 a]⟩).set cm (JZ .i64 c1 Zx cls (.ref lo (g+1) 0 ((s.Jc cls).length+1)))++[⟨.arr,0,1,1,λ_=>[u64 a]⟩]) p { s with Jc:=λk=>if k=cls then s.Jc cls++[a] else s.Jc k }:=by
    refine⟨⟨λl hl hn=>?_,σ⟩,T.put (d:=.ref lo (g+1) 0 ((s.Jc cls).length+1)) lo ?_ (λj o hj h1 h2=>?_) (.inr ⟨lo,g+1,0,Kt (s.Jc cls).length off row λ_=>[u64 a],σ,.inl hS,?_,λi hi=>?_⟩) (λj g off n e=>by cases e;rfl) (λk j g' vQ n' QA ZJ e=>?_) (Q3 n1) (Q3 n3)⟩
    .rw[QG (by simpa using hl),Qr (λe=>hn (by rw[<- e];exact T.sc)),Qr (λe=>hn (by rw[<- e];exact hS))]
    .rw[QG (by simpa using Zg),QE (by simpa using Zg)]
    .rw[QG (by simpa using Qb hj),Qr (Q3 h1),Qr (Q3 h2),hj]
    .rw[QG (by simpa using KB),Qr (Q3 n2),QE KB];simp
    .simp at hi;rw[JD];by_cases qh:i<(s.Jc cls).length
     .rw[Az qh,h4 i qh];simp[qh,JC qh]
     .have:i=(s.Jc cls).length:=ω;subst this;rw[xk (QB _)];simp
    .subst e;exact QA (T.sep _ _ _ _ _ _ _ _ _ ZJ hk)
   refine QQ func149 ntmps149 results149 λbase w pl hb=>?_;have Ql:=Qb ho;have Zg:=Qb hm;have KB:=Qb h3;simp only[go_sem];apply Vk [] hb [0,1,2,4,5,6,7,8,9,10,11] [3,12,13,14];simp only[go_sem,Qe,ho,Ql,hm,Zg,hk,Qr,h3,KB,n1,n2,CI];simp only[go_sem]at fin ⊢
   repeat' apply And.intro
   all_goals first|exact fin.1|exact fin.2
def EX.row{S}{h h'}{p cm rm c1}{Zx}{c2}{Z1}{s}(T:EX S h p cm rm c1 Zx c2 Z1 s){cls}{r}
  (hr:h'[rm]? = some (JZ .i64 c2 Z1 cls (.agg r.cells))) (ho:∀j o,h[j]? = some o->j≠rm->h'[j]? = some o) :
  ∃c2' Ep,EX S h' p cm rm c1 Zx c2' Ep { s with rows:=λk=>if k=cls then r else s.rows k }:=by
 obtain⟨c',es',h3,h4⟩:=Qaz .i64 c2 Z1 cls (.agg r.cells);have Db:p≠rm:=λe=>by have:=T.o;rw[e,T.ro]at this;cases this
 refine⟨c',es',ho _ _ T.o Db,ho _ _ T.co T.ne,by rw[hr,h3],T.ne,T.sp,T.sc,T.sr,λk=>?_,T.sep,λk=>?_⟩
 .rcases T.ca k with h1|⟨j,g,off,row,h1,h2,h5,h6⟩
  .exact .inl h1
  .refine .inr ⟨j,g,off,row,h1,h2,ho j _ h5 (λe=>?_),h6⟩;rw[e,T.ro]at h5;cases h5
 .rw[h4 k];dsimp only;by_cases hk:k=cls
  .rw[Qd hk,Qd hk];rfl
  .rw[Qc hk,Qc hk];exact T.rw_ k
def ji.Qzr{a b:ji}(h:a.cells=b.cells):a=b:=by
 obtain⟨a1,a2,a3,a4,a5⟩:=a;obtain⟨b1,b2,b3,b4,b5⟩:=b;simp only[ji.cells,u64,Hc,D.raw.injEq,Value.int.injEq,vO,and_true]at h;obtain⟨h1,h2,h3,h4,h5⟩:=h;congr 1<;>omega
def OJ(a b:Nat):IntKind.u64.wrap ((a:Int)+(b:Int))=(((a+b) % 18446744073709551616:Nat):Int):=by
 rw[IntKind.wrap_u64];omega
def Qzs{S}{h}{p}{s}(T:YS S h p s)(cls){done}(hd:done<18446744073709551616){bytes}(J5:1<=bytes)(ZB:bytes<=16384)(real):
  QH prog 190 h [.ptr p 0 0 0,Qa cls,u64 done,Qa bytes,QT real] (λd h'=>Step S h h'/\YS (more S h) h' p (YP s cls done bytes real)):=by
 obtain⟨cm,rm,c1,Zx,c2,Z1,T⟩:=T;have ho:=T.o;have hm:=T.co;have hr:=T.ro;have QA:=T.ne;have Ql:=Qb ho;have Zg:=Qb hm;have Y0:=Qb hr;have hp:=T.ca cls;have Rh:p≠cm:=λe=>by rw[e,hm]at ho;cases ho
 have Db:p≠rm:=λe=>by rw[e,hr]at ho;cases ho
 have same:∀g:List Ob,YP s cls done bytes real=s->Step S h (h++g)/\YS (more S h) (h++g) p (YP s cls done bytes real):=λg e=>by
  rw[e];exact⟨Step.app S h g,YS.step (λj hj h1=>⟨.inl h1,QG hj⟩) ⟨cm,rm,c1,Zx,c2,Z1,T⟩⟩
 have gu:YP s cls done bytes real=s->Step S h h/\YS (more S h) h p (YP s cls done bytes real):=λe=>by
  have:=same [] e;rwa [JI]at this
 obtain⟨r,Av⟩:∃r,r=s.rows cls:=⟨_,rfl⟩;have ZG:=T.rw_ cls;rw[<- Av]at ZG;cases hk:ZL Zx cls with
 | none=>
  rw[hk]at hp;have h0:=hp.nil;have fin:=gu (by unfold YP;rw[h0]);refine QQ func190 ntmps190 results190 λbase w pl hb=>?_;have Ql:=Qb ho;have Zg:=Qb hm;simp only[go_sem,ho,hm,hk];exact fin
 | some d=>
  rw[hk]at hp;rcases hp with ⟨h2,h3⟩|⟨lo,g,off,row,h2,hS,h3,h4⟩
  .simp only[KR]at h2;subst h2;have fin:=gu (by unfold YP;rw[h3]);refine QQ func190 ntmps190 results190 λbase w pl hb=>?_;have Ql:=Qb ho;have Zg:=Qb hm;simp only[go_sem,ho,hm,hk];exact fin
  .simp only[KR]at h2;subst h2;have KB:=Qb h3;cases hc:s.Jc cls with
   | nil=>
    have fin:=gu (by unfold YP;rw[hc]);rw[hc]at hk;refine QQ func190 ntmps190 results190 λbase w pl hb=>?_;have Ql:=Qb ho;have Zg:=Qb hm;simp only[go_sem,ho,hm,hk];exact fin
   | cons a l=>
    rw[hc]at hk h3 h4;have ha:=h4 0 σ;simp only[go_sem,BP,List.getD_cons_zero]at ha;have d1:decide (bytes<1)=false:=QI ω;have d0:(((l.length+1:Nat):Int)==0)=false:=ξ;have g1:(0:Int)<((l.length+1:Nat):Int):=ω;have g2:off<off+(l.length+1):=ω;have n1:lo≠p:=λe=>by rw[e,ho]at h3;cases h3
    have n2:lo≠cm:=λe=>by rw[e,hm]at h3;cases h3
    have n3:rm≠lo:=λe=>by rw[<- e,hr]at h3;cases h3
    have PM:∀k j g off n,ZL Zx k=some (.ref j g off n)->j<h.length:=λk j g off n hk=>by
     rcases T.ca k with ⟨h1,_⟩|⟨j',_,_,_,h1,_,h3,_⟩
     .rw[hk]at h1;cases h1
     .rw[hk]at h1;cases h1;exact Qb h3
    have su:∀(R2:ji) (o:Ob),YP s cls done bytes real=⟨λk=>if k=cls then l else s.Jc k,λk=>if k=cls then R2 else s.rows k⟩ ->
      Step S h ((h.set rm (JZ .i64 c2 Z1 cls (.agg R2.cells))).set cm (JZ .i64 c1 Zx cls (.ref lo g (off+1) l.length))++[o])/\YS (more S h) ((h.set rm (JZ .i64 c2 Z1 cls (.agg R2.cells))).set cm (JZ .i64 c1 Zx cls (.ref lo g (off+1) l.length))++[o]) p (YP s cls done bytes real):=λR2 o e=>by
     rw[e];obtain⟨c2',Ep,T1⟩:=T.row (h':=h.set rm (JZ .i64 c2 Z1 cls (.agg R2.cells))) (r:=R2) (cls:=cls) (QE Y0) (λj o hj h1=>by rw[Qr (Q3 h1)];exact hj);have hlen:(h.set rm (JZ .i64 c2 Z1 cls (.agg R2.cells))).length=h.length:=σ;have SQ:more S (h.set rm (JZ .i64 c2 Z1 cls (.agg R2.cells)))=more S h:=by unfold more;rw[hlen]
     refine⟨⟨λj hj hn=>?_,σ⟩,?_⟩
     .rw[QG (by simpa using hj),Qr (λe=>hn (by rw[<- e];exact T.sc)),Qr (λe=>hn (by rw[<- e];exact T.sr))]
     .rw[<- SQ];refine T1.put (d:=.ref lo g (off+1) l.length) lo ?_ (λj o hj h1 h2=>?_) (.inr ⟨lo,g,off+1,row,rfl,.inl hS,?_,λi hi=>?_⟩) (λj g off n e=>by cases e;rfl) (λk j g' vQ n' QA ZJ e=>?_) (Q3 n1) n3
      .rw[QG (by simpa using Zg),QE (by simpa using Zg)]
      .rw[QG (by have:=Qb hj;simpa using this),Qr (Q3 h1),hj]
      .rw[QG (by simpa using KB),Qr (Q3 n2),Qr n3,h3];simp only[Kv,QY,Ob.mk.injEq,vO,and_true];omega
      .rw[show off+1+i=off+(i+1) by omega,h4 (i+1) (by simpa using hi)];simp
      .subst e;exact QA (T.sep _ _ _ _ _ _ _ _ _ ZJ hk)
    by_cases h5:done<a
    .have d2:=QU h5;have fin:=gu (by unfold YP;rw[hc];dsimp only;rw[Qc ω,Qd h5]);refine QQ func190 ntmps190 results190 λbase w pl hb=>?_;have Ql:=Qb ho;have Zg:=Qb hm;have KB:=Qb h3;simp only[go_sem,ho,hm,h3,hk,d0,d1,d2,ha];exact⟨g1,g2,fin⟩
    .have d2:=QI h5;have e0:YP s cls done bytes real=⟨λk=>if k=cls then l else s.Jc k,λk=>if k=cls then ya r a done bytes real else s.rows k⟩:=by
      unfold YP;rw[hc];dsimp only;rw[Qc ω,Qc h5];congr 1;funext k;by_cases zj:k=cls
      .rw[Qd zj,Qd zj,zj,<- Av]
      .rw[Qc zj,Qc zj]
     have fin:∀(o:Ob) (R2:ji),R2=ya r a done bytes real->∀n,n=l.length->Step S h ((h.set rm (JZ .i64 c2 Z1 cls (.agg R2.cells))).set cm (JZ .i64 c1 Zx cls (.ref lo g (off+1) n))++[o])/\YS (more S h) ((h.set rm (JZ .i64 c2 Z1 cls (.agg R2.cells))).set cm (JZ .i64 c1 Zx cls (.ref lo g (off+1) n))++[o]) p (YP s cls done bytes real):=λo R2 sQ n hn=>by
      subst hn;exact su R2 o (by rw[e0,sQ])
     have w1:IntKind.u64.wrap ((r.p:Int)+1)=(((r.p+1) % 18446744073709551616:Nat):Int):=OJ r.p 1;have w2:IntKind.u64.wrap bytes=((bytes.toNat:Nat):Int):=η;have w3:=OJ r.b bytes.toNat
     have w4:IntKind.u64.wrap ((r.r:Int)+1)=(((r.r+1) % 18446744073709551616:Nat):Int):=OJ r.r 1;have w5:IntKind.u64.wrap ((done:Int) - (a:Int))=((done - a:Nat):Int):=η;have w6:=OJ r.w (done - a);have w7:max ((r.l:Nat):Int) ((done - a:Nat):Int)=((max r.l (done - a):Nat):Int):=ω;have w8:(((l.length+1:Nat):Int) - 1).toNat=l.length:=ω;have Jf:(ZL Z1 cls=some (.agg r.cells))\/(ZL Z1 cls=none/\r=default):=by
      cases hh:ZL Z1 cls with
      | some d=>rw[hh]at ZG;exact .inl (congrArg some ZG)
      | none=>
       rw[hh]at ZG;have ZG:D.agg (default:ji).cells=D.agg r.cells:=ZG;exact .inr ⟨rfl,(ji.Qzr (D.agg.inj ZG)).symm⟩
     rcases Jf with Jf|⟨Jf,WQ⟩
     .refine QQ func190 ntmps190 results190 λbase w pl hb=>?_;have Ql:=Qb ho;have Zg:=Qb hm;have KB:=Qb h3;have Y0:=Qb hr;simp only[go_sem,Qe,ho,hm,h3,hr,hk,d0,d1,d2,ha,Jf,w1,w2,w3];cases real with
      | true=>
       have xZ:=fin ⟨.one,0,5,1,λ_=>(ya r a done bytes true).cells⟩ _ rfl _ w8;simp only[go_sem,ya,↓reduceIte,w8]at xZ;simp only[go_sem,Qe,w4];repeat (refine And.intro (by first|exact g1|exact g2|omega) ?_)
       apply QF hb ot;simp only[go_sem,Qe,h3,KB,ha,w5,w6];repeat (refine And.intro (by first|exact g1|exact g2|omega) ?_)
       apply QF hb ot;simp only[go_sem,Qe,h3,KB,ha,w5,w7];repeat (refine And.intro (by first|exact g1|exact g2|omega) ?_)
       apply QF hb ut;simp only[go_sem,Qe,ho,Ql,hr,Y0];repeat (refine And.intro (by first|exact g1|exact g2|omega) ?_)
       apply QF hb ol;simp only[go_sem,Qe,ho,Ql,h3,KB,hm,Zg,Qr Db.symm,Qr QA.symm,Qr n3];repeat (refine And.intro (by first|exact g1|exact g2|omega) ?_)
       simp only[go_sem,w8];exact xZ
      | false=>
       have xZ:=fin ⟨.one,0,5,1,λ_=>(ya r a done bytes false).cells⟩ _ rfl _ w8;simp only[go_sem,ya,↓reduceIte,w8,q7]at xZ;simp only[go_sem];repeat (refine And.intro (by first|exact g1|exact g2|omega) ?_)
       apply QF hb ot;simp only[go_sem,Qe,h3,KB,ha,w5,w6];repeat (refine And.intro (by first|exact g1|exact g2|omega) ?_)
       apply QF hb ot;simp only[go_sem,Qe,h3,KB,ha,w5,w7];repeat (refine And.intro (by first|exact g1|exact g2|omega) ?_)
       apply QF hb ut;simp only[go_sem,Qe,ho,Ql,hr,Y0];repeat (refine And.intro (by first|exact g1|exact g2|omega) ?_)
       apply QF hb ol;simp only[go_sem,Qe,ho,Ql,h3,KB,hm,Zg,Qr Db.symm,Qr QA.symm,Qr n3];repeat (refine And.intro (by first|exact g1|exact g2|omega) ?_)
       simp only[go_sem,w8];exact xZ
     .have WQ:r=⟨0,0,0,0,0⟩:=WQ;subst WQ;have v1:IntKind.u64.wrap 1=1:=rfl;have v3:IntKind.u64.wrap (0+((bytes.toNat:Nat):Int))=(((0+bytes.toNat) % 18446744073709551616:Nat):Int):=OJ 0 bytes.toNat
      have v6:IntKind.u64.wrap (0+((done - a:Nat):Int))=(((0+(done - a)) % 18446744073709551616:Nat):Int):=OJ 0 (done - a);have v7:max (0:Int) ((done - a:Nat):Int)=((max 0 (done - a):Nat):Int):=ω;refine QQ func190 ntmps190 results190 λbase w pl hb=>?_;have Ql:=Qb ho;have Zg:=Qb hm;have KB:=Qb h3;have Y0:=Qb hr;simp only[go_sem,Qe,ho,hm,h3,hr,hk,d0,d1,d2,ha,Jf,w2,v1,v3];cases real with
      | true=>
       have xZ:=fin ⟨.one,0,5,1,λ_=>(ya ⟨0,0,0,0,0⟩ a done bytes true).cells⟩ _ rfl _ w8;simp only[go_sem,ya,↓reduceIte,w8]at xZ;simp only[go_sem,Qe,v1];repeat (refine And.intro (by first|exact g1|exact g2|omega) ?_)
       apply QF hb ot;simp only[go_sem,Qe,h3,KB,ha,w5,v6];repeat (refine And.intro (by first|exact g1|exact g2|omega) ?_)
       apply QF hb ot;simp only[go_sem,Qe,h3,KB,ha,w5,v7];repeat (refine And.intro (by first|exact g1|exact g2|omega) ?_)
       apply QF hb ut;simp only[go_sem,Qe,ho,Ql,hr,Y0];repeat (refine And.intro (by first|exact g1|exact g2|omega) ?_)
       apply QF hb ol;simp only[go_sem,Qe,ho,Ql,h3,KB,hm,Zg,Qr Db.symm,Qr QA.symm,Qr n3];repeat (refine And.intro (by first|exact g1|exact g2|omega) ?_)
       simp only[go_sem,w8];exact xZ
      | false=>
       have xZ:=fin ⟨.one,0,5,1,λ_=>(ya ⟨0,0,0,0,0⟩ a done bytes false).cells⟩ _ rfl _ w8;simp only[go_sem,ya,↓reduceIte,w8,q7]at xZ;simp only[go_sem];repeat (refine And.intro (by first|exact g1|exact g2|omega) ?_)
       apply QF hb ot;simp only[go_sem,Qe,h3,KB,ha,w5,v6];repeat (refine And.intro (by first|exact g1|exact g2|omega) ?_)
       apply QF hb ot;simp only[go_sem,Qe,h3,KB,ha,w5,v7];repeat (refine And.intro (by first|exact g1|exact g2|omega) ?_)
       apply QF hb ut;simp only[go_sem,Qe,ho,Ql,hr,Y0];repeat (refine And.intro (by first|exact g1|exact g2|omega) ?_)
       apply QF hb ol;simp only[go_sem,Qe,ho,Ql,h3,KB,hm,Zg,Qr Db.symm,Qr QA.symm,Qr n3];repeat (refine And.intro (by first|exact g1|exact g2|omega) ?_)
       simp only[go_sem,w8];exact xZ
@[go_sem] def QGl(k:List Int):List D:=k.map λn=>.raw (.int .u16 n)
def QiH:QW prog 138 [] (QN (.agg [.raw (.int .u16 65535),.raw (.int .u16 65535),.raw (.int .u16 65535),.raw (.int .u16 65535)])):=by
 refine xT 0 func138 ntmps138 results138 λbase w hb=>?_;simp only[go_sem]
def QiI(a0 a1 a2 a3 b0 b1 b2 b3):QW prog 137 [.agg [.raw (.int .u16 a0),.raw (.int .u16 a1),.raw (.int .u16 a2),.raw (.int .u16 a3)],.agg [.raw (.int .u16 b0),.raw (.int .u16 b1),.raw (.int .u16 b2),.raw (.int .u16 b3)]]
  (QN (.agg [.raw (.int .u16 (vz a0 b0)),.raw (.int .u16 (vz a1 b1)),.raw (.int .u16 (vz a2 b2)),.raw (.int .u16 (vz a3 b3))])):=by
 refine xT 0 func137 ntmps137 results137 λbase w hb=>?_;simp only[go_sem];have w1:IntKind.i64.wrap 1=1:=rfl;have w2:IntKind.i64.wrap 2=2:=rfl;have w3:IntKind.i64.wrap 3=3:=rfl;have w4:IntKind.i64.wrap 4=4:=rfl;refine wv 4 ?_;apply Qn hb;apply QF hb uw;simp only[go_sem];apply Qn hb;apply QF hb uw;simp only[go_sem];apply Qn hb;apply QF hb uw;simp only[go_sem];apply Qn hb;apply QF hb uw;simp only[go_sem];apply Qn hb;apply Qn hb;rfl
theorem Qzt(r:JT)(x:Pk):qY r (ZR x)=(vz x.wc r.yI==r.Ia&&(vz x.wg r.yJ==r.Ib&&(vz x.wh r.DV==r.Ic&&(vz x.wi r.Cg==r.DW&&true)))):=rfl
@[go_sem] def gv(x:Pk):List D:=[.raw (.int .u16 x.wc),.raw (.int .u16 x.wg),.raw (.int .u16 x.wh),.raw (.int .u16 x.wi)]
def QiJ(r:JT)(x):QW prog 184 [.agg r.cells,.agg (gv x)] (QN (QT (qY r (ZR x)))):=by
 rw[Qzt];refine xT 0 func184 ntmps184 results184 λbase w hb=>?_;simp only[go_sem];apply QF hb [0,1,2,4,5,1003,6,7];simp only[go_sem];apply Jb hb mO (QiI x.wc x.wg x.wh x.wi r.yI r.yJ r.DV r.Cg);exact Iq hb
structure QiK (h:List Ob) (p:Nat) (dr:D) (le:Nat) (dm:D) (c:Nat) (es:List Xi) (ms:List Nat) (R:List JT):Prop where
 o:(h.map Ob.ro)[p]? = some (LF dr le dm).ro
 eo:(h.map Ob.ro)[le]? = some (kQ c es).ro
 rs:(dr=.nil/\R=[])\/∃lo g row,dr=.ref lo g 0 R.length/\(h.map Ob.ro)[lo]? = some ⟨.yl,g,9,R.length,row⟩/\∀i,i<R.length->row i=(R.getD i default).cells
 mo:(dm=.nil/\ms=[])\/∃lo g row,dm=.ref lo g 0 ms.length/\(h.map Ob.ro)[lo]? = some ⟨.yl,g,1,ms.length,row⟩/\∀i,i<ms.length->row i=[Qa ((ms.getD i 0:Nat):Int)]
 I:Yr R R.length es ms
 ok:qy R=0
def tQ.toR{S}{h}{p}{dr}{le}{dm}{c}{es}{ms}{R}(T:tQ S h p dr le dm c es ms R):QiK h p dr le dm c es ms R:=
 ⟨ZC T.o,ZC T.eo,T.rs.imp id λ⟨lo,g,row,h1,_,h3,h4⟩=>⟨lo,g,row,h1,ZC h3,h4⟩,T.mo.imp id λ⟨lo,g,row,h1,_,h3,h4⟩=>⟨lo,g,row,h1,ZC h3,h4⟩,T.I,T.ok⟩
def tS{R}(h:qy R=0):∀r∈R,1<=r.cls:=λr hr=>by
 unfold qy at h;split at h
 .cases h
 .split at h
  .rename_i h2;have:=XK.1 h2 r hr;unfold yc at this;simp only[Zy,XL]at this;exact this.1.1
  .cases h
def inc_le:∀(ms:List Nat) (n b:Nat),ms.Pairwise (·<·)->(∀j∈ms,b<=j/\j<n)->ms.length<=n - b
 | [],n,b,_,_=>Jh _
 | a::ms,n,b,hi,h=>by
  rw[yj]at hi;have h1:=h a σ;have:=inc_le ms n (a+1) hi.2 λj hj=>⟨hi.1 j hj,(h j (by simp[hj])).2⟩;simp only[Kv];omega
def Qzu{h}{p}{dr}{le}{dm}{c}{es}{ms}{R}(T:QiK h p dr le dm c es ms R)(x)(hx:Qmg x):
  Q6 prog 147 h [.ptr p 0 0 0,.agg (gv x)] (λd=>d=.tup [Qa (Kr R (ZR x)),Qa (if Kr R (ZR x)=0 then 31 else 0)]):=by
 have ho:=T.o;have he:=T.eo;have h4:=T.I.four;obtain⟨q,hq⟩:∃q,q=WT es (ZR x):=⟨_,rfl⟩;have Dc:=hq;simp only[ZR]at Dc;have ms0:∀j,j<ms.length->ms.getD j 0∈ms:=λj hj=>qg ms 0 j hj;have TM:∀i∈ms,∃j,j<ms.length/\ms.getD j 0=i:=λi hi=>by
  obtain⟨j,hj,e⟩:=wZ hi;exact⟨j,hj,by rw[Q5,QP hj];exact e⟩
 have yv:ms.length<=32:=by
  have h1:=inc_le ms R.length 0 T.I.inc λj hj=>⟨Jh j,((T.I.mem j).1 hj).1⟩;have h2:R.length<=32:=by
   have:=T.ok;unfold qy at this;split at this
   .cases this
   .omega
  omega
 have Qzv:∀j k,j<k->k<ms.length->ms.getD j 0<ms.getD k 0:=λj k VY hk=>by
  have:=List.pairwise_iff_getElem.1 T.I.inc j k ω hk VY;rw[Q5,Q5,QP hk,QP (show j<ms.length from ω)];exact this
 have tT:∀j k,j<ms.length->ms.getD j 0<ms.getD k 0->j<k:=λj k hj h=>kC λhc=>by
  rcases Nat.lt_or_eq_of_le (Ql7 hc) with h2|h2
  .have:=Qzv k j h2 hj;omega
  .rw[h2]at h;omega
 cases q with
 | none=>
  have out:(∀j∈ms,qY (JB R j) (ZR x)=false)->Kr R (ZR x)=0:=λZP=>by
   unfold Kr;rw[T.I.none hx hq.symm ZP]
  rcases T.mo with ⟨rfl,rfl⟩|⟨lm,gm,tU,rfl,hm,qm⟩
  .rw[out (λj hj=>by cases hj),Qd rfl];refine xD func147 ntmps147 results147 λbase w pl F hF Q7 hb=>?_;rw[<- hF]at ho he;have Ql:=Qb ho;have WK:=Qb he;simp only[go_sem];apply QF hb O3;simp only[go_sem,Qe,ho,Ql,he,WK,<- Dc];refine⟨h4,?_⟩;refine wv 0 ?_;apply Qn hb;apply Qn hb;all_goals exact cD
  .refine xD func147 ntmps147 results147 λbase w pl F hF Q7 hb=>?_;rw[<- hF]at ho he hm;have Ql:=Qb ho;have WK:=Qb he;have Zg:=Qb hm;simp only[go_sem];apply QF hb O3;simp only[go_sem,Qe,ho,Ql,he,WK,<- Dc];refine⟨h4,?_⟩;refine Z3 (λk s=>(∀j,j<k->qY (JB R (ms.getD j 0)) (ZR x)=false)/\s=⟨[(0,.ptr p 0 0 0),(3,.ptr F.length 0 0 0),(6,Qa 0),(7,QT false),(24,.ref lm gm 0 ms.length),(25,Qa ms.length),(26,Qa k)],F++[(⟨.one,0,4,1,λ_=>gv x⟩:Ob)]⟩) ms.length QM ⟨λj hj=>absurd hj (WZ j),rfl⟩ ?_;rintro k _ hk ⟨ZP,rfl⟩;by_cases Qj:k<ms.length
   .have dk:=QU Qj;have Zb:=J9 (show k<4611686018427387904 from ω);obtain⟨i,hi⟩:∃i,i=ms.getD k 0:=⟨_,rfl⟩;have Ir:=ms0 k Qj;rw[<- hi]at Ir;obtain⟨vC,tV⟩:=(T.I.mem i).1 Ir;have wm:=qm k Qj;rw[<- hi]at wm;rcases T.rs with ⟨h1,h2⟩|⟨lr,gr,gw,rfl,hr,Av⟩
    .rw[h2]at vC;simp at vC
    rw[<- hF]at hr;have Y0:=Qb hr;have wJ:gw i=(JB R i).cells:=Av i vC;obtain⟨r,WQ⟩:∃r,r=JB R i:=⟨_,rfl⟩;rw[<- WQ]at wJ;have M:=QiJ r x;simp only[go_sem]at wJ wm;cases CG:qY r (ZR x) with
    | false=>
     rw[CG]at M;apply Qg hb;simp only[go_sem,Qe,Qj,hm,Zg,wm,Go.undef];apply QF hb uw;simp only[go_sem,Qe,ho,Ql,hr,Y0,wJ,vC];apply Jb hb cE M;apply Cs hb;repeat (refine And.intro δ ?_)
     refine⟨_,Qz.frame (fr':=[(0,.ptr p 0 0 0),(3,.ptr F.length 0 0 0),(6,Qa 0),(7,QT false),(24,.ref lm gm 0 ms.length),(25,Qa ms.length),(26,Qa (k+1:Nat))]) (by simp only[go_sem,Zb]),λj hj=>?_,rfl⟩;rcases vM.1 hj with h5|rfl
     .exact ZP j h5
     .rw[<- hi,<- WQ];exact CG
    | true=>
     rw[CG]at M;have e0:Kr R (ZR x)=r.cls:=by
      unfold Kr;rw[T.I.Xh hx vC tV (by rw[<- WQ];exact CG) (λj hj kU=>?_) (λa' VI=>?_),<- WQ]
      .obtain⟨j2,e1,e2⟩:=TM j hj;rw[<- e2];exact ZP j2 (tT j2 k e1 ω)
      .rw[<- hq]at VI;cases VI
     have yu:=tS T.ok r (by rw[WQ];exact qg R default i vC);rw[e0,Qc ω];apply Qg hb;simp only[go_sem,Qe,Qj,hm,Zg,wm,Go.undef];apply QF hb uw;simp only[go_sem,Qe,ho,Ql,hr,Y0,wJ,vC];apply Jb hb cE M;apply ZH hb;simp only[go_sem,Qe,ho,Ql,hr,Y0,wJ,vC];all_goals exact cD
   .have Jf:k=ms.length:=ω;have dk:=QI Qj;subst Jf;have Kj:∀j∈ms,qY (JB R j) (ZR x)=false:=λj hj=>by
     obtain⟨j2,e1,e2⟩:=TM j hj;rw[<- e2];exact ZP j2 e1
    rw[out Kj,Qd rfl];apply Qg hb;simp only[go_sem,dk];apply Qn hb;all_goals exact cD
 | some d=>
  obtain⟨a,rfl,LH,ML,SV,han⟩:=T.I.yes _ _ hq.symm;rcases T.rs with ⟨h1,h2⟩|⟨lr,gr,gw,rfl,hr,Av⟩
  .rw[h2]at LH;simp at LH
  have TN:gw a=(JB R a).cells:=Av a LH;obtain⟨ra,tW⟩:∃r,r=JB R a:=⟨_,rfl⟩;rw[<- tW]at TN;have gy:=tS T.ok ra (by rw[tW];exact qg R default a LH);have out:(∀j∈ms,j<a->qY (JB R j) (ZR x)=false)->Kr R (ZR x)=ra.cls:=λZP=>by
   unfold Kr;rw[(T.I.whole hx hq.symm ZP).2,<- tW]
  simp only[go_sem]at TN;rcases T.mo with ⟨rfl,rfl⟩|⟨lm,gm,tU,rfl,hm,qm⟩
  .rw[out (λj hj=>by cases hj),Qc ω];refine xD func147 ntmps147 results147 λbase w pl F hF Q7 hb=>?_;rw[<- hF]at ho he hr;have Ql:=Qb ho;have WK:=Qb he;have Y0:=Qb hr;simp only[go_sem];apply QF hb O3;simp only[go_sem,Qe,ho,Ql,he,WK,<- Dc];refine⟨h4,?_⟩;refine wv 0 ?_;apply Qn hb;apply Qg hb;simp only[go_sem,Qe,ho,Ql,hr,Y0,TN,LH];all_goals exact cD
  .refine xD func147 ntmps147 results147 λbase w pl F hF Q7 hb=>?_;rw[<- hF]at ho he hr hm;have Ql:=Qb ho;have WK:=Qb he;have Y0:=Qb hr;have Zg:=Qb hm;simp only[go_sem];apply QF hb O3;simp only[go_sem,Qe,ho,Ql,he,WK,<- Dc];refine⟨h4,?_⟩;refine Z3 (λk s=>(∀j,j<k->qY (JB R (ms.getD j 0)) (ZR x)=false)/\s=⟨[(0,.ptr p 0 0 0),(3,.ptr F.length 0 0 0),(6,Qa a),(7,QT true),(24,.ref lm gm 0 ms.length),(25,Qa ms.length),(26,Qa k)],F++[(⟨.one,0,4,1,λ_=>gv x⟩:Ob)]⟩) ms.length QM ⟨λj hj=>absurd hj (WZ j),rfl⟩ ?_;rintro k _ hk ⟨ZP,rfl⟩;by_cases Qj:k<ms.length
   .have dk:=QU Qj;have Zb:=J9 (show k<4611686018427387904 from ω);obtain⟨i,hi⟩:∃i,i=ms.getD k 0:=⟨_,rfl⟩;have Ir:=ms0 k Qj;rw[<- hi]at Ir;obtain⟨vC,tV⟩:=(T.I.mem i).1 Ir;have wm:=qm k Qj;rw[<- hi]at wm;have wJ:gw i=(JB R i).cells:=Av i vC;obtain⟨r,WQ⟩:∃r,r=JB R i:=⟨_,rfl⟩;rw[<- WQ]at wJ;have M:=QiJ r x;simp only[go_sem]at wJ wm;by_cases NW:a<i
    .have da:=QU NW;rw[out (λj hj hja=>by
      obtain⟨j2,e1,e2⟩:=TM j hj;rw[<- e2];exact ZP j2 (tT j2 k e1 ω)),Qc ω]
     apply Qg hb;simp only[go_sem,Qe,Qj,hm,Zg,wm,da];apply Qg hb;simp only[go_sem,Qe,ho,Ql,hr,Y0,TN,LH];all_goals exact cD
    .have da:=QI NW;cases CG:qY r (ZR x) with
     | false=>
      rw[CG]at M;apply Qg hb;simp only[go_sem,Qe,Qj,hm,Zg,wm,da];apply QF hb uw;simp only[go_sem,Qe,ho,Ql,hr,Y0,wJ,vC];apply Jb hb cE M;apply Cs hb;repeat (refine And.intro δ ?_)
      refine⟨_,Qz.frame (fr':=[(0,.ptr p 0 0 0),(3,.ptr F.length 0 0 0),(6,Qa a),(7,QT true),(24,.ref lm gm 0 ms.length),(25,Qa ms.length),(26,Qa (k+1:Nat))]) (by simp only[go_sem,Zb]),λj hj=>?_,rfl⟩;rcases vM.1 hj with h5|rfl
      .exact ZP j h5
      .rw[<- hi,<- WQ];exact CG
     | true=>
      rw[CG]at M;have e0:Kr R (ZR x)=r.cls:=by
       unfold Kr;rw[T.I.Xh hx vC tV (by rw[<- WQ];exact CG) (λj hj kU=>?_) (λa' VI=>?_),<- WQ]
       .obtain⟨j2,e1,e2⟩:=TM j hj;rw[<- e2];exact ZP j2 (tT j2 k e1 ω)
       .rw[<- hq]at VI;have:=Mf VI;simp only[Qa,D.raw.injEq,Value.int.injEq,vO]at this;omega
      have yu:=tS T.ok r (by rw[WQ];exact qg R default i vC);rw[e0,Qc ω];apply Qg hb;simp only[go_sem,Qe,Qj,hm,Zg,wm,da];apply QF hb uw;simp only[go_sem,Qe,ho,Ql,hr,Y0,wJ,vC];apply Jb hb cE M;apply ZH hb;simp only[go_sem,Qe,ho,Ql,hr,Y0,wJ,vC];all_goals exact cD
   .have Jf:k=ms.length:=ω;have dk:=QI Qj;subst Jf;rw[out (λj hj _=>by
     obtain⟨j2,e1,e2⟩:=TM j hj;rw[<- e2];exact ZP j2 e1),Qc ω]
    apply Qg hb;simp only[go_sem,dk];apply Qg hb;simp only[go_sem,Qe,ho,Ql,hr,Y0,TN,LH];all_goals exact cD
end Go.Fg.X
namespace Go.Fg
open Go.RowKit (Below)
variable {Z:Nat->Prop}
section
variable {P:Program}{L:Z8}{base nt:Nat}{s:St}{o:Oper}
end
section
variable {P:Program}{L:Z8}{base nt:Nat}{w0:Start}{Q:Exit->St->Prop}
end
def gz:D->Bool
 | .imm _ _ _=>true
 | .ref _ _ _ _=>true
 | .nil=>true
 | _=>false
section
variable {P:Program}{L:Z8}{base nt:Nat}{s:St}{o:Oper}
end
section
variable {P:Program}{L:Z8}{base nt:Nat}{w0:Start}{Q:Exit->St->Prop}
end
def TO:D->Nat
 | .imm _ n _=>n
 | _=>0
def Qzw{h}{pl}{w}{d}{v}(r:QC Z h pl w d v)(hd:gz d=true):∃a n cap,v=.slice a n cap/\(a.isNone=true->TO d=0):=by
 cases d<;>simp only[gz,q7]at hd;all_goals first
  | (obtain⟨a,e⟩:=Dp r;exact⟨_,_,_,e,λ_=>rfl⟩)
  | (obtain⟨a,cap,_,_,_,e,h0,_⟩:=PF r;refine⟨_,_,_,e,λhn=>Nat.eq_zero_of_not_pos λhp=>?_⟩;have hq:0<_:=hp;simp only[TO]at hq;rw[h0 hq]at hn;cases hn)
  | (obtain⟨_,_,a,cap,e,_⟩:=Dq r;exact⟨_,_,_,e,λ_=>rfl⟩)
section
variable {P:Program}{L:Z8}{base nt:Nat}{w0:Start}{Q:Exit->St->Prop}
def Qzx(hL:Z5 P L){Q:Exit->St->Prop}{o:Oper}{rest:List (Oper × G)}{s:St}{t t' e a b:Nat}{x:Operand}{zt:List Value}(ho:o.op=.binOp .eql t x (.const (.slice none 0 0)) t')(hx:gz (Qo s.fr x)=true)(ht:ty L t=some ⟨.slice e,a,b,zt⟩)(hd:Zk nt o.dst=true)
  (hk:∀b:Bool,(b=true->TO (Qo s.fr x)=0)->AG P base nt w0 rest Q ⟨Za s.fr o.dst (.raw (.bool b)),s.h⟩):AG P base nt w0 ((o,none)::rest) Q s:=by
 intro Z z pl ac w r b;obtain⟨ad,n,cap,hv,hb⟩:=Qzw (r.eval x) hx;have hc:ac.eval (.const (.slice none 0 0))=.slice none 0 0:=rfl;have Ze:(execOp ac.eval o).run P w=.ok (.value (.bool ad.isNone)) w:=by
  have hu:=xi (hL _ _ ht) rfl;have he:(Op.equal t (.slice ad n cap) (.slice none 0 0)).run P w=.ok ad.isNone w:=iG λm=>by
   cases ad<;>simp[Op.equalIn,run_underlying hu]
  have hq:(eqGuard .eql t x (.const (.slice none 0 0)) (.slice ad n cap) (.slice none 0 0)).run P w=.ok () w:=by simp[eqGuard]
  simp[execOp,ho,hv,hc,Go.binOp,he,hq]
 simp only[Yx,W3,Vs];unfold Oper.wp;rw[Ze];simp only[Oper.upon_value];refine hk _ hb Z z pl _ w ?_ b;cases hdd:o.dst with
 | none=>exact r
 | some t=>rw[hdd]at hd;exact r.to (Tr.ext r.o λ_ _=>rfl) r.o (jE hd) (.cl _ _ (.raw _))
def Qzz(hL:Z5 P L){k:List Item}{dst:Option Nat}{Ei:TypeId}{pos:String}{after:Array Edge}{gd:Option (Nat × Bool)}{r:List (Oper × G)}{s:St}{t t' e a b:Nat}{x:Operand}{zt:List Value}
  (hx:gz (Qo s.fr x)=true) (ht:ty L t=some ⟨.slice e,a,b,zt⟩) (hd:Zk nt dst=true) (h1:∀b:Bool,(b=true->TO (Qo s.fr x)=0)->Qv P base nt w0 Q (.ops r::k) .normal ⟨Za s.fr dst (.raw (.bool b)),s.h⟩) :
  Qv P base nt w0 Q (.ops ((⟨dst,.binOp .eql t x (.const (.slice none 0 0)) t',Ei,pos,after,gd⟩,none)::r)::k) .normal s:=by
 simp only[Qv]at h1 ⊢;exact Qzx hL rfl hx ht hd h1
end
end Go.Fg
namespace Go.Fg.X
open Go.Proofs Go.Fg
open Go.Proofs.Tryz
@[go_sem] def EY(l:List JT):D:=.imm 9 l.length (JT.rows l)
def QzA(h:List Ob)(l:List JT)(hl:l.length<1000000):QH prog 136 h [EY l] (λd h'=>∃g,h'=h++g/\zF (λj=>h.length<=j) (h++g) 9 JT.cells d l):=by
 refine QQ func136 ntmps136 results136 λbase w pl hb=>?_;simp only[go_sem];refine Qzz yG (by simp only[go_sem];rfl) rfl rfl λb Zp=>?_;cases b with
 | true=>
  have h0:=Zp rfl;simp only[go_sem,TO]at h0;apply Qn hb;exact⟨[],(JI h).symm,.inl ⟨rfl,Di.1 h0⟩⟩
 | false=>
  apply JH hb;refine⟨ω,_,rfl,.inr ⟨h.length,_,_,rfl,QB _,KV rfl,λi hi=>?_⟩⟩;rw[xk (Jh _)];rfl
def QzB(r:JT):(TG r.want r.mask==r.want)=(vz r.Ia r.yI==r.Ia&&(vz r.Ib r.yJ==r.Ib&&(vz r.Ic r.DV==r.Ic&&vz r.DW r.Cg==r.DW))):=by
 rw[<- Bool.and_true (vz r.DW r.Cg==r.DW)];rfl
structure zG (h H:List Ob) (l:List JT) (k p:Nat) (dr:D) (le:Nat) (dm:D) (c:Nat) (es:List Xi) (ms:List Nat):Prop where
 ex:Vj h H
 o:H[p]? = some (LF dr le dm)
 eo:H[le]? = some (kQ c es)
 rs:zF (λj=>h.length<=j) H 9 JT.cells dr l
 mo:zF (λj=>h.length<=j) H 1 (λi:Nat=>[Qa i]) dm ms
 hp:h.length<=p
 he:h.length<=le
 I:Yr l k es ms
 ok:∀j,j<k->yc (JB l j)=true
def zG.app{h H}{l}{k p}{dr}{le}{dm}{c}{es}{ms}(N:zG h H l k p dr le dm c es ms)(g):zG h (H++g) l k p dr le dm c es ms:=
 ⟨N.ex.app g,(QG (Qb N.o)).trans N.o,(QG (Qb N.eo)).trans N.eo,N.rs.step λj hj h1=>⟨h1,QG hj⟩,N.mo.step λj hj h1=>⟨h1,QG hj⟩,N.hp,N.he,N.I,N.ok⟩
def zG.next{h H}{l}{k p}{dr}{le}{dm}{c}{es}{ms}(N:zG h H l k p dr le dm c es ms){H':List Ob}{tX}{c'}{es'}{tY}(hx:Vj h H')(ho:H'[p]? = some (LF dr le tX))(he:H'[le]? = some (kQ c' es'))
  (hk:∀(j:Nat) (o:Ob),H[j]? = some o->o.kd=.arr->o.sz=9->H'[j]? = some o) (hm:zF (λj=>h.length<=j) H' 1 (λi:Nat=>[Qa i]) tX tY) (I:Yr l (k+1) es' tY) (ZM:∀j,j<k+1->yc (JB l j)=true):zG h H' l (k+1) p dr le tX c' es' tY:=
 ⟨hx,ho,he,N.rs.imp id λ⟨lo,g,row,h1,h2,h3,h4⟩=>⟨lo,g,row,h1,h2,hk lo _ h3 rfl rfl,h4⟩,hm,N.hp,N.he,I,ZM⟩
def yd{H:List Ob}{a b:Nat}{o o':Ob}(h1:H[a]? = some o)(h2:H[b]? = some o')(h:o.kd≠o'.kd\/o.sz≠o'.sz):a≠b:=λe=>by
 rw[e,h2]at h1;cases h1;rcases h with h|h<;>exact h rfl
def zG.yI{h H}{l}{k p}{dr}{le}{c}{es}(N:zG h H l k p dr le .nil c es [])(hw:qz (JB l k)=false)(ZM:∀j,j<k+1->yc (JB l j)=true)(o):
  zG h (H.set p (LF dr le (.ref (H.length+2) 0 0 1))++[o,⟨.arr,0,1,1,λ_=>[Qa k]⟩,⟨.arr,0,1,1,λ_=>[Qa k]⟩]) l (k+1) p dr le (.ref (H.length+2) 0 0 1) c es ([]++[k]):=by
 have hp:=Qb N.o;have QA:p≠le:=yd N.o N.eo (.inl nofun);refine N.next ((N.ex.set N.hp _).app _) ?_ ?_ (λj o hj h1 h2=>?_) (.inr ⟨H.length+2,0,λ_=>[Qa k],rfl,by have:=N.ex.len;omega,VD (k:=2) σ,λi hi=>?_⟩) (N.I.mask hw) ZM
 .rw[QG (by simpa using hp),QE hp]
 .rw[QG (by simpa using Qb N.eo),Qr QA];exact N.eo
 .rw[QG (by simpa using Qb hj),Qr (yd N.o hj (.inl (by rw[h1];nofun)))];exact hj
 .simp at hi;subst hi;rfl
def zG.yJ{h H:List Ob}{l}{k p}{dr}{le}{c}{es}{ms:List Nat}{lo g}{row}(N:zG h H l k p dr le (.ref lo g 0 ms.length) c es ms)(Zq:h.length<=lo)(hl:H[lo]? = some ⟨.arr,g,1,ms.length,row⟩)(ZG:∀i,i<ms.length->row i=[Qa ((ms.getD i default:Nat):Int)])
  (hw:qz (JB l k)=false) (ZM:∀j,j<k+1->yc (JB l j)=true) (o o':Ob) :
  zG h ((H.set lo ⟨.arr,g+1,1,ms.length+1,Kt ms.length 0 row λ_=>[Qa k]⟩).set p (LF dr le (.ref lo (g+1) 0 (ms.length+1)))++[o,o']) l (k+1) p dr le (.ref lo (g+1) 0 (ms.length+1)) c es (ms++[k]):=by
 have hp:=Qb N.o;have Xy:=Qb hl;have QA:p≠le:=yd N.o N.eo (.inl nofun);have KJ:lo≠p:=yd hl N.o (.inl nofun);have KO:lo≠le:=yd hl N.eo (.inl nofun);refine N.next (((N.ex.set Zq _).set N.hp _).app _) ?_ ?_ (λj o hj h1 h2=>?_) (.inr ⟨lo,g+1,Kt ms.length 0 row λ_=>[Qa k],σ,Zq,?_,λi hi=>?_⟩) (N.I.mask hw) ZM
 .rw[QG (by simpa using hp),QE (by simpa using hp)]
 .rw[QG (by simpa using Qb N.eo),Qr QA,Qr KO];exact N.eo
 .rw[QG (by simpa using Qb hj),Qr (yd N.o hj (.inl (by rw[h1];nofun))),Qr (yd hl hj (.inr (by rw[h2];show (1:Nat)≠9;decide)))];exact hj
 .rw[QG (by simpa using Xy),Qr (Q3 KJ),QE Xy];simp
 .simp at hi;by_cases qh:i<ms.length
  .rw[Az qh,JD,ZG i qh];simp[qh,JC qh]
  .have:i=ms.length:=ω;subst this;rw[xk (QB _)];simp
def zG.new{h H}{l}{k p:Nat}{dr}{le}{dm}{c}{es}{ms}(N:zG h H l k p dr le dm c es ms)(hw:qz (JB l k)=true)(hn:WT es (JB l k).want=none)(ZM:∀j,j<k+1->yc (JB l j)=true)(o):
  zG h (H.set le (kQ (c+1) (es++[⟨(JB l k).want,Qa k,c⟩]))++[o]) l (k+1) p dr le dm (c+1) (es++[⟨(JB l k).want,Qa k,c⟩]) ms:=by
 have hl:=Qb N.eo;have keep:∀(j:Nat) (o':Ob),H[j]? = some o'->o'.kd≠.map->(H.set le (kQ (c+1) (es++[⟨(JB l k).want,Qa k,c⟩]))++[o])[j]? = some o':=λj o' hj h1=>by
  rw[QG (by simpa using Qb hj),Qr (yd N.eo hj (.inl (Q3 h1)))];exact hj
 refine N.next ((N.ex.set N.he _).app _) (keep _ _ N.o nofun) ?_ (λj o' hj h1 h2=>keep j o' hj (by rw[h1];nofun)) (N.mo.imp id λ⟨lo,g,row,h1,h2,h3,h4⟩=>⟨lo,g,row,h1,h2,keep _ _ h3 nofun,h4⟩) (N.I.new hw hn c) ZM;rw[QG (by simpa using hl),QE hl]
def QiM(h)(l:List JT)(hl:l.length<1000000):
  QH prog 81 h [EY l] (λd h'=>∃g,h'=h++g/\(qy l=0->∃p,d=.tup [.ptr p 0 0 0,Qa 0]/\G1 (λj=>h.length<=j) (h++g) p l)/\(qy l≠0->d=.tup [.raw (.pointer none),Qa (qy l)])):=by
 by_cases GG:32<l.length
 .have d0:decide ((32:Int)<(l.length:Int))=true:=QU ω;have e:qy l=2:=by unfold qy;rw[Qd GG]
  rw[e];refine QQ func81 ntmps81 results81 λbase w pl hb=>?_;simp only[go_sem,d0];exact⟨[],(JI h).symm⟩
 .have d0:decide ((32:Int)<(l.length:Int))=false:=QI ω;refine QQ func81 ntmps81 results81 λbase w pl hb=>?_;simp only[go_sem,d0];refine Zw hb Qp6 (QzA h l hl) λd h1 hR=>?_;obtain⟨g1,rfl,XR⟩:=hR;have e0:=QaJ .i64;simp only[QK]at e0;have hcd:XP d=some [d]:=by rcases XR with ⟨rfl,_⟩|⟨_,_,_,rfl,_⟩<;>rfl
  have hod:d.Vn=true:=by rcases XR with ⟨rfl,_⟩|⟨_,_,_,rfl,_⟩<;>rfl
  apply Qg hb;simp only[go_sem,Qe,hcd,hod];obtain⟨H,hH⟩:∃H,H=h++(g1++[QK .i64 0 [],LF d (h.length+g1.length) .nil]):=⟨_,rfl⟩;have N0:zG h H l 0 (h.length+(g1.length+1)) d (h.length+g1.length) .nil 0 [] []:=by
   rw[<- V9]at hH;subst hH;refine⟨((Vj.refl h).app g1).app _,?_,?_,XR.step λj hj h1=>⟨h1,QG hj⟩,.inl ⟨rfl,rfl⟩,ω,ω,Yr.nil l,λj hj=>absurd hj (WZ j)⟩
   .rw[show h.length+(g1.length+1)=(h++g1).length+1 by simp;omega];exact VD (k:=1) rfl
   .rw[<- QaJ .i64,show h.length+g1.length=(h++g1).length by simp];exact KV rfl
  simp only[go_sem]at hH;rw[<- hH];obtain⟨p,hp⟩:∃p,p=h.length+(g1.length+1):=⟨_,rfl⟩;rw[<- hp]at N0 ⊢;clear hH;refine Z3 (λk s=>∃H dr le dm c es ms,zG h H l k p dr le dm c es ms/\s=⟨[(4,.ptr p 0 0 0),(17,EY l),(18,Qa l.length),(19,Qa k)],H⟩) l.length QM ⟨H,_,_,_,_,_,_,N0,rfl⟩ ?_;clear N0 XR hcd hod e0 H hp d g1;rintro k _ hk ⟨H,dr,le,dm,c,es,ms,N,rfl⟩;by_cases Qj:k<l.length
  .have dk:=QU Qj;obtain⟨r,hr⟩:∃r,r=JB l k:=⟨_,rfl⟩;have Jy:l.getD k default=r:=hr.symm;have WH:r∈l:=by rw[hr];exact qg l default k Qj
   have Zb:=J9 (show k<4611686018427387904 from ω);have ho:=N.o;have Ql:=Qb ho;have he:=N.eo;have WK:=Qb he;have h4:=N.I.four;have hu:=QzB r;have bad:yc r=false->qy l=1:=λhb=>by
    unfold qy;rw[Qc GG,Qc];intro Kj;have:=XK.1 Kj r WH;rw[hb]at this;cases this
   have U:=QiI r.Ia r.Ib r.Ic r.DW r.yI r.yJ r.DV r.Cg;by_cases c1:r.cls<1
   .have d1:=QU c1;rw[bad (by unfold yc;rw[QI (show ¬1<=r.cls from ω)];rfl)];apply Qg hb;simp only[go_sem,Qe,Qj,Jy];apply QF hb Up;simp only[go_sem,Qe,d1,Go.undef];exact N.ex.app _
   have d1:=QI c1;by_cases c2:65536<r.cls
   .have d2:=QU c2;rw[bad (by unfold yc;rw[QI (show ¬r.cls<=65536 from ω),Bool.and_false];rfl)];apply Qg hb;simp only[go_sem,Qe,Qj,Jy];apply QF hb Up;simp only[go_sem,Qe,d1,d2,Go.undef];exact N.ex.app _
   have d2:=QI c2;cases AT:TG r.want r.mask==r.want with
   | false=>
    rw[bad (by unfold yc;rw[AT,Bool.and_false])];rw[AT]at hu;apply Qg hb;simp only[go_sem,Qe,Qj,Jy];apply QF hb Up;simp only[go_sem,Qe,d1,d2];apply Jb hb mO U;apply ZH hb;simp only[go_sem,Qe,<- hu];exact N.ex.app _
   | true=>
    rw[AT]at hu;have ZM:∀j,j<k+1->yc (JB l j)=true:=λj hj=>by
     rcases vM.1 hj with h5|rfl
     .exact N.ok j h5
     .rw[<- hr];unfold yc;rw[AT,QU (show 1<=r.cls from ω),QU (show r.cls<=65536 from ω)];rfl
    obtain⟨q,hq⟩:∃q,q=WT es r.want:=⟨_,rfl⟩;have Dc:=hq;simp only[JT.want]at Dc;have hw:qz r=(r.yI==65535&&(r.yJ==65535&&(r.DV==65535&&r.Cg==65535))):=rfl;obtain⟨b,ZB⟩:∃b,b=qz r:=⟨_,rfl⟩;rw[<- ZB]at hw;apply Qg hb;simp only[go_sem,Qe,Qj,Jy];apply QF hb Up;simp only[go_sem,Qe,d1,d2];apply Jb hb mO U;apply ZH hb;simp only[go_sem,Qe,<- hu];cases q with
    | none=>
     apply QF hb [0,1,2,3,4,5,6,7,8,9,10,11];simp only[go_sem,Qe,ho,Ql,he,WK,<- Dc];refine⟨h4,?_⟩;apply QF hb Ua;simp only[go_sem,Qe];apply Jb hb Qdj QiH;apply ZH hb;simp only[go_sem,Qe,<- hw];cases b with
     | false=>
      rcases N.mo with ⟨rfl,rfl⟩|⟨lm,gm,tU,rfl,XF,hm,qm⟩
      .have N2:=N.yI (by rw[<- hr,<- ZB]) ZM ⟨.one,0,9,1,λ_=>r.cells⟩;simp only[go_sem,Qe,ho,Ql];refine⟨Qj,_,Qz.frame (fr':=[(4,.ptr p 0 0 0),(17,EY l),(18,Qa l.length),(19,Qa (k+1:Nat))]) (by simp only[go_sem,Zb]),_,_,_,_,_,_,_,N2,rfl⟩
      .have N2:=N.yJ XF hm qm (by rw[<- hr,<- ZB]) ZM ⟨.one,0,9,1,λ_=>r.cells⟩ ⟨.arr,0,1,1,λ_=>[Qa k]⟩;have Zg:=Qb hm;have Es:lm≠p:=yd hm ho (.inl nofun);have tZ:ms.length<=4294967295:=by
        have:=inc_le ms k 0 N.I.inc λj hj=>⟨Jh j,((N.I.mem j).1 hj).1⟩;omega
       have QzC:ms.length+1<=4294967295:=by
        have:=inc_le ms k 0 N.I.inc λj hj=>⟨Jh j,((N.I.mem j).1 hj).1⟩;omega
       simp only[go_sem,Qe,ho,Ql,hm,Zg,Qr Es,tZ];repeat (refine And.intro δ ?_)
       refine⟨_,Qz.frame (fr':=[(4,.ptr p 0 0 0),(17,EY l),(18,Qa l.length),(19,Qa (k+1:Nat))]) (by simp only[go_sem,Zb]),_,_,_,_,_,_,_,N2,rfl⟩
     | true=>
      simp only[go_sem];apply QF hb ol;simp only[go_sem,Qe,ho,Ql,he,WK,<- Dc];have N2:=N.new (by rw[<- hr,<- ZB]) (by rw[<- hr];exact hq.symm) ZM ⟨.one,0,9,1,λ_=>r.cells⟩;rw[<- hr]at N2;refine⟨h4,Qj,_,Qz.frame (fr':=[(4,.ptr p 0 0 0),(17,EY l),(18,Qa l.length),(19,Qa (k+1:Nat))]) (by simp only[go_sem,Zb]),_,_,_,_,_,_,_,N2,rfl⟩
    | some d=>
     apply QF hb [0,1,2,3,4,5,6,7,8,9,10,11];simp only[go_sem,Qe,ho,Ql,he,WK,<- Dc];refine⟨h4,?_⟩;apply QF hb Ua;simp only[go_sem,Qe];apply Jb hb Qdj QiH;apply ZH hb;simp only[go_sem,Qe,<- hw];cases b with
     | false=>
      rcases N.mo with ⟨rfl,rfl⟩|⟨lm,gm,tU,rfl,XF,hm,qm⟩
      .have N2:=N.yI (by rw[<- hr,<- ZB]) ZM ⟨.one,0,9,1,λ_=>r.cells⟩;simp only[go_sem,Qe,ho,Ql];refine⟨Qj,_,Qz.frame (fr':=[(4,.ptr p 0 0 0),(17,EY l),(18,Qa l.length),(19,Qa (k+1:Nat))]) (by simp only[go_sem,Zb]),_,_,_,_,_,_,_,N2,rfl⟩
      .have N2:=N.yJ XF hm qm (by rw[<- hr,<- ZB]) ZM ⟨.one,0,9,1,λ_=>r.cells⟩ ⟨.arr,0,1,1,λ_=>[Qa k]⟩;have Zg:=Qb hm;have Es:lm≠p:=yd hm ho (.inl nofun);have tZ:ms.length<=4294967295:=by
        have:=inc_le ms k 0 N.I.inc λj hj=>⟨Jh j,((N.I.mem j).1 hj).1⟩;omega
       have QzC:ms.length+1<=4294967295:=by
        have:=inc_le ms k 0 N.I.inc λj hj=>⟨Jh j,((N.I.mem j).1 hj).1⟩;omega
       simp only[go_sem,Qe,ho,Ql,hm,Zg,Qr Es,tZ];repeat (refine And.intro δ ?_)
       refine⟨_,Qz.frame (fr':=[(4,.ptr p 0 0 0),(17,EY l),(18,Qa l.length),(19,Qa (k+1:Nat))]) (by simp only[go_sem,Zb]),_,_,_,_,_,_,_,N2,rfl⟩
     | true=>
      simp only[go_sem];have N1:=N.app [⟨.one,0,9,1,λ_=>r.cells⟩];have N2:zG h (H++[⟨.one,0,9,1,λ_=>r.cells⟩]) l (k+1) p dr le dm c es ms:=⟨N1.ex,N1.o,N1.eo,N1.rs,N1.mo,N1.hp,N1.he,N.I.there (by rw[<- hr,<- ZB]) (by rw[<- hr,<- hq];rfl),ZM⟩;refine⟨Qj,_,Qz.frame (fr':=[(4,.ptr p 0 0 0),(17,EY l),(18,Qa l.length),(19,Qa (k+1:Nat))]) (by simp only[go_sem,Zb]),_,_,_,_,_,_,_,N2,rfl⟩
  .have Jf:k=l.length:=ω;have dk:=QI Qj;subst Jf;have e0:qy l=0:=by
    unfold qy;rw[Qc GG,Qd];rw[XK];intro r hr;obtain⟨j,hj,e⟩:=wZ hr;have:=N.ok j hj;unfold JB at this;rw[Q5,QP hj]at this;rw[<- e];exact this
   apply Qg hb;simp only[go_sem,dk];apply Qn hb;obtain⟨g,rfl⟩:=N.ex;refine⟨g,rfl,λ_=>⟨p,rfl,dr,le,dm,c,es,ms,N.o,N.eo,N.rs,N.mo,N.hp,N.he,N.I,e0⟩,λh=>absurd e0 h⟩
@[go_sem] def Ag(d:D):Ob:=⟨.one,0,1,1,λ_=>[d]⟩
structure q5 (n:Nat) (own:Nat->Tag) (tw:Nat->TT) (h:List Ob) (bp bo op:Nat) (L:List Ev):Prop where
 hp:h[bp]? = some (Ag (Qa op))
 ho:∃d,h[bo]? = some (Ag d)/\zF (λl=>n<=l/\own l=.no/\tw l=.no/\l≠bp/\l≠bo) h 12 Ev.cells d L
 np:n<=bp
 no:n<=bo
 op:own bp=.no
 oo:own bo=.no
 tp:tw bp=.no
 to:tw bo=.no
 ne:bp≠bo
def q5.yf{n}{own own'}{tw Jg}{h h':List Ob}{bp bo op}{L}(E:q5 n own tw h bp bo op L)(D:Jo h.length own tw h own' Jg h'):q5 n own' Jg h' bp bo op L:=by
 obtain⟨d,h1,h2⟩:=E.ho;have lp:=Qb E.hp;have lo:=Qb h1;exact⟨(D.keep _ lp E.op E.tp).trans E.hp,⟨d,(D.keep _ lo E.oo E.to).trans h1,h2.step λj hj ⟨a,b,c,e,f⟩=>⟨⟨a,(D.s1 j hj).trans b,(D.s2 j hj).trans c,e,f⟩,D.keep j hj b c⟩⟩,E.np,E.no,(D.s1 _ lp).trans E.op,(D.s1 _ lo).trans E.oo,(D.s2 _ lp).trans E.tp,(D.s2 _ lo).trans E.to,E.ne⟩
def Jo.Yd{m n}{own own'}{tw Jg}{h h'}(hm:m<=n)(D:Jo n own tw h own' Jg h'):Jo m own tw h own' Jg h':=⟨D.s1,D.s2,λl hl=>D.keep l (kG hl hm),D.my,D.len⟩
def QzD{n}{own}{tw}{h h':List Ob}{bo lo}(hn:n<=bo)(h1:own bo=.no)(h2:tw bo=.no)(hl:lo<h.length->n<=lo/\own lo=.no/\tw lo=.no)(hh:n<=h.length)(len:h.length<=h'.length)
  (k:∀j,j<h.length->j≠bo->j≠lo->h'[j]? = h[j]?):Jo n own tw h (QV own h .no) (Z4 tw h .no) h'/\gp own tw h (QV own h .no) (Z4 tw h .no) h':=by
 refine⟨⟨λl hl=>Kg hl,λl hl=>Vh hl,λl Jp _ _=>k l ω ω λe=>?_,λl Qb hm=>k l Qb (λe=>by rw[e,h2]at hm;cases hm) λe=>?_,len⟩,λl Qb=>⟨λhv=>⟨Kg Qb,k l Qb (λe=>hv.1 (by rw[e,h1])) λe=>?_⟩,λhv _=>⟨Vh Qb,k l Qb (λe=>hv (by rw[e,h2])) λe=>?_⟩⟩⟩
 .have:=(hl ω).1;omega
 .rw[e,(hl ω).2.2]at hm;cases hm
 .exact hv.1 (by rw[e];exact(hl ω).2.1)
 .exact hv (by rw[e];exact(hl ω).2.2)
def gA{own}{tw}{h}(ap:∀l,tw l≠.no->own l=.no):∀l,Z4 tw h .no l≠.no->QV own h .no l=.no:=λl hl=>by
 by_cases h1:l<h.length
 .rw[Vh h1]at hl;rw[Kg h1];exact ap l hl
 .exact jj ω
def QiP{n}{own}{tw}{h:List Ob}{bp bo op}{L:List Ev}(E:q5 n own tw h bp bo op L)(hn:n<=h.length)(hL:L.length<1000000000)(e:Ev):
  QH prog 83 h [.agg e.cells,.ptr bp 0 0 0,.ptr bo 0 0 0] (λd h'=>d=.tup []/\q5 n (QV own h .no) (Z4 tw h .no) h' bp bo op (L++[{ e with op:=op }])/\Jo n own tw h (QV own h .no) (Z4 tw h .no) h'/\gp own tw h (QV own h .no) (Z4 tw h .no) h'):=by
 have hp:=E.hp;obtain⟨d,ho,hd⟩:=E.ho;have QA:=E.ne;have lp:=Qb hp;have lo:=Qb ho;have fin:∀(h':List Ob) (d':D) (sl:Nat),h'[bp]? = some (Ag (Qa op))->h'[bo]? = some (Ag d')->zF (λl=>n<=l/\QV own h .no l=.no/\Z4 tw h .no l=.no/\l≠bp/\l≠bo) h' 12 Ev.cells d' (L++[{ e with op:=op }])->(sl<h.length->n<=sl/\own sl=.no/\tw sl=.no)->h.length<=h'.length ->
   (∀j,j<h.length->j≠bo->j≠sl->h'[j]? = h[j]?)->q5 n (QV own h .no) (Z4 tw h .no) h' bp bo op (L++[{ e with op:=op }])/\Jo n own tw h (QV own h .no) (Z4 tw h .no) h'/\gp own tw h (QV own h .no) (Z4 tw h .no) h':=λh' d' sl a1 a2 a3 a4 a5 a6=>
  ⟨⟨a1,⟨d',a2,a3⟩,E.np,E.no,(Kg lp).trans E.op,(Kg lo).trans E.oo,(Vh lp).trans E.tp,(Vh lo).trans E.to,E.ne⟩,QzD E.no E.oo E.to a4 hn a5 a6⟩
 rcases hd with ⟨rfl,rfl⟩|⟨sl,g,row,rfl,⟨s1,s2,s3,s4,s5⟩,hs,hr⟩
 .have fin:=fin (h.set bo (Ag (.ref (h.length+2) 0 0 1))++[⟨.one,0,12,1,λ_=>({ e with op:=op }:Ev).cells⟩,⟨.arr,0,12,1,λ_=>({ e with op:=op }:Ev).cells⟩,⟨.arr,0,12,1,λ_=>({ e with op:=op }:Ev).cells⟩]) (.ref (h.length+2) 0 0 1) h.length
   (by rw[QG (by simpa using lp),Qr QA.symm];exact hp) (by rw[QG (by simpa using lo),QE lo])
   (.inr ⟨h.length+2,0,λ_=>({ e with op:=op }:Ev).cells,rfl,⟨ω,jj ω,EW ω,ω,ω⟩,VD (k:=2) σ,λi hi=>by
    simp at hi;subst hi;rfl⟩) (λh=>absurd h (Mb _)) σ (λj hj h1 h2=>by rw[QG (by simpa using hj),Qr (Q3 h1)])
  refine QQ func83 ntmps83 results83 λbase w pl hb=>?_;have OK:=Qb hp;have Ql:=Qb ho;simp only[go_sem,Qe,hp,OK,ho,Ql];simp only[go_sem]at fin ⊢;exact fin
 .have GQ:=Qb hs;have TA:L.length<=4294967295:=ω;have fR:L.length+1<=4294967295:=ω;have fin:=fin ((h.set sl ⟨.arr,g+1,12,L.length+1,Kt L.length 0 row λ_=>({ e with op:=op }:Ev).cells⟩).set bo (Ag (.ref sl (g+1) 0 (L.length+1)))++[⟨.one,0,12,1,λ_=>({ e with op:=op }:Ev).cells⟩,⟨.arr,0,12,1,λ_=>({ e with op:=op }:Ev).cells⟩]) (.ref sl (g+1) 0 (L.length+1)) sl
   (by rw[QG (by simpa using lp),Qr QA.symm,Qr s4];exact hp) (by rw[QG (by simpa using lo),QE (by simpa using lo)])
   (.inr ⟨sl,g+1,Kt L.length 0 row λ_=>({ e with op:=op }:Ev).cells,σ,⟨s1,(Kg GQ).trans s2,(Vh GQ).trans s3,s4,s5⟩,by rw[QG (by simpa using GQ),Qr s5.symm,QE GQ];simp,λi hi=>by
    simp at hi;by_cases qh:i<L.length
    .rw[Az qh,JD,hr i qh];simp[qh,JC qh]
    .have:i=L.length:=ω;subst this;rw[xk (QB _)];simp⟩) (λ_=>⟨s1,s2,s3⟩) σ (λj hj h1 h2=>by rw[QG (by simpa using hj),Qr (Q3 h1),Qr (Q3 h2)])
  refine QQ func83 ntmps83 results83 λbase w pl hb=>?_;have OK:=Qb hp;have Ql:=Qb ho;have GQ:=Qb hs;simp only[go_sem,Qe,hp,OK,ho,Ql,hs,GQ,Qr s5,TA];simp only[go_sem]at fin ⊢;repeat (refine And.intro δ ?_)
  exact fin
def QzE{own}{tw}{h}{p}{S}(T:Wr own tw h p S):Q6 prog 151 h [.ptr p 0 0 0] (λd=>d=u64 (Zs S)):=by
 obtain⟨ps,pl,pr,pt,T⟩:=T;have ho:=ZC T.o;obtain⟨a,b,c,hl⟩:=T.ln;have hl:=ZC hl;obtain⟨L,C⟩:=T.co.ex;have hD:=QhI C.ro T.co.I;have hU:=λ(F:List Ob) (hF:F=h.map Ob.ro)=>Qzg (h:=F) (KC hF _ _ hl);have hD:=λ(F:List Ob) (hF:F=h.map Ob.ro)=>QhI (C.ro.more (KC hF)) T.co.I;clear T C;unfold Zs;obtain⟨v,hv⟩:∃v,v=zB S.M:=⟨_,rfl⟩;rw[<- hv]at hD ⊢;refine xD func151 ntmps151 results151 λbase w pl F hF Q7 hb=>?_;rw[<- hF]at ho hl;have Ql:=Qb ho;have df:=Qb hl;simp only[go_sem];apply QF hb [0,1,2,3,4,5,6,7,9,10,11,12,1008,1013,1014,15];simp only[go_sem,ho];apply Wz hb Qqt (hU F hF);apply ZA hb;apply Wz hb Qqu (hD F hF);apply ZA hb;apply Jb hb Qqs (Qzo S.Qf S.XI v);apply ZA hb;all_goals exact cD
def QiQ{n}{own}{tw}{h:List Ob}{p}{S}(T:Wr own tw h p S)(V:Jd S){bp bo op}{L:List Ev}(E:q5 n own tw h bp bo op L)(hn:n<=h.length)(hL:L.length<100000000):
  QH prog 150 h [.ptr p 0 0 0,u64 S.Qf,.clo 83 0 [.ptr bp 0 0 0,.ptr bo 0 0 0]] (λd h'=>d=.tup []/\∃own' Jg,Wr own' Jg h' p (Js S op S.Qf).1/\q5 n own' Jg h' bp bo op (L++(Js S op S.Qf).2)/\Jo n own tw h own' Jg h'):=by
 obtain⟨ps,lp,pr,pt,T⟩:=T;have ho:=T.o;obtain⟨a,b,c,hl⟩:=T.ln;have gB:=tR (ZC hl) S.Qf;by_cases hu:S.XI<=S.Qf
 .have du:=QU hu;rw[du]at gB;refine QQ func150 ntmps150 results150 λbase w pl hb=>?_;have Ql:=Qb ho;simp only[go_sem,ho];apply ZQ hb Qgz gB;apply Qg hb;simp only[go_sem,ho];refine Zw hb Qqp (QyH T.co S.Qf) λd h1 hR=>?_;obtain⟨rfl,Jl,C1,D1⟩:=hR;have T1:=T.core D1 C1 (LD S.M S.Qf);have K1:Jo h.length own tw h Jl (Z4 tw h .no) h1:=Jo.core T.ap (QB _) D1;obtain⟨Vr,QzF⟩:∃t,t=Z4 tw h .no:=⟨_,rfl⟩;rw[<- QzF]at T1 K1;have E1:=E.yf K1;have fA:=K1.len;obtain⟨j,hj⟩:∃j,j=Kq S.M S.Qf:=⟨_,rfl⟩;obtain⟨k,hk⟩:∃k,k=Kh S.M S.Qf:=⟨_,rfl⟩;obtain⟨b,Xf⟩:∃b,b=Yq S.M S.Qf:=⟨_,rfl⟩;cases ht:Xt S.M S.Qf with
  | false=>
   have e:Js S op S.Qf=({ S with M:=takeN S.M S.Qf },[]):=by unfold Js;rw[Qc ω,Qc (by rw[ht];exact Ao)]
   rw[e,<- hj,<- hk,<- Xf];apply JH hb;have T2:=T1.BG [⟨.one,0,8,1,λ_=>qu j k b⟩];have K2:=Jo.app (n:=h1.length) Jl Vr h1 [⟨.one,0,8,1,λ_=>qu j k b⟩] .my (QB _);exact⟨_,_,⟨_,_,_,_,T2⟩,E1.yf K2,(K1.Yd hn).trans hn (K2.Yd ω)⟩
  | true=>
   have hlen:=V.take_len ht;have vS:=gh V.K hlen;rw[<- hk]at hlen vS;have XF:=V.K.l2;have Z7:=V.cl;obtain⟨done,QiR⟩:∃d,d=S.Qf+YQ S.M.lk k.len:=⟨_,rfl⟩;have e:Js S op S.Qf=({ S with M:=takeN S.M S.Qf,XI:=done,st:=YP S.st j done k.len b },[vA op b S.Qf done j k]):=by
    unfold Js;rw[Qc ω,Qd ht,<- hk,<- QiR,<- hj,<- Xf]
   rw[e,<- hj,<- hk,<- Xf];have T2:=T1.BG [⟨.one,0,8,1,λ_=>qu j k b⟩];have K2:=K1.trans (QB _) ((Jo.app (n:=h1.length) Jl Vr h1 [⟨.one,0,8,1,λ_=>qu j k b⟩] .my (QB _)).Yd fA);have E2:=E.yf K2;have ZB:(h1++[(⟨.one,0,8,1,λ_=>qu j k b⟩:Ob)])[h1.length]? = some ⟨.one,0,8,1,λ_=>qu j k b⟩:=KV rfl;have n2:QV Jl h1 .no h1.length=.no:=jj (QB _);have m2:Z4 Vr h1 .my h1.length=.my:=EW (QB _);apply JH hb;obtain⟨h2,OL⟩:∃h2,h2=h1++[(⟨.one,0,8,1,λ_=>qu j k b⟩:Ob)]:=⟨_,rfl⟩;rw[<- OL]at T2 K2 E2 ZB;simp only[go_sem,qu]at OL;rw[<- OL];clear OL;generalize QV Jl h1 .no=JW at T2 K2 E2 n2;generalize Z4 Vr h1 .my=Xd at T2 K2 E2 m2;have K6:=T2.o;have EL:=Qb K6;have CQ:=Qb ZB;obtain⟨a2,b2,c2,Jp⟩:=T2.ln;have YL:(takeN S.M S.Qf).lk=S.M.lk:=LD S.M S.Qf;have gC:=Qzk h2 Jp (by show 1<=(takeN S.M S.Qf).lk.t;rw[YL];exact V.K.t1) (by show (takeN S.M S.Qf).lk.t<=65536;rw[YL];exact V.K.t2) Z7 hu k ⟨hlen.1,ω⟩;have QzG:S.Qf+k.len.toNat*(takeN S.M S.Qf).lk.t.toNat=done:=by rw[YL,QiR];rfl
   have gC:QH prog 189 h2 [.ptr lp 0 0 0,u64 S.Qf,.agg k.cells] (λd h'=>d=.tup [u64 done,Qa 0]/\∃a' b' c' g,h'=h2.set lp (zE a' b' c' (takeN S.M S.Qf).lk.t done)++g):=by
    rw[<- QzG];exact gC
   simp only[go_sem,qu]at ZB;apply Vk [7] hb [0,1,2,3,4,5,6,1007,8,9,10,11,12] [];simp only[go_sem,K6,ZB];refine jZ hb Qqq gC λd h3 hR=>?_;obtain⟨rfl,a3,b3,c3,g3,TP⟩:=hR;have t2l:=T2.tl;have s3:Step (λl=>Xd l=.ln) h2 h3:=by
    rw[TP];exact⟨λl hl QA=>by rw[QG (by simpa using hl),Qr (λe=>QA (by rw[<- e];exact t2l))],σ⟩
   have Cz:h3[lp]? = some (zE a3 b3 c3 (takeN S.M S.Qf).lk.t done):=by rw[TP,QG (by simpa using Qb Jp),QE (Qb Jp)]
   have T3:=T2.link s3 Cz;have K3:=K2.trans (QB _) ((Jo.part (n:=h2.length) (own:=JW) (t:=.ln) ⟨σ,σ⟩ (QB _) s3).Yd K2.len);have E3:=E.yf K3;have qn:h3[h1.length]? = some _:=(s3.keep _ CQ (by rw[m2];simp)).trans ZB;have n3:QV JW h2 .no h1.length=.no:=(Kg CQ).trans n2;have m3:Z4 Xd h2 .ln h1.length=.my:=(Vh CQ).trans m2;clear TP gC;generalize QV JW h2 .no=y9 at T3 K3 E3 n3;generalize Z4 Xd h2 .ln=gD at T3 K3 E3 m3;have zd:=T3.o;have Li:=Qb zd;have S5:=Qb qn;apply ZA hb;have QzI:=Qzs T3.st j (done:=done) ω (bytes:=k.len) hlen.1 ω b;apply Vk [12] hb [0,1,2,3,4,5,6,7,8,9,10,11,1012] [];simp only[go_sem,zd,qn];refine jZ hb Qqr QzI λd h4 hR=>?_;obtain⟨s4,ua⟩:=hR;have T4:=T3.stat s4 ua;have K4:=K3.trans (QB _) ((Jo.part (n:=h3.length) (own:=y9) (t:=.st) ⟨σ,σ⟩ (QB _) s4).Yd K3.len);have E4:=E.yf K4;have CI:h4[h1.length]? = some _:=(s4.keep _ S5 (by rw[m3];simp)).trans qn;generalize QV y9 h3 .no=CS at T4 K4 E4;generalize Z4 gD h3 .st=G3 at T4 K4 E4;have QGo:=Qb CI;apply ZH hb;simp only[go_sem,CI];have TC:n<=h4.length:=Ki hn K4.len;refine YB hb Qdd rfl ?_ (QiP E4 TC ω (vA 0 b S.Qf done j k)) rfl λd h5 hR=>?_
   .simp only[go_sem,vA]
   obtain⟨rfl,E5,K5,st5⟩:=hR;have T5:=T4.step st5 (gA T4.ap);have AD:({ vA 0 b S.Qf done j k with op:=(op:Int) }:Ev)=vA op b S.Qf done j k:=rfl;rw[AD]at E5;apply Qn hb;exact⟨_,_,⟨_,_,_,_,T5⟩,E5,(K4.Yd hn).trans hn K5⟩
 .have du:=QI hu;rw[du]at gB;have e:Js S op S.Qf=(S,[]):=by unfold Js;rw[Qd ω]
  rw[e];refine QQ func150 ntmps150 results150 λbase w pl hb=>?_;have Ql:=Qb ho;simp only[go_sem,ho];apply ZQ hb Qgz gB;apply Qn hb;exact⟨own,tw,⟨_,_,_,_,T⟩,E,Jo.refl n own tw h⟩
@[go_sem] def kv.cells(r:kv):List D:=[Qa r.err,Qa r.place,Qa r.cls]
def q5.loc{n}{own}{tw}{h:List Ob}{bp bo op}{L}(E:q5 n own tw h bp bo op L){l}{o1:Ob}(hl:h[l]? = some o1)(hk:o1.kd≠.arr)(h1:l≠bp)(h2:l≠bo)(o):q5 n own tw (h.set l o) bp bo op L:=by
 obtain⟨d,a1,a2⟩:=E.ho;exact⟨by rw[Qr h1];exact E.hp,⟨d,by rw[Qr h2];exact a1,a2.imp id λ⟨lo,g,row,b1,b2,b3,b4⟩=>⟨lo,g,row,b1,b2,by rw[Qr (yd hl b3 (.inl hk))];exact b3,b4⟩⟩,E.np,E.no,E.op,E.oo,E.tp,E.to,E.ne⟩
def Jo.CK{n}{own own'}{tw Jg}{h H:List Ob}(D:Jo n own tw h own' Jg H){l}(hl:n<=l)(hm:h.length<=l)(o):Jo n own tw h own' Jg (H.set l o):=⟨D.s1,D.s2,λj h1 h2 h3=>by rw[Qr ω];exact D.keep j h1 h2 h3,λj h1 h2=>by rw[Qr ω];exact D.my j h1 h2,by simpa using D.len⟩
def QzK{n}{own}{tw}{h:List Ob}{p}{S:ZF}(T:Wr own tw h p S)(V:Jd S){bp bo op}{L:List Ev}(E:q5 n own tw h bp bo op L)(hn:n<=h.length)(hL:L.length<10000000)(gy:∀k,(S.st.Jc k).length<1000000)(x)(hx:Qmg x):
  QH prog 86 h [.ptr p 0 0 0,.agg x.cells,.clo 83 0 [.ptr bp 0 0 0,.ptr bo 0 0 0]] (λd h'=>d=.agg (YR S op x).r.cells/\∃own' Jg,Wr own' Jg h' p (YR S op x).S/\q5 n own' Jg h' bp bo op (L++(YR S op x).l)/\Jo n own tw h own' Jg h'):=by
 obtain⟨ps,lp,pr,pt,T⟩:=T;have Z7:=V.cl;have T1:=T.BG [⟨.one,0,6,1,λ_=>x.cells⟩,⟨.one,0,3,1,λ_=>[Qa 0,Qa 0,Qa 0]⟩];have K1:=Jo.app (n:=h.length) own tw h [⟨.one,0,6,1,λ_=>x.cells⟩,⟨.one,0,3,1,λ_=>[Qa 0,Qa 0,Qa 0]⟩] .my (QB _);have E1:=E.yf K1;have Xz:(h++[(⟨.one,0,6,1,λ_=>x.cells⟩:Ob),⟨.one,0,3,1,λ_=>[Qa 0,Qa 0,Qa 0]⟩])[h.length]? = some ⟨.one,0,6,1,λ_=>x.cells⟩:=KV rfl;have We:(h++[(⟨.one,0,6,1,λ_=>x.cells⟩:Ob),⟨.one,0,3,1,λ_=>[Qa 0,Qa 0,Qa 0]⟩])[h.length+1]? = some ⟨.one,0,3,1,λ_=>[Qa 0,Qa 0,Qa 0]⟩:=VD (k:=1) rfl;have n1:∀i,h.length<=i->QV own h .no i=.no:=λi hi=>jj hi;have m1:∀i,h.length<=i->Z4 tw h .my i=.my:=λi hi=>EW hi;have fA:h.length+2=(h++[(⟨.one,0,6,1,λ_=>x.cells⟩:Ob),⟨.one,0,3,1,λ_=>[Qa 0,Qa 0,Qa 0]⟩]).length:=σ;refine QQ func86 ntmps86 results86 λbase w pl hb=>?_;simp only[go_sem,Qe];obtain⟨h1,BH⟩:∃h1,h1=h++[(⟨.one,0,6,1,λ_=>x.cells⟩:Ob),⟨.one,0,3,1,λ_=>[Qa 0,Qa 0,Qa 0]⟩]:=⟨_,rfl⟩;rw[<- BH]at T1 K1 E1 Xz We fA;simp only[go_sem]at BH;rw[<- BH];clear BH;generalize QV own h .no=Jl at T1 K1 E1 n1;generalize Z4 tw h .my=Vr at T1 K1 E1 m1;have ZN:=T1.o;have Lf:=Qb ZN;have LI:=Qb Xz;have OM:=Qb We;obtain⟨dr,le,dm,cc,es,ms,Tb⟩:=T1.tb;have F:=Qzu Tb.toR x hx;obtain⟨cls,G4⟩:∃c,c=Kr S.R (ZR x):=⟨_,rfl⟩;rw[<- G4]at F;by_cases h0:cls=0
 .have e:YR S op x=⟨S,⟨31,0,0⟩,[]⟩:=by unfold YR;rw[Qd (by rw[<- G4];exact h0)]
  rw[e];rw[Qd h0,h0]at F;simp only[go_sem]at Xz;apply QF hb [0,1,2,3,4,5,1006,7,8,9,10,11];simp only[go_sem,ZN,Xz];apply Wz hb Qdl F;apply ZH hb;simp only[go_sem,We,QE OM];exact⟨Jl,Vr,⟨_,_,_,_,T1.loc (n1 _ ω) (.inr (m1 _ ω)) _⟩,E1.loc We nofun (by have:=Qb E.hp;omega) (by obtain⟨d,h1,_⟩:=E.ho;have:=Qb h1;omega) _,(K1.Yd hn).CK ω ω _⟩
 .have nb:h.length+1≠bp/\h.length+1≠bo:=by
   obtain⟨d,h1,_⟩:=E.ho;have:=Qb h1;have:=Qb E.hp;omega
  rw[Qc h0]at F;have P:=QyG T1.co S.Qf ω cls x;simp only[go_sem]at Xz;obtain⟨err,QgI⟩:∃e,e=km S.M S.Qf cls x:=⟨_,rfl⟩;rw[<- QgI]at P;apply QF hb [0,1,2,3,4,5,1006,7,8,9,10,11];simp only[go_sem,ZN,Xz];apply Wz hb Qdl F;apply ZA hb;apply Vk [10] hb [0,1,2,3,4,5,6,7,8,9,1010,11] [];simp only[go_sem,ZN,Xz];refine jZ hb Qqa P λd h2 hR=>?_;obtain⟨rfl,JW,C2,D2⟩:=hR;have T2:=T1.core D2 C2 (LC S.M S.Qf cls x);have K2':Jo h1.length Jl Vr h1 JW (Z4 Vr h1 .no) h2:=Jo.core T1.ap (QB _) D2;have K2:=K1.trans (QB _) (K2'.Yd K1.len);have E2:=E1.yf K2';have Wf:h2[h.length]? = some _:=(D2.keep _ LI (n1 _ (QB _))).trans Xz;have Jy:h2[h.length+1]? = some _:=(D2.keep _ OM (n1 _ ω)).trans We;have n2:JW (h.length+1)=.no:=(D2.same _ OM).trans (n1 _ ω);have n2x:JW h.length=.no:=(D2.same _ LI).trans (n1 _ ω);have m2:Z4 Vr h1 .no (h.length+1)=.my:=(Vh OM).trans (m1 _ ω);have m2x:Z4 Vr h1 .no h.length=.my:=(Vh LI).trans (m1 _ ω);generalize Z4 Vr h1 .no=Xd at T2 K2 E2 m2 m2x;have K6:=T2.o;have EL:=Qb K6;have QzL:=Qb Wf;have vD:=Qb Jy;apply ZA hb;by_cases he:err=0
  .have Of:(err != 0)=false:=by simpa using he
   have hS':Jd { S with M:=Jx S.M S.Qf cls x,st:=vw S.st cls S.Qf }:=(V.put cls x).Jc cls S.Qf (by show S.Qf<_;omega);have e:YR S op x=⟨(Js { S with M:=Jx S.M S.Qf cls x,st:=vw S.st cls S.Qf } op S.Qf).1,⟨0,0,cls⟩,inE op S.Qf cls x::(Js { S with M:=Jx S.M S.Qf cls x,st:=vw S.st cls S.Qf } op S.Qf).2⟩:=by
    unfold YR;rw[Qc (by rw[<- G4];exact h0),Qd (by rw[<- G4,<- QgI];exact he),<- G4]
   rw[e];have QzN:=Qzq T2.st cls S.Qf (gy cls);simp only[go_sem,Of];apply Vk [9] hb [0,1,2,3,4,5,6,7,8,1009] [];simp only[go_sem,K6];refine jZ hb Qqb QzN λd h3 hR=>?_;obtain⟨rfl,s3,st3⟩:=hR;have T3:=T2.stat s3 st3;have K3':Jo h2.length JW Xd h2 (QV JW h2 .no) (Z4 Xd h2 .st) h3:=Jo.part ⟨σ,σ⟩ (QB _) s3;have K3:=K2.trans (QB _) (K3'.Yd K2.len);have E3:=E2.yf K3';have IB:h3[h.length]? = some _:=(s3.keep _ QzL (by rw[m2x];simp)).trans Wf;have zw:h3[h.length+1]? = some _:=(s3.keep _ vD (by rw[m2];simp)).trans Jy;have n3:QV JW h2 .no (h.length+1)=.no:=(Kg vD).trans n2;have m3:Z4 Xd h2 .st (h.length+1)=.my:=(Vh vD).trans m2;generalize QV JW h2 .no=y9 at T3 K3 E3 n3;generalize Z4 Xd h2 .st=gD at T3 K3 E3 m3;have zd:=T3.o;have Li:=Qb zd;have QGq:=Qb IB;have LJ:=Qb zw;have yP:n<=h3.length:=Ki hn K3.len;apply ZA hb;apply Vk [8] hb [0,1,2,3,4,5,6,7,1008] [];simp only[go_sem,zd,IB];refine xI hb Qdd rfl ?_ (QiP E3 yP ω (inE 0 S.Qf cls x)) rfl λd h4 hR=>?_
   .simp only[go_sem,inE]
   obtain⟨rfl,E4,gF,ua⟩:=hR;have T4:=T3.step ua (gA T3.ap);have K4:=(K3.Yd hn).trans hn gF;have NV:h4[h.length+1]? = some _:=(gF.my _ LJ m3).trans zw;have n4:QV y9 h3 .no (h.length+1)=.no:=(Kg LJ).trans n3;have m4:Z4 gD h3 .no (h.length+1)=.my:=(Vh LJ).trans m3;have AD:({ inE 0 S.Qf cls x with op:=(op:Int) }:Ev)=inE op S.Qf cls x:=rfl;rw[AD]at E4;generalize QV y9 h3 .no=CS at T4 E4 K4 gF n4;generalize Z4 gD h3 .no=G3 at T4 E4 K4 gF m4;have Oh:=T4.o;have Qwv:=Qb Oh;have ub:=Qb NV;have TC:n<=h4.length:=Ki hn K4.len;apply ZH hb;simp only[go_sem,Oh];have QzP:=QiQ (T:=⟨_,_,_,_,T4⟩) hS' E4 TC ξ;refine Zw hb Qdm QzP λd h5 hR=>?_;obtain⟨rfl,wN,TQ,⟨_,_,_,_,T5⟩,E5,K5⟩:=hR;have uc:h5[h.length+1]? = some _:=(K5.my _ ub m4).trans NV;have n5:=(K5.s1 _ ub).trans n4;have m5:=(K5.s2 _ ub).trans m4;have QzQ:=Qb uc;rw[V9]at E5;apply Qg hb;simp only[go_sem,uc,QE QzQ];exact⟨wN,TQ,⟨_,_,_,_,T5.loc n5 (.inr m5) _⟩,E5.loc uc nofun nb.1 nb.2 _,(K4.trans hn K5).CK ω ω _⟩
  .have e:YR S op x=⟨{ S with M:=Jx S.M S.Qf cls x },⟨err,0,cls⟩,[]⟩:=by unfold YR;rw[Qc (by rw[<- G4];exact h0),Qc (by rw[<- G4,<- QgI];exact he),<- G4,<- QgI]
   have Of:(err != 0)=true:=by simpa using he
   rw[e];simp only[go_sem,Of,Jy,QE vD];exact⟨JW,Xd,⟨_,_,_,_,T2.loc n2 (.inr m2) _⟩,E2.loc Jy nofun nb.1 nb.2 _,(K2.Yd hn).CK ω ω _⟩
def zC.q64{own}{h}{p}{M}(C:zC own h p M)(j:Int):(Zj M j).length<=64:=by
 unfold Zj Qw;cases hn:Qh M.N j with
 | none=>exact Jh _
 | some n=>
  show n.q.l.length<=64;cases hl:n.c.leaf with
  | true=>
   obtain⟨L,c⟩:=C.ex;obtain⟨k,hk,r,Q⟩:=c.WX j n hn hl;have:=Q.ring.pF;omega
  | false=>rw[C.V.x7 j n hn hl];exact Jh _
def ud(f:Qq->Nat)(b):∀l:List Qq,(∀c∈l,f c<=b)->(l.map f).sum<=l.length*b
 | [],_=>σ
 | c::l,h=>by
  have h1:=h c σ;have h2:=ud f b l λd hd=>h d (by simp[hd]);simp only[JQ,Qn9,Kv,Vz,Me];omega
def zC.gG{own}{h}{p}{M}(C:zC own h p M):VR M<=4096:=by
 have h1:=ud (λc=>(Zj M c.iD).length) 64 M.T λc _=>C.q64 c.iD;have h2:=C.I.tree.len;unfold VR;have h3:M.T.length*64<=64*64:=X7 64 h2;omega
def TR(S:ZF)(op now:Nat):(Js S op now).2.length<=1:=by
 unfold Js;split
 .exact Jh _
 .split
  .exact QB _
  .exact Jh _
def Jo.ue{n}{own own'}{tw Jg}{h H:List Ob}(D:Jo n own tw h own' Jg H){p}(hp:tw p=.sys)(o):Jo n own tw h own' Jg (H.set p o):=
 ⟨D.s1,D.s2,λj h1 h2 h3=>by rw[Qr (λe=>by rw[<- e,hp]at h3;cases h3)];exact D.keep j h1 h2 h3,λj h1 h2=>by rw[Qr (λe=>by rw[<- e,hp]at h2;cases h2)];exact D.my j h1 h2,by simpa using D.len⟩
structure QiV (n:Nat) (own:Nat->Tag) (tw:Nat->TT) (h:List Ob) (p:Nat) (S:ZF) (bp bo op e:Nat) (L:List Ev) (r k:Nat) (own':Nat->Tag) (Jg:Nat->TT) (H:List Ob) (S':ZF) (L':List Ev):Prop where
 T:Wr own' Jg H p S'
 V:Jd S'
 E:q5 n own' Jg H bp bo op (L++L')
 K:Jo n own tw h own' Jg H
 hr:H[r]? = some ⟨.one,0,3,1,λ_=>[Qa 0,Qa 0,Qa 0]⟩
 nr:own' r=.no
 mr:Jg r=.my
 hk:VR S'.M+k=VR S.M
 cl:S'.Qf<=e
 go:Vg op e (VR S.M+1) S=((Vg op e (VR S'.M+1) S').1,L'++(Vg op e (VR S'.M+1) S').2)
 ln:L'.length<=k
def QzS{n}{own}{tw}{h:List Ob}{p}{S}(T:Wr own tw h p S)(V:Jd S){bp bo op}{L:List Ev}(E:q5 n own tw h bp bo op L)(hn:n<=h.length)(hL:L.length<10000000)(Wi)(vS:Wi<18446744073709551616):
  QH prog 87 h [.ptr p 0 0 0,u64 Wi,.clo 83 0 [.ptr bp 0 0 0,.ptr bo 0 0 0]] (λd h'=>d=.agg (qZ S op Wi).r.cells/\∃own' Jg,Wr own' Jg h' p (qZ S op Wi).S/\q5 n own' Jg h' bp bo op (L++(qZ S op Wi).l)/\Jo n own tw h own' Jg h'):=by
 obtain⟨ps,lp,pr,pt,T⟩:=T;have Z7:=V.cl;have nb:h.length≠bp/\h.length≠bo:=by
  obtain⟨d,h1,_⟩:=E.ho;have:=Qb h1;have:=Qb E.hp;omega
 have T1:=T.BG [⟨.one,0,3,1,λ_=>[Qa 0,Qa 0,Qa 0]⟩];have K1:=Jo.app (n:=h.length) own tw h [⟨.one,0,3,1,λ_=>[Qa 0,Qa 0,Qa 0]⟩] .my (QB _);have E1:=E.yf K1;have We:(h++[(⟨.one,0,3,1,λ_=>[Qa 0,Qa 0,Qa 0]⟩:Ob)])[h.length]? = some ⟨.one,0,3,1,λ_=>[Qa 0,Qa 0,Qa 0]⟩:=KV rfl;have n1:QV own h .no h.length=.no:=jj (QB _);have m1:Z4 tw h .my h.length=.my:=EW (QB _);have ho:=T.o;have Ql:=Qb ho;have w1:IntKind.u64.wrap ((4611686018427387904:Int) - (S.Qf:Int))=((4611686018427387904 - S.Qf:Nat):Int):=η;by_cases h0:4611686018427387904 - S.Qf<Wi
 .have e:qZ S op Wi=⟨S,⟨27,0,0⟩,[]⟩:=by unfold qZ;rw[Qd h0]
  rw[e];have d0:=QU h0;refine QQ func87 ntmps87 results87 λbase w pl hb=>?_;have Ql:=Qb ho;simp only[go_sem,Qe,ho,Ql,w1,d0];exact⟨_,_,⟨_,_,_,_,T.BG _⟩,E.yf (Jo.app own tw h _ .my (QB _)),(Jo.app own tw h _ .my (QB _)).Yd hn⟩
 .have d0:=QI h0;obtain⟨e,he⟩:∃e,e=S.Qf+Wi:=⟨_,rfl⟩;have w2:IntKind.u64.wrap ((S.Qf:Int)+(Wi:Int))=((e:Nat):Int):=η;have hA:qZ S op Wi=⟨(Vg op e (VR S.M+1) S).1,⟨0,0,0⟩,(Vg op e (VR S.M+1) S).2⟩:=by unfold qZ;rw[Qc h0,<- he]
  rw[hA];refine QQ func87 ntmps87 results87 λbase w pl hb=>?_;have Ql:=Qb ho;simp only[go_sem,Qe,ho,Ql,w1,d0,w2];have A0:QiV n own tw h p S bp bo op e L h.length 0 (QV own h .no) (Z4 tw h .my) (h++[(⟨.one,0,3,1,λ_=>[Qa 0,Qa 0,Qa 0]⟩:Ob)]) S []:=
   ⟨⟨_,_,_,_,T1⟩,V,by rw[JI];exact E1,K1.Yd hn,We,n1,m1,ω,ω,rfl,QB _⟩
  have QGr:=T.co.gG;refine Z3 (λk s=>∃own' Jg H S' L',QiV n own tw h p S bp bo op e L h.length k own' Jg H S' L'/\s=⟨[(0,.ptr p 0 0 0),(2,.clo 83 0 [.ptr bp 0 0 0,.ptr bo 0 0 0]),(6,.ptr h.length 0 0 0),(7,u64 e)],H⟩) (VR S.M) QM ⟨_,_,_,S,[],A0,rfl⟩ ?_;clear A0 T1 K1 E1 We n1 m1;rintro k _ hk ⟨JW,Xd,H,S2,L2,A,rfl⟩;obtain⟨ON,OO,OP,OQ,T2⟩:=A.T;have K6:=T2.o;have EL:=Qb K6;have N:=QzE ⟨ON,OO,OP,OQ,T2⟩;obtain⟨nx,zy⟩:∃nx,nx=Zs S2:=⟨_,rfl⟩;rw[<- zy]at N;have Jy:=A.hr;have vD:=Qb Jy;have pb:p≠bp/\p≠bo:=⟨λe=>(by have h1:=T2.tp;rw[e,A.E.tp]at h1;cases h1),λe=>(by have h1:=T2.tp;rw[e,A.E.to]at h1;cases h1)⟩;have Db:p≠h.length:=λe=>by have:=T.o;have:=Qb this;omega
  apply Qn hb;apply ZQ hb Qqc N;apply Qn hb;by_cases QA:e<nx
  .have d1:=QU QA;have vX:Vg op e (VR S2.M+1) S2=({ S2 with Qf:=e },[]):=by
    unfold Vg;rw[Qd (by rw[<- zy];exact QA)]
   have hg:=A.go;rw[vX,JI]at hg;rw[hg];simp only[go_sem,Qe,d1,K6,Qr Db,Jy,vD,QE];have hr9:(H.set p (zD ON OO OP OQ e S2.ops))[h.length]? = some ⟨.one,0,3,1,λ_=>[Qa 0,Qa 0,Qa 0]⟩:=(Qr Db).trans Jy;exact⟨JW,Xd,⟨_,_,_,_,(T2.clock e S2.ops).loc A.nr (.inr A.mr) _⟩,(A.E.loc K6 nofun pb.1 pb.2 _).loc hr9 nofun nb.1 nb.2 _,(A.K.ue T.tp _).CK hn (QB _) _⟩
  .have d1:=QI QA;have hle:Zs S2<=e:=ω;obtain⟨V3,c1,c2,c3⟩:=Qzb A.V op ω hle;have vX:Vg op e (VR S2.M+1) S2=((Vg op e (VR S2.M) (Js { S2 with Qf:=Zs S2 } op (Zs S2)).1).1,(Js { S2 with Qf:=Zs S2 } op (Zs S2)).2++(Vg op e (VR S2.M) (Js { S2 with Qf:=Zs S2 } op (Zs S2)).1).2):=by
    conv=>lhs;unfold Vg
    rw[Qc (by rw[<- zy];exact QA)]
   have hg:=A.go;rw[vX,<- c1,<- V9]at hg;have Zh:=TR { S2 with Qf:=Zs S2 } op (Zs S2);subst zy;have T3:=T2.clock (Zs S2) S2.ops;have V2:Jd { S2 with Qf:=Zs S2,ops:=S2.ops }:=A.V.at_ c2 ω;have E3:=A.E.loc K6 nofun pb.1 pb.2 (zD ON OO OP OQ (Zs S2) S2.ops);have zw:(H.set p (zD ON OO OP OQ (Zs S2) S2.ops))[h.length]? = some _:=(Qr Db).trans Jy;have K3:=A.K.ue T.tp (zD ON OO OP OQ (Zs S2) S2.ops);have yP:n<=(H.set p (zD ON OO OP OQ (Zs S2) S2.ops)).length:=Ki hn K3.len;have DL:=A.ln;have jC:=A.hk;have P:=QiQ (T:=⟨_,_,_,_,T3⟩) V2 E3 yP (by rw[ZW];omega);simp only[go_sem,d1,K6];refine Zw hb Qdm P λd h5 hR=>?_;obtain⟨rfl,wN,TQ,T5,E5,K5⟩:=hR;have LJ:=Qb zw;apply Qn hb;have QzU:VR (Js { S2 with Qf:=Zs S2 } op (Zs S2)).1.M+(k+1)=VR S.M:=ω;have QzV:(L2++(Js { S2 with Qf:=Zs S2 } op (Zs S2)).2).length<=k+1:=by rw[ZW];omega
   refine⟨ω,_,Qz.frame (fr':=[(0,.ptr p 0 0 0),(2,.clo 83 0 [.ptr bp 0 0 0,.ptr bo 0 0 0]),(6,.ptr h.length 0 0 0),(7,u64 e)]) (by simp only[go_sem]),wN,TQ,h5,_,L2++(Js { S2 with Qf:=Zs S2 } op (Zs S2)).2,⟨T5,V3,by rw[<- V9];exact E5,K3.trans hn K5,(K5.my _ LJ A.mr).trans zw,(K5.s1 _ LJ).trans A.nr,(K5.s2 _ LJ).trans A.mr,QzU,by rw[c3];exact hle,hg,QzV⟩,rfl⟩
def Ah(tw:Nat->TT)(n:Nat):Nat->TT:=λl=>if l=n+2\/l=n+3 then .no else if n<=l then .my else tw l
def gH{tw}{n l}(h:l<n):Ah tw n l=tw l:=by unfold Ah;rw[Qc ω,Qc ω]
def QiW{tw}{n l}(h:l=n+2\/l=n+3):Ah tw n l=.no:=by unfold Ah;rw[Qd h]
def QzW{tw}{n l}(h:n<=l)(h2:l≠n+2)(h3:l≠n+3):Ah tw n l=.my:=by unfold Ah;rw[Qc ω,Qd h]
structure OR (S:ZF):Prop where
 ca:∀k,(S.st.Jc k).length<=S.ops
structure EZ (own:Nat->Tag) (tw:Nat->TT) (h:List Ob) (p:Nat) (op:Nat) (S':ZF) (L:List Ev) (r:kv) (own':Nat->Tag) (Jg:Nat->TT) (H:List Ob) (d:D):Prop where
 T:Wr own' Jg H p S'
 E:q5 h.length own' Jg H (h.length+3) (h.length+2) op L
 K:Jo h.length own tw h own' Jg H
 AP:H[h.length+1]? = some ⟨.one,0,3,1,λ_=>[Qa 0,Qa 0,Qa 0]⟩
 hr:H[h.length+4]? = some ⟨.one,0,3,1,λ_=>r.cells⟩
 ho:H[h.length+2]? = some (Ag d)
 hs:zF (λl=>h.length<=l/\own' l=.no/\Jg l=.no/\l≠h.length+3/\l≠h.length+2) H 12 Ev.cells d L
 n1:own' (h.length+1)=.no
 m1:Jg (h.length+1)=.my
 n4:own' (h.length+4)=.no
 m4:Jg (h.length+4)=.my
def DoR(own:Nat->Tag)(tw:Nat->TT)(h:List Ob)(p:Nat)(Y:OG)(d:D)(h':List Ob):Prop:=
 ∃dl own' Jg,d=.tup [.agg Y.r.cells,dl]/\Wr own' Jg h' p Y.S/\zF (λl=>h.length<=l/\own' l=.no/\Jg l=.no) h' 12 Ev.cells dl Y.l/\Jo h.length own tw h own' Jg h'
def EZ.done{own}{tw}{h}{p op}{S'}{L}{r}{own'}{Jg}{H}{d}(I:EZ own tw h p op S' L r own' Jg H d)(o):
  DoR own tw h p ⟨S',r,L⟩ (.tup [.agg r.cells,d]) (H.set (h.length+1) o):=by
 obtain⟨ps,lp,pr,pt,T⟩:=I.T;refine⟨d,own',Jg,rfl,⟨_,_,_,_,T.loc I.n1 (.inr I.m1) o⟩,I.hs.imp id λ⟨lo,g,row,h1,h2,h3,h4⟩=>⟨lo,g,row,h1,⟨h2.1,h2.2.1,h2.2.2.1⟩,by rw[Qr (yd I.AP h3 (.inl nofun))];exact h3,h4⟩,I.K.CK ω ω o⟩
def EZ.next{own}{tw}{h}{p op}{S'}{L}{r}{Jl}{Vr}{H}{d}(I:EZ own tw h p op S' L r Jl Vr H d){S2}{L2}{JW}{Xd}{H2}
  (T2:Wr JW Xd H2 p S2) (E2:q5 h.length JW Xd H2 (h.length+3) (h.length+2) op L2) (K2:Jo h.length Jl Vr H JW Xd H2):∃d2,EZ own tw h p op S2 L2 r JW Xd H2 d2:=by
 obtain⟨d2,a1,a2⟩:=E2.ho;have l1:=Qb I.AP;have l4:=Qb I.hr;exact⟨d2,T2,E2,I.K.trans (QB _) K2,(K2.my _ l1 I.m1).trans I.AP,(K2.my _ l4 I.m4).trans I.hr,a1,a2,(K2.s1 _ l1).trans I.n1,(K2.s2 _ l1).trans I.m1,(K2.s1 _ l4).trans I.n4,(K2.s2 _ l4).trans I.m4⟩
def EZ.TS{own}{tw}{h:List Ob}{p op}{S'}{L}{r}{Jl}{Vr}{H:List Ob}{d}(I:EZ own tw h p op S' L r Jl Vr H d)(r2:kv):EZ own tw h p op S' L r2 Jl Vr (H.set (h.length+4) ⟨.one,0,3,1,λ_=>r2.cells⟩) d:=by
 obtain⟨ps,lp,pr,pt,T⟩:=I.T;exact⟨⟨_,_,_,_,T.loc I.n4 (.inr I.m4) _⟩,I.E.loc I.hr nofun ω ω _,I.K.CK ω ω _,by rw[Qr ω];exact I.AP,QE (Qb I.hr),by rw[Qr ω];exact I.ho,
  I.hs.imp id λ⟨lo,g,row,h1,h2,h3,h4⟩=>⟨lo,g,row,h1,h2,by rw[Qr (yd I.hr h3 (.inl nofun))];exact h3,h4⟩,I.n1,I.m1,I.n4,I.m4⟩
def QzX{own}{tw}{h}{p}{S:ZF}(T:Wr own tw h p S)(V:Jd S)(hC:OR S)(gI:S.ops<1000000)(o:ZV)(ho:ZV.Ok o)(hc:o.changes.length<1000000)(Kc:o.rules.length<1000000):
  QH prog 33 h [.ptr p 0 0 0,.agg o.cells] (λd h'=>DoR own tw h p (JM S o) d h'):=by
 obtain⟨ps,lp,pr,pt,T⟩:=T;have hp:=T.o;have OK:=Qb hp;have Zb:=J9 (show S.ops<4611686018427387904 from ω);have eS:JM S o=VX { S with ops:=S.ops+1 } S.ops o:=rfl;rw[eS];obtain⟨S1,NZ⟩:∃S1,S1={ S with ops:=S.ops+1 }:=⟨_,rfl⟩;have T0:Wq own tw (h.set p (zD ps lp pr pt S.Qf (S.ops+1))) p ps lp pr pt { S with ops:=S.ops+1 }:=T.clock S.Qf (S.ops+1);rw[<- NZ]at T0 ⊢;obtain⟨H,hH⟩:∃H,H=h.set p (zD ps lp pr pt S.Qf (S.ops+1))++[(⟨.one,0,10,1,λ_=>o.cells⟩:Ob),⟨.one,0,3,1,λ_=>[Qa 0,Qa 0,Qa 0]⟩,Ag .nil,Ag (Qa S.ops),⟨.one,0,3,1,λ_=>[Qa 1,Qa 0,Qa 0]⟩]:=⟨_,rfl⟩;have ql:(h.set p (zD ps lp pr pt S.Qf (S.ops+1))).length=h.length:=σ;have ne:∀l,l<h.length->(Ah tw h.length l)=tw l:=λl hl=>gH hl;have T1:Wq (QV own h .no) (Ah tw h.length) H p ps lp pr pt S1:=by
  rw[hH];refine T0.step (λl hl=>⟨λ_=>⟨Kg (by rw[<- ql];exact hl),QG hl⟩,λ_ _=>⟨gH (by rw[<- ql];exact hl),QG hl⟩⟩) λl hl=>?_;by_cases h1:l<h.length
  .rw[gH h1]at hl;rw[Kg h1];exact T.ap l hl
  .exact jj ω
 have K1:Jo h.length own tw h (QV own h .no) (Ah tw h.length) H:=by
  rw[hH];refine⟨λl hl=>Kg hl,λl hl=>gH hl,λl hl h1 h2=>?_,λl hl h1=>?_,σ⟩
  .rw[QG (by rw[ql];exact hl),Qr (λe=>by rw[<- e,T.tp]at h2;cases h2)]
  .rw[QG (by rw[ql];exact hl),Qr (λe=>by rw[<- e,T.tp]at h1;cases h1)]
 have at_:∀k x,[(⟨.one,0,10,1,λ_=>o.cells⟩:Ob),⟨.one,0,3,1,λ_=>[Qa 0,Qa 0,Qa 0]⟩,Ag .nil,Ag (Qa S.ops),⟨.one,0,3,1,λ_=>[Qa 1,Qa 0,Qa 0]⟩][k]? = some x->H[h.length+k]? = some x:=λk x hk=>by
  rw[hH,VD (k:=k) ql];exact hk
 have E1:q5 h.length (QV own h .no) (Ah tw h.length) H (h.length+3) (h.length+2) S.ops []:=
  ⟨at_ 3 _ rfl,⟨.nil,at_ 2 _ rfl,.inl ⟨rfl,rfl⟩⟩,ω,ω,jj ω,jj ω,QiW (.inr rfl),QiW (.inl rfl),ω⟩
 have ZN:H[h.length]? = some ⟨.one,0,10,1,λ_=>o.cells⟩:=at_ 0 _ rfl;have TU:=at_ 1 _ rfl;have TV:=at_ 2 _ rfl;have We:=at_ 4 _ rfl;have n1:∀i,h.length<=i->QV own h .no i=.no:=λi hi=>jj hi;have m1:∀i,h.length<=i->i≠h.length+2->i≠h.length+3->Ah tw h.length i=.my:=λi hi h2 h3=>QzW hi h2 h3;clear at_ ne ql;generalize DQ:QV own h .no=Jl at T1 K1 E1 n1;generalize OS:Ah tw h.length=Vr at T1 K1 E1 m1;have XN:=T1.o;have QzY:=Qb XN;have Lf:=Qb ZN;have QiY:=Qb TU;have QzZ:=Qb TV;have OM:=Qb We;have QGs:S1.Qf=S.Qf:=by rw[NZ]
 have V1:Jd S1:=by rw[NZ];exact V.ops _
 have KJ:h.length<=H.length:=K1.len;refine QQ func33 ntmps33 results33 λbase w pl hb=>?_;have OK:=Qb hp;simp only[go_sem,Qe,hp,OK,Zb];simp only[go_sem]at hH ZN We TU TV;rw[<- hH];clear hH;have OT:h.length+1≠h.length+2:=ω;have TW:h.length+4≠h.length+2:=ω;have TX:h.length+4≠h.length+1:=ω;have I0:EZ own tw h p S.ops S1 [] ⟨1,0,0⟩ Jl Vr H .nil:=⟨⟨_,_,_,_,T1⟩,E1,K1,TU,We,TV,.inl ⟨rfl,rfl⟩,n1 _ ω,m1 _ ω ω ω,n1 _ ω,m1 _ ω ω ω⟩;obtain⟨hk0,⟨_,y8⟩,⟨_,hru⟩,hpk,vS,_⟩:=ho;by_cases k1:o.kind=1
 .have b1:(o.kind==1)=true:=by simpa using k1
  obtain⟨la,lb,lc,Jj⟩:=T1.ln;have F:=tR (ZC Jj) S1.Qf;obtain⟨bf,hbf⟩:∃b,b=decide (S1.XI<=S1.Qf):=⟨_,rfl⟩;have e:VX S1 S.ops o=⟨{ S1 with M:=K0 S1.M bf o.changes },⟨jh S1.M bf o.changes,x6 S1.M o.changes,0⟩,[]⟩:=by unfold VX;rw[Qd k1,<- hbf]
  rw[e];rw[<- hbf]at F;have C:=QyI T1.co bf o.changes y8 hc;obtain⟨ce,hce⟩:∃x,x=jh S1.M bf o.changes:=⟨_,rfl⟩;obtain⟨ca,gy⟩:∃x,x=x6 S1.M o.changes:=⟨_,rfl⟩;rw[<- hce,<- gy]at C ⊢;simp only[go_sem,b1];apply Vk [15] hb [0,1,2,3,4,5,6,7,8,9,10,11,13,14,1012,1015,16,17,18,19,20] [];simp only[go_sem,XN,ZN];apply Wz hb Qgz F;apply ZA hb;refine jZ hb QpY C λd h2 hR=>?_;obtain⟨rfl,JW,C2,D2⟩:=hR;have T2:=T1.core D2 C2 (OE S1.M bf o.changes);have K2:Jo H.length Jl Vr H JW (Z4 Vr H .no) h2:=Jo.core T1.ap (QB _) D2;obtain⟨d2,I2⟩:=I0.next ⟨_,_,_,_,T2⟩ (E1.yf K2) (K2.Yd KJ);have I:=I2.TS ⟨ce,ca,0⟩;have Jy:=I2.hr;have vD:=Qb Jy;have ZB:=I2.ho;have CQ:=Qb ZB;have Jv:=I2.AP;have CU:=Qb Jv;apply ZH hb;simp only[go_sem,Jy];apply Vk [] hb [0] [1,2,3];simp only[go_sem,Qe,vD,ZB,Jv,CU,QE,Qr OT,Qr TW,Qr TX];exact⟨I.done _,I.done _⟩
 have b1:(o.kind==1)=false:=by simpa using k1
 by_cases k2:o.kind=2
 .have b2:(o.kind==2)=true:=by simpa using k2
  have R:=QiM H o.rules Kc;by_cases GH:qy o.rules=0
  .have e:VX S1 S.ops o=⟨{ S1 with R:=o.rules },⟨0,0,0⟩,[]⟩:=by unfold VX;rw[Qc k1,Qd k2,Qd GH]
   rw[e];simp only[go_sem,b1,b2,ZN];refine Zw hb mK R λd h2 hR=>?_;obtain⟨g,rfl,uf,_⟩:=hR;obtain⟨p2,rfl,hT⟩:=uf GH;have T2:=T1.rules hT;have ug:(H++g)[p]? = some _:=(QG QzY).trans XN;have QGu:=Qb ug;have K2:Jo H.length Jl Vr H (QV Jl H .no) (Z4 Vr H .tab) (H++g):=Jo.app Jl Vr H g .tab (QB _);have E2:=(E1.yf K2).loc ug nofun (by have:=Qb T.o;omega) (by have:=Qb T.o;omega) (zD ps lp p2 pt S1.Qf S1.ops);obtain⟨d2,I2⟩:=I0.next ⟨_,_,_,_,T2⟩ E2 ((K2.Yd KJ).ue T1.tp _);have I:=I2.TS ⟨0,0,0⟩;have Jy:=I2.hr;have vD:=Qb Jy;have ZB:=I2.ho;have CQ:=Qb ZB;have Jv:=I2.AP;have CU:=Qb Jv;have Zh:=Qb T.o;have p4:p≠h.length+4:=ω;have p2':p≠h.length+2:=ω;have p1':p≠h.length+1:=ω;have hrg:(H++g)[h.length+4]? = some _:=(QG OM).trans We;have uh:(H++g)[h.length+2]? = some _:=(QG QzZ).trans TV;have hsg:(H++g)[h.length+1]? = some _:=(QG QiY).trans TU;have Qz3:=Qb hrg;have Qz4:=Qb uh;have Qz5:=Qb hsg;have KI:d2=.nil:=by
    have h5:=I2.ho;rw[Qr p2',uh]at h5;simp only[Ag,QY,Ob.mk.injEq,vO]at h5;have:=congrFun h5 0;simp only[Hc,and_true]at this;exact this.symm
   rw[KI]at I;have x4:h.length+4<H.length+g.length:=by have:=Qz3;simpa using this
   have x2:h.length+2<H.length+g.length:=by have:=Qz4;simpa using this
   have x1:h.length+1<H.length+g.length:=by have:=Qz5;simpa using this
   apply Qg hb;simp only[go_sem,ug,Qr p4,hrg];apply Vk [] hb [0] [1,2,3];simp only[go_sem,Qe,x4,x1,Qr p2',Qr p1',uh,hsg,QE,Qr OT,Qr TW,Qr TX];exact⟨I.done _,I.done _⟩
  .have e:VX S1 S.ops o=⟨S1,⟨qy o.rules,0,0⟩,[]⟩:=by unfold VX;rw[Qc k1,Qd k2,Qc GH]
   have Qi3:(qy o.rules==0)=false:=by simpa using GH
   rw[e];obtain⟨re,Qz6⟩:∃x,x=qy o.rules:=⟨_,rfl⟩;rw[<- Qz6]at R Qi3 GH ⊢;simp only[go_sem,b1,b2,ZN];refine Zw hb mK R λd h2 hR=>?_;obtain⟨g,rfl,_,uf⟩:=hR;have hd:=uf GH;subst hd;have K2:Jo H.length Jl Vr H (QV Jl H .no) (Z4 Vr H .my) (H++g):=Jo.app Jl Vr H g .my (QB _);obtain⟨d2,I2⟩:=I0.next ⟨_,_,_,_,T1.BG g⟩ (E1.yf K2) (K2.Yd KJ);have I:=I2.TS ⟨re,0,0⟩;have Jy:=I2.hr;have vD:=Qb Jy;have ZB:=I2.ho;have CQ:=Qb ZB;have Jv:=I2.AP;have CU:=Qb Jv;have x4:h.length+4<H.length+g.length:=by have:=vD;simpa using this
   have x2:h.length+2<H.length+g.length:=by have:=CQ;simpa using this
   have x1:h.length+1<H.length+g.length:=by have:=CU;simpa using this
   apply Qg hb;simp only[go_sem,Qi3,Jy];apply Vk [] hb [0] [1,2,3];simp only[go_sem,Qe,x4,x1,ZB,Jv,QE,Qr OT,Qr TW,Qr TX];exact⟨I.done _,I.done _⟩
 have b2:(o.kind==2)=false:=by simpa using k2
 by_cases k3:o.kind=3
 .have b3:(o.kind==3)=true:=by simpa using k3
  have e:VX S1 S.ops o=YR S1 S.ops o.ZI:=by unfold VX;rw[Qc k1,Qc k2,Qd k3]
  rw[e];obtain⟨BH,OL,TP,G5⟩:Qmg o.ZI:=by
   obtain⟨_,_,a0,a1,a2,a3,_⟩:=hpk;have:=wf_u16 a0;have:=wf_u16 a1;have:=wf_u16 a2;have:=wf_u16 a3;exact⟨⟨ω,ω⟩,⟨ω,ω⟩,⟨ω,ω⟩,⟨ω,ω⟩⟩
  have P:=QzK ⟨_,_,_,_,T1⟩ V1 E1 KJ σ (λk=>by rw[NZ];have:=hC.ca k;show (S.st.Jc k).length<1000000;omega) o.ZI ⟨BH,OL,TP,G5⟩;obtain⟨Y,hY⟩:∃Y,Y=YR S1 S.ops o.ZI:=⟨_,rfl⟩;rw[<- hY]at P ⊢;simp only[go_sem,b1,b2,b3,ZN];refine Zw hb QpZ P λd h2 hR=>?_;obtain⟨rfl,JW,Xd,T2,E2,K2⟩:=hR;rw[zK]at E2;obtain⟨d2,I2⟩:=I0.next T2 E2 K2;have I:=I2.TS Y.r;have Jy:=I2.hr;have vD:=Qb Jy;have ZB:=I2.ho;have CQ:=Qb ZB;have Jv:=I2.AP;have CU:=Qb Jv;apply Qg hb;simp only[go_sem,Jy];apply Vk [] hb [0] [1,2,3];simp only[go_sem,Qe,vD,ZB,Jv,CU,QE,Qr OT,Qr TW,Qr TX];exact⟨I.done _,I.done _⟩
 have b3:(o.kind==3)=false:=by simpa using k3
 by_cases k4:o.kind=4
 .have b4:(o.kind==4)=true:=by simpa using k4
  have e:VX S1 S.ops o=qZ S1 S.ops o.Wi.toNat:=by unfold VX;rw[Qc k1,Qc k2,Qc k3,Qd k4]
  rw[e];have hw:=wf_u64 vS;have P:=QzS ⟨_,_,_,_,T1⟩ V1 E1 KJ σ o.Wi.toNat ω;obtain⟨Y,hY⟩:∃Y,Y=qZ S1 S.ops o.Wi.toNat:=⟨_,rfl⟩;rw[<- hY,show u64 o.Wi.toNat=.raw (.int .u64 o.Wi) by show D.raw (.int .u64 (o.Wi.toNat:Int))=_;rw[Dh hw.1]]at P;rw[<- hY];simp only[go_sem,b1,b2,b3,b4,ZN];refine Zw hb Qp0 P λd h2 hR=>?_;obtain⟨rfl,JW,Xd,T2,E2,K2⟩:=hR;rw[zK]at E2;obtain⟨d2,I2⟩:=I0.next T2 E2 K2;have I:=I2.TS Y.r;have Jy:=I2.hr;have vD:=Qb Jy;have ZB:=I2.ho;have CQ:=Qb ZB;have Jv:=I2.AP;have CU:=Qb Jv;apply Qg hb;simp only[go_sem,Jy];apply Vk [] hb [0] [1,2,3];simp only[go_sem,Qe,vD,ZB,Jv,CU,QE,Qr OT,Qr TW,Qr TX];exact⟨I.done _,I.done _⟩
 have b4:(o.kind==4)=false:=by simpa using k4
 have e:VX S1 S.ops o=⟨S1,⟨1,0,0⟩,[]⟩:=by unfold VX;rw[Qc k1,Qc k2,Qc k3,Qc k4]
 rw[e];simp only[go_sem,b1,b2,b3,b4];apply Vk [] hb [0] [1,2,3];simp only[go_sem,We,TV,TU,QiY,QE,Qr OT];exact⟨I0.done _,I0.done _⟩
def Qz7(h:List Ob):QH prog 81 h [.nil] (λd h'=>∃g p,h'=h++g/\d=.tup [.ptr p 0 0 0,Qa 0]/\G1 (λj=>h.length<=j) (h++g) p []):=
 (QH.QbQ (cs':=[.nil]) (QiM h [] π) ⟨rfl,trivial⟩).mono λd h' ⟨g,h1,h2,_⟩=>by
  obtain⟨p,h3,h4⟩:=h2 rfl;exact⟨g,p,h1,h3,h4⟩
def YS.fresh(h:List Ob)(S)(hS:∀j,h.length<=j->S j):YS S (h++[QK .i64 0 [],QK .i64 0 [],tP h.length (h.length+1)]) (h.length+2) ⟨λ_=>[],λ_=>default⟩:=
 ⟨h.length,h.length+1,0,[],0,[],VD (k:=2) rfl,KV rfl,VD (k:=1) rfl,ω,hS _ ω,hS _ ω,hS _ ω,λk=>.inl ⟨rfl,rfl⟩,λk k' lo g off n g' vQ n' h1=>(by cases h1),λk=>rfl⟩
def Qz8{own}{tw}(ap:∀l,tw l≠.no->own l=.no)(h){c}(K:WM c):
  QH prog 32 h [.agg c.cells] (λd h'=>∃own' Jg p,d=.tup [.ptr p 0 0 0,Qa 0]/\Wr own' Jg h' p (S0 c)/\Jo h.length own tw h own' Jg h'):=by
 have ZN:(h++[(⟨.one,0,2,1,λ_=>c.cells⟩:Ob)])[h.length]? = some ⟨.one,0,2,1,λ_=>c.cells⟩:=KV rfl;have hN:=QyJ (QV own h .no) (h++[(⟨.one,0,2,1,λ_=>c.cells⟩:Ob)]) K;have K1:=Jo.app own tw h [(⟨.one,0,2,1,λ_=>c.cells⟩:Ob)] .no (QB _);have gJ:=gA (h:=h) ap;have n1:QV own h .no h.length=.no:=jj (QB _);refine QQ func32 ntmps32 results32 λbase w pl hb=>?_;simp only[go_sem,Qe];obtain⟨h1,BH⟩:∃x,x=h++[(⟨.one,0,2,1,λ_=>c.cells⟩:Ob)]:=⟨_,rfl⟩;rw[<- BH]at ZN hN K1;simp only[go_sem]at BH;rw[<- BH];clear BH;have Lf:=Qb ZN;generalize QV own h .no=Jl at hN K1 gJ n1;generalize Z4 tw h .no=Vr at K1 gJ;refine Zw hb QpV hN λd h2 hR=>?_;obtain⟨JW,ps,rfl,C2,D2⟩:=hR;have K2:=K1.trans (QB _) ((Jo.core gJ (QB _) D2).Yd K1.len);have K6:h2[h.length]? = some _:=(D2.keep _ Lf n1).trans ZN;have EL:=Qb K6;apply Qg hb;simp only[go_sem,K6];refine Zw hb QpW (Qzf h2 K.t1 K.t2) λd h hR=>?_;obtain⟨rfl,rfl⟩:=hR;apply Qn hb;refine Zw hb mK (Qz7 _) λd h4 hR=>?_;obtain⟨g,pr,G5,rfl,Tb⟩:=hR;apply Qn hb;refine Zw hb QpX (Qzp h4) λd h5 hR=>?_;obtain⟨rfl,ui⟩:=hR;apply Qn hb;have G5:h4=(h2++[zE 0 0 0 c.t 0])++g:=G5;have Tb:G1 (λj=>(h2++[zE 0 0 0 c.t 0]).length<=j) ((h2++[zE 0 0 0 c.t 0])++g) pr []:=Tb;rw[<- G5]at Tb;have l3:(h2++[zE 0 0 0 c.t 0]).length=h2.length+1:=σ;rw[l3]at Tb;have l4:h2.length+1<=h4.length:=by rw[G5,ZW,l3];omega
 have l5:h5.length=h4.length+3:=by rw[ui];simp
 have e4:∀l,l<h2.length->h4[l]? = h2[l]? := λl hl=>by rw[G5,V9,QG hl]
 have e5:∀l,l<h4.length->h5[l]? = h4[l]? := λl hl=>by rw[ui,QG hl]
 have DL:h4[h2.length]? = some (zE 0 0 0 c.t 0):=by rw[G5,V9];exact KV rfl
 have ZO:YS (λl=>h4.length<=l) h5 (h4.length+2) ⟨λ_=>[],λ_=>default⟩:=by rw[ui];exact YS.fresh h4 _ λ_ h=>h
 obtain⟨H,hH⟩:∃H,H=h5++[zD ps h2.length pr (h4.length+2) 0 0]:=⟨_,rfl⟩;have e6:∀l,l<h5.length->H[l]? = h5[l]? := λl hl=>by rw[hH,QG hl]
 have hp:H[h5.length]? = some (zD ps h2.length pr (h4.length+2) 0 0):=by rw[hH];exact KV rfl
 obtain⟨G6,OS⟩:∃t:Nat->TT,t=λl=>if l<h2.length then Z4 Vr h1 .no l else if l=h2.length then .ln else if l<h4.length then .tab else if l<h5.length then .st else if l=h5.length then .sys else .no:=⟨_,rfl⟩;have t0:∀l,l<h2.length->G6 l=Z4 Vr h1 .no l:=λl hl=>by rw[OS];dsimp only;rw[Qd hl]
 have t1:G6 h2.length=.ln:=by rw[OS];dsimp only;rw[Qc ω,Qd rfl]
 have t2:∀l,h2.length+1<=l->l<h4.length->G6 l=.tab:=λl h1 h2=>by rw[OS];dsimp only;rw[Qc ω,Qc ω,Qd h2]
 have t3:∀l,h4.length<=l->l<h5.length->G6 l=.st:=λl h1 h2=>by rw[OS];dsimp only;rw[Qc ω,Qc ω,Qc ω,Qd h2]
 have t4:G6 h5.length=.sys:=by rw[OS];dsimp only;rw[Qc ω,Qc ω,Qc ω,Qc ω,Qd rfl]
 have X:Wq (QV JW h2 .no) G6 H h5.length ps h2.length pr (h4.length+2) (S0 c):=by
  refine⟨hp,t4,C2.step λl hl _=>⟨Kg hl,by rw[e6 l ω,e5 l ω,e4 l hl]⟩,⟨0,0,0,?_⟩,t1,Tb.step λj hj h1=>⟨t2 j h1 hj,by rw[e6 j ω,e5 j hj]⟩,ZO.step λj hj h1=>⟨t3 j h1 hj,e6 j hj⟩,λl hl=>?_⟩
  .rw[e6 _ ω,e5 _ ω];exact DL
  .by_cases h6:l<h2.length
   .rw[t0 l h6]at hl;rw[Kg h6];by_cases h7:l<h1.length
    .rw[Vh h7]at hl;rw[D2.same l h7];exact gJ l hl
    .rw[EW ω]at hl;exact absurd rfl hl
   .exact jj ω
 have KH:Jo h.length own tw h (QV JW h2 .no) G6 H:=by
  have hle:=K2.len;exact⟨λl hl=>by rw[Kg ω];exact K2.s1 l hl,λl hl=>by rw[t0 l ω];exact K2.s2 l hl,λl hl h1 h2=>by rw[e6 l ω,e5 l ω,e4 l ω];exact K2.keep l hl h1 h2,λl hl h1=>by rw[e6 l ω,e5 l ω,e4 l ω];exact K2.my l hl h1,by rw[hH];simp;omega⟩
 subst hH;exact⟨_,G6,_,rfl,⟨_,_,_,_,X⟩,KH⟩
end Go.Fg.X
namespace Go.Fg.X
open Go.Proofs Go.Fg
open Go.RowKit (Below)
open Go.Proofs.Tryz
def Qi4{P}{f}{args}{R}(d2:D)(hu:d2.upto 0=true)
  (hd:∀d hh,R d hh->Ke 6 d d2\/(∃lo g sz n row,hh[lo]? = some ⟨.arr,g,sz,n,row⟩/\(∀i,i<n->(row i).all D.qI=true)/\Ke 6 (D.fz lo g n sz row d) d2) \/
   ∃lo g sz n row LK g' gK n' JU,hh[lo]? = some ⟨.arr,g,sz,n,row⟩/\hh[LK]? = some ⟨.arr,g',gK,n',JU⟩/\LK≠lo/\(∀i,i<n->(row i).all D.qI=true)/\(∀i,i<n'->(JU i).all D.qI=true)/\Ke 6 (D.fz LK g' n' gK JU (D.fz lo g n sz row d)) d2) (h:QW P f args R):QW P f args (QN d2):=by
 intro Z base w pl vs h1 h2 h3 hl hc;have Zh:pl=[]:=by have:=h3.len;simpa using this
 subst Zh;refine(h Z base w [] vs h1 h2 h3 hl hc).mono λe w' he=>?_;obtain⟨v,d,hh,Qi,rfl,hR,hO,hV,hT,hB⟩:=he;suffices fin:QC Z [] [] w' d2 v by
  exact⟨v,_,[],[],rfl,⟨rfl,rfl⟩,Zi.nil,fin,⟨λb hb Qb=>⟨hb,(hT.J3 b hb Qb).2⟩,λl o p e=>by simp at e,λl o o' b q e=>by simp at e⟩,hB⟩
 rcases hd _ _ hR with hle|⟨lo,g,sz,n,row,Zq,Z7,hle⟩|⟨lo,g,sz,n,row,LK,g',gK,n',JU,Zq,uj,Qz9,Z7,Qi5,hle⟩
 .exact(v8 6 hle hV).take hu
 .have Qb:lo<Qi.length:=by rw[hO.len];exact(WC.1 Zq).1
  obtain⟨p,hp⟩:∃p,Qi[lo]? = some p:=⟨_,QP Qb⟩;have Cu:=hV.fz (l:=lo) (o:=⟨.arr,g,sz,n,row⟩) (p:=p) Zq hp rfl (λb q e=>by
   subst e;refine⟨h2 b ?_,λl' q' e'=>?_,(hO.at_ lo _ b q Zq hp).2.cells rfl⟩
   .rcases w9 b w.heap.size with Qb|Yb
    .exact absurd hp ((hT.J3 b (λi q e=>by simp at e) Qb).1 lo q)
    .exact Yb
   .exact hO.inj _ _ _ _ _ e' hp) Z7 (h':=hh.set lo (Ob.gone ⟨.arr,g,sz,n,row⟩)) (λl' o' QA e=>by
   exact⟨o',by rw[Jw (Q3 QA)];exact e,rfl,rfl,rfl⟩)
  exact(v8 6 hle Cu).take hu
 .have pos:∀{lo:Nat} {o:Ob},hh[lo]? = some o->∃p,Qi[lo]? = some p:=λ{lo o} Zq=>by
   have Qb:lo<Qi.length:=by rw[hO.len];exact(WC.1 Zq).1
   exact⟨_,QP Qb⟩
  have zb:∀{lo b q:Nat},Qi[lo]? = some (some (b,q))->Z b:=λ{lo b q} hp=>h2 b (by
   rcases w9 b w.heap.size with Qb|Yb
   .exact absurd hp ((hT.J3 b (λi q e=>by simp at e) Qb).1 lo q)
   .exact Yb)
  obtain⟨p,hp⟩:=pos Zq;obtain⟨p',ZS⟩:=pos uj;have r1:=hV.fz (l:=lo) (o:=⟨.arr,g,sz,n,row⟩) (p:=p) Zq hp rfl (λb q e=>by
   subst e;exact⟨zb hp,λl' q' e'=>hO.inj _ _ _ _ _ e' hp,(hO.at_ lo _ b q Zq hp).2.cells rfl⟩) Z7 (h':=hh) (λl' o' QA e=>⟨o',e,rfl,rfl,rfl⟩)
  have Zh:∀(l':Nat),l'≠lo->(Qi.set lo none)[l']? = Qi[l']? := λl' YY=>by rw[Jw (Q3 YY)]
  have QA:LK≠lo:=Qz9;have r2:=r1.fz (l:=LK) (o:=⟨.arr,g',gK,n',JU⟩) (p:=p') uj ((Zh _ QA).trans ZS) rfl (λb q e=>by
   subst e;refine⟨zb ZS,λl' q' e'=>?_,?_⟩
   .by_cases e1:l'=lo
    .subst e1;rw[Wt (Wc hp)]at e';cases e'
    .rw[Zh _ e1]at e';exact hO.inj _ _ _ _ _ e' ZS
   .obtain⟨c,el,c1,c2,c3,c4⟩:=(hO.at_ LK _ b q uj ZS).2.cells rfl;refine⟨c,el,c1,c2,c3,λi j hi hj=>?_⟩;obtain⟨v,hv,hr⟩:=c4 i j hi hj;have h5:=Qi5 i hi;rw[XK]at h5;have h6:j<(JU i).length:=by rw[c3 i hi];exact hj
    have h7:(nth (JU i) j).qI=true:=h5 _ (by
     simp only[nth,Q5,QP h6,KR];exact YU h6)
    exact⟨v,hv,.cl _ _ ((FO hr h7).mono (N':=free Z (Qi.set lo none)) (w':=w') λb hb _=>⟨⟨hb.1,λl q e=>by
     by_cases e1:l=lo
     .subst e1;rw[Wt (Wc hp)]at e;cases e
     .rw[Zh _ e1]at e;exact hb.2 l q e⟩,rfl⟩)⟩) Qi5 (h':=hh) (λl' o' QA e=>⟨o',e,rfl,rfl,rfl⟩)
  exact(v8 6 hle r2).take hu
end Go.Fg.X
namespace Go.Fg.X
open Go.Proofs Go.Fg
open Go.Proofs.Tryz
structure ZV.Small (o:ZV):Prop where
 c:o.changes.length<1000000
 r:o.rules.length<1000000
def Qi7(S:ZF)(op now:Nat)(k:Int):((Js S op now).1.st.Jc k).length<=(S.st.Jc k).length:=by
 have hw:∀(s:Da) (cls:Int) (done:Nat) (bytes:Int) (real:Bool),((YP s cls done bytes real).Jc k).length<=(s.Jc k).length:=λs cls done bytes real=>by
  unfold YP;cases hc:s.Jc cls with
  | nil=>exact QB _
  | cons a l=>
   dsimp only;split
   .exact QB _
   .split
    .exact QB _
    .dsimp only;split
     .rename_i e;rw[e,hc];simp
     .exact QB _
 unfold Js;split
 .exact QB _
 .split
  .exact hw _ _ _ _ _
  .exact QB _
def Qi8(op e)(k:Int):∀(n:Nat) (S:ZF),((Vg op e n S).1.st.Jc k).length<=(S.st.Jc k).length
 | 0,S=>QB _
 | n+1,S=>by
  unfold Vg;split
  .exact QB _
  .exact Ki (Qi8 op e k n _) (Qi7 { S with Qf:=Zs S } op (Zs S) k)
def OR.do{S}(C:OR S)(o:ZV):OR (JM S o).S:=by
 refine⟨λk=>?_⟩;rw[QiC];have hk:=C.ca k;show ((VX { S with ops:=S.ops+1 } S.ops o).S.st.Jc k).length<=S.ops+1;unfold VX;split
 .show (S.st.Jc k).length<=_;omega
 .split
  .split<;>(show (S.st.Jc k).length<=_;omega)
  .split
   .unfold YR;split
    .show (S.st.Jc k).length<=_;omega
    .split
     .refine Ki (Qi7 _ _ _ k) ?_;show (if k=_ then S.st.Jc k++[S.Qf] else S.st.Jc k).length<=_;split
      .rw[ZW];show _+1<=_;omega
      .omega
     .show (S.st.Jc k).length<=_;omega
   .split
    .unfold qZ;split
     .show (S.st.Jc k).length<=_;omega
     .exact Ki (Qi8 _ _ k _ _) (by show (S.st.Jc k).length<=_;omega)
    .show (S.st.Jc k).length<=_;omega
def kv.rows(l:List kv):Nat->List D:=λi=>(l.getD i default).cells
@[go_sem] theorem kv.xA(l:List kv)(i):kv.rows l i=(l.getD i default).cells:=rfl
@[go_sem] def QGv(l:List kv):D:=.imm 3 l.length (kv.rows l)
structure QGw (x:YD) (p q k:Nat) (own:Nat->Tag) (tw:Nat->TT) (H:List Ob) (S:ZF) (R:List kv) (E:List Ev) (dR dE:D):Prop where
 T:Wr own tw H p S
 V:Jd S
 C:OR S
 ops:S.ops=k
 hx:H[0]? = some ⟨.one,0,3,1,λ_=>x.cells⟩
 hr:H[1]? = some ⟨.one,0,2,1,λ_=>[.nil,.nil]⟩
 hq:H[q]? = some ⟨.one,0,2,1,λ_=>[dR,dE]⟩
 q2:2<=q
 my:∀l,l=0\/l=1\/l=q->own l=.no/\tw l=.my
 sR:zF (λl=>own l=.no/\tw l=.my) H 3 kv.cells dR R
 sE:zF (λl=>own l=.no/\tw l=.my) H 12 Ev.cells dE E
 run:Zn (S0 x.config) (x.ops.take k)=(S,R,E)
 lR:R.length=k
 lE:E.length<=5000*k
def Jd.start{own}{tw}{h}{p}{c}(T:Wr own tw h p (S0 c)):Jd (S0 c):=by
 obtain⟨_,_,_,_,T⟩:=T;exact⟨T.co.I,T.co.V,T.co.K,λj x hx=>(by cases hx),QB _,Jh _,Jh _,λk=>⟨BQ _,BQ _,BQ _,BQ _,BQ _⟩,λk a ha=>(by cases ha)⟩
def QAe{α:Type}[Inhabited α]{f:α->List D}{L M:List α}{r1 r2:Nat->List D}(h1:∀i,i<L.length->r1 i=f (L.getD i default))(h2:∀i,i<M.length->r2 i=f (M.getD i default)):∀i,i<(L++M).length->Kt L.length 0 r1 r2 i=f ((L++M).getD i default):=by
 intro i hi;rw[ZW]at hi;rw[Q5];by_cases hl:i<L.length
 .rw[Az hl,JD,h1 i hl,JC hl,Q5]
 .rw[xk ω,h2 _ ω,Kb ω,Q5]
end Go.Fg.X
namespace Go.Fg.X
open Go.Proofs Go.Fg
open Go.Proofs.Tryz
structure p9 (x:YD) (own:Nat->Tag) (tw:Nat->TT) (H:List Ob) (p:Nat) (S:ZF):Prop where
 T:Wr own tw H p S
 V:Jd S
 C:OR S
 hx:H[0]? = some ⟨.one,0,3,1,λ_=>x.cells⟩
 my:own 0=.no/\tw 0=.my
structure Sw (own:Nat->Tag) (tw:Nat->TT) (H:List Ob) (lo:Nat) (ob:Ob):Prop where
 at_:H[lo]? = some ob
 my:own lo=.no/\tw lo=.my
 ne:0<lo
section
variable {x:YD}{own JW:Nat->Tag}{tw Xd:Nat->TT}{H h2 G:List Ob}{p lo n:Nat}{ob:Ob}{S:ZF}
def p9.app(X:p9 x own tw H p S)(G):p9 x (QV own H .no) (Z4 tw H .my) (H++G) p S:=by
 obtain⟨_,_,_,_,Tx⟩:=X.T;have hl:=Qb X.hx;exact⟨⟨_,_,_,_,Tx.BG G⟩,X.V,X.C,(QG hl).trans X.hx,(Kg hl).trans X.my.1,(Vh hl).trans X.my.2⟩
def Sw.app(A:Sw own tw H lo ob)(G):Sw (QV own H .no) (Z4 tw H .my) (H++G) lo ob:=by
 have hl:=Qb A.at_;exact⟨(QG hl).trans A.at_,⟨(Kg hl).trans A.my.1,(Vh hl).trans A.my.2⟩,A.ne⟩
def Sw.new(h:0<H.length):Sw (QV own H .no) (Z4 tw H .my) (H++[ob]) H.length ob:=
 ⟨KV rfl,⟨jj (QB _),EW (QB _)⟩,h⟩
def Sw.yf(A:Sw own tw H lo ob)(K2:Jo n own tw H JW Xd h2):Sw JW Xd h2 lo ob:=by
 have hl:=Qb A.at_;exact⟨(K2.my lo hl A.my.2).trans A.at_,⟨(K2.s1 lo hl).trans A.my.1,(K2.s2 lo hl).trans A.my.2⟩,A.ne⟩
def p9.yf(X:p9 x own tw H p S){o:ZV}(ho:∀q∈o.changes,JN.Ok q)(T2:Wr JW Xd h2 p (JM S o).S)(K2:Jo n own tw H JW Xd h2):p9 x JW Xd h2 p (JM S o).S:=by
 have hl:=Qb X.hx;exact⟨T2,X.V.do ho,X.C.do o,(K2.my 0 hl X.my.2).trans X.hx,(K2.s1 0 hl).trans X.my.1,(K2.s2 0 hl).trans X.my.2⟩
def p9.set(X:p9 x own tw H p S)(A:Sw own tw H lo ob)(ob'):p9 x own tw (H.set lo ob') p S:=by
 obtain⟨_,_,_,_,Tx⟩:=X.T;have:=A.ne;exact⟨⟨_,_,_,_,Tx.loc A.my.1 (.inr A.my.2) _⟩,X.V,X.C,by rw[Qr ω];exact X.hx,X.my⟩
def Sw.set(A:Sw own tw H lo ob)(ob'):Sw own tw (H.set lo ob') lo ob':=⟨QE (Qb A.at_),A.my,A.ne⟩
end
end Go.Fg.X
namespace Go.Fg.X
open Go.Proofs Go.Fg
open Go.Proofs.Tryz
def QL(S:ZF)(n:Nat):Prop:=∀j,(Zj S.M j).length<=n
def Jd.gM{c}(K:WM c):Jd (S0 c):=⟨Qhn c,QhM c,K,λj x hx=>(by cases hx),QB _,Jh _,Jh _,λk=>⟨BQ _,BQ _,BQ _,BQ _,BQ _⟩,λk a ha=>(by cases ha)⟩
def uk(t:Int):Int->List Ev->Prop
 | _,[]=>True
 | u,v::l=>if v.J8=true then uk t u l else u<=v.at_/\1<=v.len/\v.len<=16384/\0<=v.at_/\v.at_<=4611686018427387904/\v.done=v.at_+v.len*t/\uk t v.done l
def um:Int->List Ev->Int
 | u,[]=>u
 | u,v::l=>if v.J8=true then um u l else um v.done l
structure PkR (c:Cf) (S S':ZF) (l:List Ev):Prop where
 ok:uk c.t S.XI l
 un:um S.XI l=S'.XI
 lk:S'.M.lk=c
def zH(L:List Qq)(x:Qq):List Qq:=if jS L x (up L x.parent).length=0 then VK L x else L
structure BJ (L T:List Qq):Prop where
 ok:JG L
 sub:∀c∈L,c∈T
section
variable {T:List Qq}(I:JG T)
include I
end
section
variable {T:List Qq}(I:JG T)
include I
def rounds(T:List Qq):Nat->List Qq
 | 0=>[]
 | r+1=>T.foldl zH (rounds T r)
end
def icL(l:Ln):Int:=l.y - (l.m:Int)*l.x
structure Dd (m X:Nat) (l:Ln):Prop where
 m:l.m=m
 x:l.x<=X
 y:l.y<=1329227995784915872903807060280344576
def QjE{m d}(hm:m<=4294967295)(hd:d<=9223372036854775807):m*d<=39614081247908796759917199360:=Ki (qC hm hd) π
def uC{m X x}{l}(h:Dd m X l)(hm:m<=4294967295)(h1:X<=x)(h2:x<=9223372036854775807):(YI l x:Int)=icL l+(m:Int)*x:=by
 have hx:=h.x;have hy:=h.y;have e:YI l x=l.y+m*(x - l.x):=by
  unfold YI;split
  .rw[show x - l.x=0 by omega];rfl
  .have:=QjE hm (show x - l.x<=9223372036854775807 from ω);rw[h.m,jq ω]
 have e2:((m*(x - l.x):Nat):Int)=(m:Int)*x - (m:Int)*l.x:=by
  rw[Aq,Int.natCast_sub ω,Int.mul_sub]
 unfold icL;rw[e,h.m];omega
def QAP{n m}(hm:0<m):n<=m*cdiv n m:=by
 unfold cdiv;have:=Pr (n+m - 1) m;have:=X6 (n+m - 1) hm;omega
structure RnB (c:Nc) (X:Nat) (r:Rn):Prop where
 b:r.b=decide (c.of=3)
 t:Dd c.b X r.t
 f:c.of=3->Dd c.a X r.f
structure OY (c:Nc) (A base:Nat) (r:Rn):Prop where
 t:icL r.t<=(base:Int)*65536+(if c.of=3 then ((c.a:Int) - c.b)*c.d else 0) - (c.b:Int)*A
 f:c.of=3->icL r.f<=(base:Int)*65536 - (c.a:Int)*A
structure LN (c:Nc):Prop where
 k:c.of=2\/c.of=3
 a:c.a<=4294967295
 b:c.b<=4294967295
 d:c.d<=1048576
 ba:c.of=3->c.b<c.a
 two:c.of=2->c.d=0
def Xu(n:Nd):Qq × Nat × Cp:=(n.c,n.QO,n.cp)
def QjH(now)(M:Qk)(j id:Int)(h:id≠j):Qh (Wn now M j).N id=Qh M.N id:=fM (f:=xU M now) (λ_=>rfl) id h
def QAW{M M':Qk}{id:Int}(h:(Qh M'.N id).map Xu=(Qh M.N id).map Xu):(Qw M' id).c=(Qw M id).c:=by
 have:=QyR h;exact congrArg Prod.fst this
def QAX{T}(I:JG T)(A)(id:Int):(Vo T A id).Nodup:=List.Nodup.sublist (Po _) (Ec I id)
def QAY(M:Qk)(id)(x:Pk)(j:Int):(Qh (Vf M id x).N j).map Xu=(Qh M.N j).map Xu:=
 Lw (f:=λm=>{ m with q:=Xa (Qw M id).c.ZD (Qw M id).c.bytes (Qw M id).q x }) (λ_=>rfl) (λ_=>rfl) j
def QA5{T}(I:JG T){A}{id u}(h:u∈up T id)(ha:Ja T A u=false):u∈Vo T A id:=by
 obtain⟨l,hl⟩:=Ih I h;cases hc:Qx T u with
 | none=>
  exfalso;have h0:=xE I hc;rw[h0,JI]at hl;have:∀(k:Nat) (i:Int),(up T i).length=k->u∈up T i->(Qx T u).isSome=true:=λk=>by
   induction k with
   | zero=>intro i hi hu;rw[Di.1 hi]at hu;cases hu
   | succ k ih=>
    intro i hi hu;cases kS:Qx T i with
    | none=>rw[xE I kS]at hi;cases hi
    | some c=>
     rw[Km I kS]at hi hu;rcases QD.1 hu with rfl|hu
     .rw[kS];rfl
     .exact ih c.parent (by simpa using hi) hu
  have:=this _ id rfl h;rw[hc]at this;cases this
 | some c=>
  have hu:=Km I hc;have Kj:∀y∈l,Ja T A y=false:=λy hy=>by
   rw[Xe];intro jA;obtain⟨a,h1,h2⟩:=XU.1 jA;have QA6:y∈up T id:=by rw[hl];exact Ph _ hy
   obtain⟨l2,Jp⟩:=Ih I QA6;have huy:u∈up T y:=by
    have ZU:=Ec I id;have hm:u∈up T id:=h;rw[Jp]at hm;rcases QX.1 hm with h3|h3
    .exfalso;have e:l++up T u=l2++up T y:=hl.symm.trans Jp;rw[Jp,JJ]at ZU;rw[hu]at e;have QA8:y ∉ l2:=λh4=>by
      cases gS:Qx T y with
      | none=>
       rw[xE I gS,JI]at Jp e;have h5:=xE I gS;obtain⟨b,c2,-⟩:∃a b:Int,a=b:=⟨0,0,rfl⟩;exact absurd h2 (by
        intro h6;have:∀(k:Nat) (i:Int),(up T i).length=k->y∈up T i->(Qx T y).isSome=true:=λk=>by
         induction k with
         | zero=>intro i hi hu;rw[Di.1 hi]at hu;cases hu
         | succ k ih=>
          intro i hi hu;cases kS:Qx T i with
          | none=>rw[xE I kS]at hi;cases hi
          | some c=>
           rw[Km I kS]at hi hu;rcases QD.1 hu with rfl|hu
           .rw[kS];rfl
           .exact ih c.parent (by simpa using hi) hu
        have:=this _ a rfl h6;rw[gS]at this;cases this)
      | some cy=>exact ZU.2.2 y h4 y (Xo I gS) rfl
     obtain⟨s,t,rfl⟩:=List.append_of_mem h3;obtain⟨s2,t2,rfl⟩:=List.append_of_mem hy;have e':(s2++y::t2)++(u::up T c.parent)=(s++u::t)++up T y:=e;have LA:=Ec I id;rw[Jp]at LA;have i1:((s++u::t)++up T y).idxOf u=s.length:=by
      rw[V9,LZ,Qc,YT,List.idxOf_cons_self,JD];intro h5;rw[V9,JJ]at LA;exact LA.2.2 u h5 u σ rfl
     have i2:((s2++y::t2)++(u::up T c.parent)).idxOf u=(s2++y::t2).length:=by
      rw[LZ,Qc,List.idxOf_cons_self,JD];intro h5;rw[<- e',JJ]at LA;exact LA.2.2 u h5 u σ rfl
     have j1:((s2++y::t2)++(u::up T c.parent)).idxOf y<(s2++y::t2).length:=by
      rw[LZ,Qd σ];exact List.idxOf_lt_length_of_mem σ
     have j2:(s++u::t).length<=((s++u::t)++up T y).idxOf y:=by
      rw[LZ,Qc QA8];omega
     rw[e']at i2 j1;simp only[ZW,Kv]at *;omega
    .exact h3
   exact Xe.1 ha (XU.2 ⟨a,h1,up_sub I h2 huy⟩)
  unfold Vo;rw[hl,iq (λy hy=>by rw[Kj y hy];rfl),hu,Pn,ha];simp
structure Gh where
 n:Nat
 g:List (Nat × Nat)
 k:Nat
def Gh.next(lv:List Int)(s:Gh)(e:Ev):Gh:=
 if lv.contains e.cls=true then (if e.J8=true then ⟨s.n+1,if s.n=0 then (e.at_.toNat,0)::s.g else s.g,s.k⟩ else ⟨s.n - 1,s.g.map λx=>(x.1,x.2+e.len.toNat),s.k+1⟩) else s
def QjK(c:Nc)(lm:Nat)(lv:List Int)(s:Gh)(e:Ev):Prop:=
 lv.contains e.cls=true->e.J8=false->∀x∈(s.next lv e).g,(x.1:Int)<=e.at_/\x.2<=Wj c.a c.d c.b (e.at_.toNat - x.1) / 65536+lm
def wW(c:Nc)(lm:Nat)(lv:List Int):Gh->List Ev->Prop
 | _,[]=>True
 | s,e::l=>QjK c lm lv s e/\wW c lm lv (s.next lv e) l
structure jk (c:Nc) (g:List (Nat × Nat)) (k X QO:Nat) (cp:Cp):Prop where
 tk:QO<=16384*k
 has:g≠[]->cp.has=true
 run:cp.has=true->RnB c X cp.run/\cp.fit=XY cp.run (QO*65536)
 g:∀x∈g,x.1<=X/\x.2<=QO/\OY c x.1 (QO - x.2) cp.run
end Go.Fg.X
namespace Go.Fg.X
open Go.Proofs Go.Fg
open Go.Proofs.Tryz
def Ev.pk(e:Ev):Pk:=⟨e.id,e.len,e.h0,e.h1,e.h2,e.h3⟩
def OV(a b:Pk):Bool:=a.iD==b.iD&&(a.len==b.len&&(a.wc==b.wc&&(a.wg==b.wg&&(a.wh==b.wh&&a.wi==b.wi))))
@[go_sem] def Qjn(x:Cf)(lm:Nat)(l:Ev)(done:Int)(q:D):List D:=[Qa x.t,Qa x.ZX,.mref lm 0,Qa l.op,QT l.J8,QT l.real,TL l.at_,TL l.done,Qa l.cls,TL l.id,Qa l.len,.raw (.int .u16 l.h0),.raw (.int .u16 l.h1),.raw (.int .u16 l.h2),.raw (.int .u16 l.h3),TL done,q]
section
variable (h:List Ob)(lb la lm:Nat)(x:Cf)(l:Ev)(done:Int)(q:D)(e:Ev)
 (Tq:(h.map Ob.ro)[lb]? = some ⟨.Vt,0,1,1,λ_=>[.ptr la 0 0 0]⟩) (ha:(h.map Ob.ro)[la]? = some ⟨.Vt,0,17,1,λ_=>Qjn x lm l done q⟩)
include Tq ha
def QAw(f:Ob->Ob)(h:List Ob)(d:D)(p:List Pk):Prop:=(d=.nil/\p=[])\/∃lo g off row,d=.ref lo g off p.length/\h[lo]? = some (f ⟨.arr,g,6,off+p.length,row⟩)/\∀i,i<p.length->row (off+i)=(p.getD i default).cells
variable {es:List Zt}{c:Nat}{p:List Pk}(hm:(h.map Ob.ro)[lm]? = some (QK .i64 c es).ro)
include hm
end
section
variable (h:List Ob)(lw:Nat)(e:Ev)(f:FuncId)(lc:Nat)(B:Bool)
end
structure QAx (h:List Ob) (es:List Zt) (W:Int->List Pk):Prop where
 at_:∀k,QAw id h ((ZL es k).getD .nil) (W k)
 sep:∀k k' lo g off n g' vQ n',ZL es k=some (.ref lo g off n)->ZL es k'=some (.ref lo g' vQ n')->k=k'
def QAy(h h':List Ob):Prop:=∀(l:Nat) (o:Ob),h[l]? = some o->o.kd.ty=0->o.sz≠17->o.sz≠6->h'[l]? = some o
def wU(W:Int->List Pk)(e:Ev):Int->List Pk:=λk=>if k=e.cls then (if e.J8 then W k++[e.pk] else (W k).tail) else W k
structure QGN (h:List Ob) (la lm:Nat) (x:Cf) (e:Ev) (done:Int) (q:D) (W:Int->List Pk) (h':List Ob):Prop where
 a:h'[la]? = some ⟨.one,0,17,1,λ_=>Qjn x lm e done q⟩
 m:∃c' es',h'[lm]? = some (QK .i64 c' es')/\QAx h' es' W
 s:QAy h h'
def TZ:Ev:=⟨0,false,false,0,0,0,0,0,0,0,0,0⟩
def uq(l:List Ev):Nat->Int->List Pk
 | 0=>λ_=>[]
 | i+1=>wU (uq l i) (l.getD i default)
def OW(l:List Ev):Nat->Ev
 | 0=>TZ
 | i+1=>l.getD i default
def ur(l:List Ev):Nat->Int
 | 0=>0
 | i+1=>if (l.getD i default).J8 then ur l i else (l.getD i default).done
def gO(x:Cf)(W:Int->List Pk)(last:Ev)(done:Int)(e:Ev):Nat->Bool
 | 0=>decide (e.op<0\/e.op<last.op\/e.cls<1)
 | 1=>decide (e.at_<last.at_\/4611686018427387904<e.at_)
 | 2=>kx e.pk x.ZX != 0
 | 3=>e.J8&&(e.done != 0 || e.real)
 | 4=>!e.J8&&(W e.cls).length==0
 | 5=>!e.J8&&!OV ((W e.cls).getD 0 default) e.pk
 | 6=>!e.J8&&decide (e.at_<done)
 | _=>!e.J8&&e.done != IntKind.u64.wrap (e.at_+vB e.pk x.t)
def uu(x:Cf)(l:List Ev)(i k:Nat):Bool:=gO x (uq l i) (OW l i) (ur l i) (l.getD i default) k
def QAz:Nat->Int
 | 0=>1
 | 1=>27
 | 2=>26
 | 3=>4
 | 4=>6
 | 5=>8
 | 6=>24
 | _=>20
section
end
end Go.Fg.X
namespace Go.Fg.X
open Go.Proofs Go.Fg
open Go.Proofs.Tryz
def QAA(l:List Pk):D:=.imm 6 l.length (Pk.rows l)
attribute [go_sem] QAA
end Go.Fg.X
namespace Go.Fg.X
open Go.Proofs Go.Fg
open Go.Proofs.Tryz
def Qjo(x:Cf)(l:List Ev)(i:Nat):Option Nat:=(List.range 8).find? (uu x l i)
def QAB(x:Cf)(l:List Ev):Option Nat:=(List.range l.length).find? λi=>(Qjo x l i).isSome
def uv(x:Cf)(l:List Ev):Int × Int:=if 1<=x.t/\x.t<=65536/\1<=x.ZX/\x.ZX<=16384 then (match QAB x l with
 | some i=>(i,match Qjo x l i with
  | some k=>QAz k
  | none=>0)
 | none=>(0,0)) else (0,7)
def lA:Ev:=⟨0,true,false,5,0,3,7,100,0,0,0,0⟩
def lB:Ev:=⟨0,false,false,5,105,3,7,100,0,0,0,0⟩
def lC:Ev:=⟨0,false,false,5,104,3,7,100,0,0,0,0⟩
def lX:Cf:=⟨1,100⟩
def v1:uv lX [lA,lB]=(0,0):=π
def v2:uv lX [lA,lC]=(1,20):=π
def v3:uv lX [lB]=(0,6):=π
def E7(d:Int)(e:Ev):Int:=if e.J8=true then d else e.done
def LM(x:Cf):(Int->List Pk)->Ev->Int->List Ev->Prop
 | _,_,_,[]=>True
 | W,a,d,e::l=>(∀k,k<8->gO x W a d e k=false)/\LM x (wU W e) e (E7 d e) l
structure E8 (x:Cf) (W:Int->List Pk) (a:Ev) (d:Int) (S:ZF):Prop where
 w:∀j,W j=Zj S.M j
 d:d=S.XI
 at_:a.at_<=S.Qf
 o0:a.op<=S.ops
 lk:S.M.lk=x
structure E9 (x:Cf) (W:Int->List Pk) (a:Ev) (d:Int) (l:List Ev) (S':ZF):Prop where
 ok:LM x W a d l
 st:E8 x (l.foldl wU W) (l.foldl (λ_ e=>e) a) (l.foldl E7 d) S'
def QOK(W:Int->List Pk)(lv:List Int):Nat:=(lv.map λn=>(W n).length).sum
def QAq(n:Nd):Prop:=n.c.ul.Nn/\(¬1<QR n.c.ul->n.cp.has=false/\n.cp.fit=0)
def Qji(M:Qk):Prop:=∀n∈M.N,QAq n
def of_le{c:Cv}(h:c.Nn)(h1:¬1<QR c):(Je c).of=0\/(Je c).of=1:=by
 obtain⟨a1,a2,a3⟩:=h;unfold QR at h1;unfold Nc.of Vp Je;dsimp only
 (repeat' split at h1)<;>(repeat' split)<;>omega
def QAq.tq{n}(h:QAq n)(M)(now):QAq (xU M now n):=by
 refine⟨h.1,λh1=>?_⟩;have h1:¬1<QR n.c.ul:=h1;show (xN n.cp (Je n.c.ul) now n.QO).has=false/\(xN n.cp (Je n.c.ul) now n.QO).fit=0;unfold xN;rw[Qd (of_le h.1 h1)];exact⟨rfl,rfl⟩
def QAq.AA{n}(h:QAq n)(len):QAq (xX len n):=by
 refine⟨h.1,λh1=>?_⟩;obtain⟨h2,h3⟩:=h.2 h1;show (z8 n.cp (VO (n.QO+len))).has=false/\(z8 n.cp (VO (n.QO+len))).fit=0;unfold z8;rw[h2,Qc Ao];exact⟨h2,h3⟩
def Qji.VV{M M':Qk}(h:Qji M){id}{f}(e:M'.N=VV M.N id f)(hf:∀n,QAq n->QAq (f n)):Qji M':=λn hn=>by
 rw[e]at hn;obtain⟨m,hm,rfl⟩:=Z2.1 hn;split
 .exact hf m (h m hm)
 .exact h m hm
def Qji.fold{α:Type}{g}(hg:∀M a,Qji M->Qji (g M a)):∀(l:List α) (M:Qk),Qji M->Qji (l.foldl g M)
 | [],M,h=>h
 | a::l,M,h=>Qji.fold hg l _ (hg M a h)
def Qji.same{M M':Qk}(h:Qji M)(e:M'.N=M.N):Qji M':=λn hn=>h n (e▸hn)
def Qji.settle{M:Qk}(h:Qji M)(l):Qji (VW M l):=h.same (CM l M).1
def Qji.VE{M}(h:Qji M)(now)(id head):Qji (X.VE M now id head):=by
 unfold X.VE;split
 .exact h.VV rfl λn hn=>hn
 .exact h
def Qji.Yp{M}(h:Qji M)(now)(id head):Qji (X.Yp M now id head):=by
 unfold X.Yp;split
 .exact(Qji.fold (g:=Wn now) (λM j hM=>hM.VV (M':=Wn now M j) rfl λn hn=>hn.tq M now) (Vo M.T M.A id) _ (Qji.same (M':={ X.VE M now id head with A:=id::M.A }) (h.VE now id head) rfl)).settle _
 .exact h.VE now id head
def Qji.WY{M}(h:Qji M)(id):Qji (X.WY M id):=by
 unfold X.WY;split
 .refine Qji.fold (λM j hM=>?_) _ _ (h.same rfl);unfold JO;split
  .exact Qji.fold (g:=W1) (λM c hM=>hM.VV (M':=W1 M c) (f:=λn=>{ n with sh:=y7 }) rfl λn hn=>hn) _ _ (hM.same (M':=Wp M j) rfl)
  .exact hM.same rfl
 .exact h
def Qji.VQ{M}(h:Qji M)(id Jz)(r):Qji (X.VQ M id Jz r):=by
 unfold X.VQ;split
 .exact h.VV rfl λn hn=>hn
 .exact h
def Qji.Xb{M}(h:Qji M)(id)(r):Qji (X.Xb M id r):=by
 unfold X.Xb;dsimp only;have h3:Qji (X.VQ ((up M.T id).foldl (Vw ((Qw M id).q.l.headD default).len.toNat) (WL M id)) id ((Qw M id).q.l.headD default).len r):=
  (Qji.fold (λM j hM=>hM.VV (M':=Vw ((Qw _ id).q.l.headD default).len.toNat M j) rfl λn hn=>hn.AA _) _ _ (h.VV (M':=WL M id) rfl λn hn=>hn)).VQ _ _ _
 split
 .exact(h3.WY id).settle _
 .exact h3.settle _
def Qji.told{M}(h:Qji M)(now):Qji (ZE M now):=by
 unfold ZE;split
 .exact h.same rfl
 .exact h
def Qji.takeN{M}(h:Qji M)(now):Qji (X.takeN M now):=by
 unfold X.takeN;split
 .exact h.told now
 .exact(h.told now).Xb _ _
def Qji.Vf{M}(h:Qji M)(id)(x):Qji (X.Vf M id x):=h.VV rfl λn hn=>hn
def Qji.Jx{M}(h:Qji M)(now)(cls)(x):Qji (X.Jx M now cls x):=by
 unfold X.Jx;split
 .have h:=h.told now;unfold Vy;split
  .exact h.Vf _ _
  .split
   .split
    .exact Qji.Yp (Qji.same (M':=jg (X.Vf (ZE M now) cls x) ((ZE M now).acc+x.len.toNat)) (h.Vf cls x) rfl) _ _ _
    .exact Qji.same (M':=jg (X.Vf (ZE M now) cls x) ((ZE M now).acc+x.len.toNat)) (h.Vf cls x) rfl
   .exact h
 .exact h
def QAq.new{c}(h:Qq.Ok c):QAq (Xs c):=⟨h.nn.2.2,λ_=>⟨rfl,rfl⟩⟩
def Qji.K0{M}(h:Qji M)(I:Qy M)(b){l}(hl:∀c∈l,JN.Ok c):Qji (X.K0 M b l):=by
 unfold X.K0;split
 .obtain⟨I2,K2⟩:=fc I.tree I.wK hl;have hm:Qji (Vq M (JA M.T l)):=by
   unfold Vq;refine Qji.fold (λM1 j hM=>?_) _ _ (h.same rfl);have hd:∀n∈zA M1.N j,QAq n:=λn hn=>hM n (Jt.1 hn).1;unfold JP;cases hf:Qx (JA M.T l) j with
   | none=>exact hd
   | some c=>
    have hc:=QAq.new (K2 c ((J6 I2.rising).1 hf).1);have KI:∀n∈Xs c::zA M1.N j,QAq n:=λn hn=>by
     rcases QD.1 hn with rfl|hn
     .exact hc
     .exact hd n hn
    dsimp only;split
    .exact KI
    .exact KI
  intro n hn;obtain⟨c,hc,rfl⟩:=Z2.1 (show n∈Xc M (JA M.T l) from hn);exact hm _ (kF (Qhw I I2 hc).1)
 .exact h
def uo(M:Qk)(now)(cls)(x:Pk):(Jx M now cls x).T=M.T:=by
 have h:=(wQ M now).2.1;unfold Jx;split
 .unfold Vy;split
  .exact h
  .split
   .split
    .rw[QyS];exact h
    .exact h
   .exact h
 .rfl
structure uG (T:List Qq) (u:Int) (c:Nc) (lv:List Int):Prop where
 ul:LN c
 V7:∀j k,Qx T j=some k->k.leaf=true->(j∈lv↔u∈up T j)
 free:∀j∈lv,∀k,Qx T j=some k->¬1<QR k.rt/\1<QR k.ls
 nd:lv.Nodup
structure Al (T:List Qq) (u:Int) (c:Nc) (lm:Nat) (lv:List Int) (s:Gh) (S:ZF):Prop where
 T:S.M.T=T
 n:s.n=QOK (Zj S.M) lv
 lm:S.M.lk.ZX.toNat=lm
 AU:∃m,Qh S.M.N u=some m/\Je m.c.ul=c/\jk c s.g s.k S.Qf m.QO m.cp
section
variable {T:List Qq}{u:Int}{c:Nc}{lm:Nat}{lv:List Int}(CT:uG T u c lv)
include CT
end
end Go.Fg.X
namespace Go.Fg.X.SP
open Go.Proofs Go.Fg
open Go.Proofs.Tryz
structure Sp where
 V8:Int
 to:Int
 fst:Int
 Aj:Int
 zI:Bool
instance:Inhabited Sp:=⟨⟨0,0,0,0,false⟩⟩
@[go_sem] def Sp.cells(s:Sp):List D:=[.raw (.int .u64 s.V8),.raw (.int .u64 s.to),.raw (.int .i64 s.fst),.raw (.int .i64 s.Aj),.raw (.bool s.zI)]
end Go.Fg.X.SP
namespace Go.Fg.X
open Go.Proofs Go.Fg Go.Fg.X.SP
open Go.Proofs.Tryz
def Ev.bN(e:Ev):Nat:=e.len.toNat
def Xv(lv:List Int)(e:Ev):Bool:=!e.J8&&lv.contains e.cls
def pk(lv:List Int)(l:List Ev)(F:Int):Nat->Nat
 | 0=>0
 | k+1=>if F<(k:Int)/\Xv lv (l.getD k default)=true then (pk lv l F k+(l.getD k default).bN) % 18446744073709551616 else pk lv l F k
structure T7 (lv:List Int) (l:List Ev):Prop where
 at0:∀e∈l,0<=e.at_
 inc:∀i j,i<=j->j<l.length->(l.getD i default).at_<=(l.getD j default).at_
 len:∀e∈l,e.J8=false->0<=e.len/\e.len<=16384
 yg:l.length<100000000
section
variable {c:Nc}{lm:Nat}{lv:List Int}{l:List Ev}(E:T7 lv l)(H:wW c lm lv ⟨0,[],0⟩ l)
include E H
end
end Go.Fg.X
namespace Go.Fg.X
open Go.Proofs Go.Fg
open Go.Proofs.Tryz
def QCw{n m}(hm:0<m):m*cdiv n m<n+m:=by
 unfold cdiv;have h1:=Pr (n+m - 1) m;have h2:=X6 (n+m - 1) hm;omega
def Qmk{n m k}(hm:0<m)(h:n<=m*k):cdiv n m<=k:=by
 refine Ql7 λh2=>?_;have h3:=QCw (n:=n) hm;have h4:m*(k+1)<=m*cdiv n m:=Md m h2;rw[Qe0,Qkn]at h4;omega
def QL7{a b m}(hm:0<m):cdiv (a+b) m<=cdiv a m+cdiv b m:=
 Qmk hm (by rw[Qe0];exact Nat.add_le_add (QAP hm) (QAP hm))
def QL8{a b m}(hm:0<m)(h:a<=b):cdiv a m<=cdiv b m:=Qmk hm (Ki h (QAP hm))
def Qmn{m}(hm:0<m):cdiv 0 m=0:=Nat.le_zero.1 (Qmk hm (Jh _))
structure bx (m QO:Nat) (x:Sh):Prop where
 b:x.run.b=false
 sl:x.run.t.m=m
 y:x.run.t.y<=QO*65536
 t:x.time=x.run.t.x+cdiv (QO*65536 - x.run.t.y) m
def Qnt{m QO}{r:Rn}(hm:0<m)(b:r.b=false)(e:r.t.m=m)(y:r.t.y<=QO*65536)(h:r.t.x+cdiv (QO*65536 - r.t.y) m<9223372036854775808):Ex r QO=r.t.x+cdiv (QO*65536 - r.t.y) m:=by
 unfold Ex XY;rw[b,Qc Ao,Qc Ao];unfold vk never;split
 .rename_i h1;have:QO*65536 - r.t.y=0:=ω;rw[this,Qmn hm];omega
 .rw[e,Qc]
  .omega
  .rintro (h2|h2|h2|h2)<;>omega
def bx.Qkv{m QO n}{x:Sh}(hm:0<m)(S:bx m QO x)(hh:x.has=true)(hb:x.time+cdiv (n*65536) m<9223372036854775808):
  bx m (QO+n) (GA x (QO+n))/\(GA x (QO+n)).run=x.run/\x.time<=(GA x (QO+n)).time/\(GA x (QO+n)).time<=x.time+cdiv (n*65536) m:=by
 have hy:=S.y;have ht:=S.t;have e:(QO+n)*65536 - x.run.t.y=(QO*65536 - x.run.t.y)+n*65536:=by rw[Vz];omega
 have ey:x.run.t.y<=(QO+n)*65536:=Ki hy (X7 _ (Qib _ _));have h1:=QL7 (a:=QO*65536 - x.run.t.y) (b:=n*65536) hm;have h2:=QL8 (a:=QO*65536 - x.run.t.y) (b:=(QO*65536 - x.run.t.y)+n*65536) hm (Qib _ _);have hk:GA x (QO+n)=⟨true,x.run,Ex x.run (QO+n)⟩:=by unfold GA;rw[hh];rfl
 rw[<- e]at h1 h2;have hle:x.run.t.x+cdiv ((QO+n)*65536 - x.run.t.y) m<=x.time+cdiv (n*65536) m:=by
  rw[ht,QfH];exact Ql4 h1 _
 have hT:Ex x.run (QO+n)=x.run.t.x+cdiv ((QO+n)*65536 - x.run.t.y) m:=Qnt hm S.b S.sl ey (Pv hle hb);rw[hk];refine⟨⟨S.b,S.sl,ey,hT⟩,rfl,?_,?_⟩
 .show x.time<=Ex x.run (QO+n);rw[hT,ht];exact Ql4 h2 _
 .show Ex x.run (QO+n)<=_;rw[hT];exact hle
def bx.QL9{c:Nc}(C:LN c)(h2:c.of=2){low QO:Nat}(hm:0<c.b)(hl:low<9223372036854775808){x:Sh}(hh:x.has=false):bx c.b QO (IK x c low QO)/\(IK x c low QO).time=low:=by
 have hr:Ve c low (QO*65536)=⟨⟨0,0,0⟩,⟨low,QO*65536,c.b⟩,false⟩:=by
  unfold Ve;rw[Qc ω,ez (.inl h2)]
 have hk:IK x c low QO=⟨true,Ve c low (QO*65536),Ex (Ve c low (QO*65536)) QO⟩:=by unfold IK;rw[hh];rfl
 rw[hk,hr];have h0:QO*65536 - QO*65536=0:=xg _;have hT:Ex ⟨⟨0,0,0⟩,⟨low,QO*65536,c.b⟩,false⟩ QO=low+cdiv (QO*65536 - QO*65536) c.b:=Qnt hm rfl rfl (QB _) (by
  show low+cdiv (QO*65536 - QO*65536) c.b<_;rw[h0,Qmn hm];exact hl)
 refine⟨⟨rfl,rfl,QB _,hT⟩,?_⟩;show Ex ⟨⟨0,0,0⟩,⟨low,QO*65536,c.b⟩,false⟩ QO=low;rw[hT,h0,Qmn hm];rfl
def QMa{n m k}(hm:0<m)(h:m*k<=n):k<=cdiv n m:=by
 refine Ql7 λh2=>?_;have h3:=QAP (n:=n) hm;have h4:m*(cdiv n m+1)<=m*k:=Md m h2;rw[Qe0,Qkn]at h4;omega
def QMb{X Y A low m}(hm:0<m)(cM:m<=4294967295)(hY:Y<=A)(hA:A<=1329227995784915872903807060280344576)(hX:X<=9223372036854775807)(hl:low<=9223372036854775807):
  (wE ⟨X,Y,m⟩ ⟨low,A,m⟩=⟨low,A,m⟩/\X+cdiv (A - Y) m<=low)\/(wE ⟨X,Y,m⟩ ⟨low,A,m⟩=⟨X,Y,m⟩/\low<=X+cdiv (A - Y) m):=by
 have k1:=uC (l:=⟨X,Y,m⟩) (X:=max X low) (x:=max X low) ⟨rfl,Nat.le_max_left _ _,Ki hY hA⟩ cM (QB _) ω;have k2:=uC (l:=⟨low,A,m⟩) (X:=max X low) (x:=max X low) ⟨rfl,Nat.le_max_right _ _,hA⟩ cM (QB _) ω;have k1:(YI ⟨X,Y,m⟩ (max X low):Int)=(Y:Int) - (m:Int)*X+(m:Int)*((max X low:Nat):Int):=k1;have k2:(YI ⟨low,A,m⟩ (max X low):Int)=(A:Int) - (m:Int)*low+(m:Int)*((max X low:Nat):Int):=k2;by_cases h:YI ⟨low,A,m⟩ (max X low)<YI ⟨X,Y,m⟩ (max X low)
 .left;refine⟨Qd h,?_⟩;have h2:(A:Int) - (m:Int)*low<(Y:Int) - (m:Int)*X:=ω;have Qb:X<low:=Nat.lt_of_not_le λhle=>by
   have:(m:Int)*low<=(m:Int)*X:=Int.mul_le_mul_of_nonneg_left ω (Int.natCast_nonneg _);omega
  have e:((m*(low - X):Nat):Int)=(m:Int)*low - (m:Int)*X:=by rw[Aq,Int.natCast_sub ω,Int.mul_sub]
  have:=Qmk (n:=A - Y) (k:=low - X) hm ω;omega
 .right;refine⟨Qc h,?_⟩;by_cases hle:low<=X
  .exact Ki hle (Qib _ _)
  .have e:((m*(low - X):Nat):Int)=(m:Int)*low - (m:Int)*X:=by rw[Aq,Int.natCast_sub ω,Int.mul_sub]
   have h2:(Y:Int) - (m:Int)*X<=(A:Int) - (m:Int)*low:=ω;have:=QMa (n:=A - Y) (k:=low - X) hm ω;omega
def cz(m QO:Nat)(x:Sh):Nat:=m*x.run.t.x+(QO*65536 - x.run.t.y)
def bx.pot{m QO}{x:Sh}(hm:0<m)(S:bx m QO x):cz m QO x<=m*x.time/\m*x.time<cz m QO x+m:=by
 have ht:=S.t;have h1:=QAP (n:=QO*65536 - x.run.t.y) hm;have h2:=QCw (n:=QO*65536 - x.run.t.y) hm;unfold cz;rw[ht,Qe0];omega
def bx.tq{c:Nc}(C:LN c)(h2:c.of=2){low QO}(hm:0<c.b)(ht:QO<18446744073709551616){x:Sh}(S:bx c.b QO x)(hh:x.has=true)(hl:low<=9223372036854775807)(hx:x.time<=9223372036854775807):
  bx c.b QO (IK x c low QO)/\(IK x c low QO).time=max low x.time/\cz c.b QO x<=cz c.b QO (IK x c low QO):=by
 obtain⟨A,hA⟩:∃A,A=QO*65536:=⟨_,rfl⟩;have hr:Ve c low (QO*65536)=⟨⟨0,0,0⟩,⟨low,QO*65536,c.b⟩,false⟩:=by
  unfold Ve;rw[Qc ω,ez (.inl h2)]
 have hk:IK x c low QO=⟨true,Xq x.run (Ve c low (QO*65536)),Ex (Xq x.run (Ve c low (QO*65536))) QO⟩:=by unfold IK;rw[hh];rfl
 have hS:=S.t;have hy:=S.y;have hAb:A<=1329227995784915872903807060280344576:=ω;have Sy:x.run.t=⟨x.run.t.x,x.run.t.y,c.b⟩:=by
  have:=S.sl;cases hq:x.run.t with
  | mk a b d=>rw[hq]at this;rw[<- this]
 have QMd:Xq x.run (Ve c low (QO*65536))=⟨⟨0,0,0⟩,wE ⟨x.run.t.x,x.run.t.y,c.b⟩ ⟨low,A,c.b⟩,false⟩:=by
  unfold Xq;rw[S.b,hr,Qc Ao,<- Sy,hA]
 rw[hk,QMd];rw[<- hA]at hS hy;rcases QMb (X:=x.run.t.x) (Y:=x.run.t.y) (A:=A) (low:=low) hm C.b hy hAb ω hl with ⟨e,hle⟩|⟨e,hle⟩
 .rw[e];have hz:QO*65536 - A=0:=by rw[hA];exact xg _
  have hT:Ex ⟨⟨0,0,0⟩,⟨low,A,c.b⟩,false⟩ QO=low+cdiv (QO*65536 - A) c.b:=Qnt hm rfl rfl (by show A<=_;rw[hA];exact QB _) (by
   show low+cdiv (QO*65536 - A) c.b<_;rw[hz,Qmn hm];omega)
  refine⟨⟨rfl,rfl,by show A<=_;rw[hA];exact QB _,hT⟩,?_,?_⟩
  .show Ex ⟨⟨0,0,0⟩,⟨low,A,c.b⟩,false⟩ QO=max low x.time;rw[hT,hz,Qmn hm,hS];omega
  .show c.b*x.run.t.x+(QO*65536 - x.run.t.y)<=c.b*low+(QO*65536 - A);have h1:=QAP (n:=A - x.run.t.y) hm;have h2:=Md c.b hle;rw[Qe0]at h2;rw[<- hA];omega
 .rw[e];have hT:Ex ⟨⟨0,0,0⟩,⟨x.run.t.x,x.run.t.y,c.b⟩,false⟩ QO=x.run.t.x+cdiv (QO*65536 - x.run.t.y) c.b:=Qnt hm rfl rfl S.y (by
   show x.run.t.x+cdiv (QO*65536 - x.run.t.y) c.b<_;rw[<- hA];omega)
  refine⟨⟨rfl,rfl,S.y,hT⟩,?_,QB _⟩;show Ex ⟨⟨0,0,0⟩,⟨x.run.t.x,x.run.t.y,c.b⟩,false⟩ QO=max low x.time;rw[hT,<- hA,hS];omega
def QAr(d:D)(hs:List Ob):D->List Ob->Prop:=λd' h=>d'=d/\h=hs
attribute [go_sem] QAr
structure Kn where
 OU:Int
 since:Int
 work:Nat
@[go_sem] def Kn.cells(k:Kn):List D:=[.raw (.int .u64 k.OU),.raw (.int .u64 k.since),.raw (.int .i64 k.work)]
def Kn.next(k:Kn)(e:Ev):Kn:=
 if e.J8=true then ⟨k.OU,if k.work=0 then e.at_ else k.since,k.work+1⟩ else ⟨max k.OU e.done,k.since,k.work - 1⟩
def Kn.late(k:Kn)(e:Ev):Bool:=!e.J8&&(decide (0<k.work)&&decide (max k.OU k.since<e.at_))
@[go_sem] def QGI(k:Kn):Ob:=⟨.one,0,3,1,λ_=>k.cells⟩
def Qjj(l:List Ev):Nat->Kn
 | 0=>⟨0,0,0⟩
 | k+1=>(Qjj l k).next (l.getD k default)
def Wg(l:List Ev)(k:Nat):Bool:=(Qjj l k).late (l.getD k default)
structure Qjk (T:List Qq):Prop where
 ul:∀c∈T,¬1<QR c.ul
 ls:∀c∈T,c.leaf=true->1<QR c.ls
section
variable {M:Qk}(I:Qy M)(V:Inv M)(F:Qji M)(P:Qjk M.T)
include I V F P
omit I F P in
theorem QMe{y}{n:Nd}(hn:Qh M.N y=some n)(ha:JV M y=true)(h0:Wm M y n=0):yT (M.KT n.c.parent)=0:=by
 have hx:=(V.kt n.c.parent ⟨n.sh.time,y,Wm M y n,y⟩).2 ⟨n,hn,rfl,ha,rfl⟩;have h1:=(oZ (M.KT n.c.parent) never).2.1 _ hx;have h1:yT (M.KT n.c.parent)<=Wm M y n:=h1;omega
end
structure QAs (k:Kn) (S:ZF):Prop where
 w:k.work=VR S.M
 u:k.OU=S.XI
 s:k.since<=S.Qf
 F:Qji S.M
 P:Qjk S.M.T
structure QGJ (k:Kn) (S:ZF):Prop extends QAs k S where
 b:0<VR S.M->S.Qf<S.XI
structure BI where
 V8:Int
 to:Int
instance:Inhabited BI:=⟨⟨0,0⟩⟩
@[go_sem] def BI.cells(s:BI):List D:=[.raw (.int .u64 s.V8),.raw (.int .u64 s.to)]
def BI.rows(l:List BI):Nat->List D:=λi=>(l.getD i default).cells
@[go_sem] theorem BI.xA(l:List BI)(i):BI.rows l i=(l.getD i default).cells:=rfl
@[go_sem] def strs(l:List BI):D:=.imm 2 l.length (BI.rows l)
structure StS where
 l:List BI
 OU:Int
def rw_(l:List Ev):Nat->Nat
 | 0=>0
 | k+1=>if (l.getD k default).J8=true then rw_ l k+1 else rw_ l k - 1
@[simp] theorem QGL(l:List Ev):rw_ l 0=0:=rfl
end Go.Fg.X
namespace Go.Fg.X
open Go.Proofs Go.Fg
open Go.Proofs.Tryz
def QMf{M}{now}{cls}{x}(I:Qy M)(I2:Qy (Jx M now cls x))(h:km M now cls x=0):VR M+1=VR (Jx M now cls x):=by
 unfold VR;rw[uo];have ZU:(M.T.map (·.iD)).Nodup:=by
  have h:M.T.Pairwise (λa b=>a.iD<b.iD):=I.tree.rising;rw[ik,L6];exact h.imp λVu=>ω
 have hq:∀j,Zj (Jx M now cls x) j=if cls=j then Zj M j++[x] else Zj M j:=λj=>by
  rw[OF];by_cases e:cls=j
  .rw[Qd ⟨h,e⟩,Qd e]
  .rw[Qc λh=>e h.2,Qc e]
 refine Qiw (q:=cls) (f:=λj=>(Zj (Jx M now cls x) j).length) (f':=λj=>(Zj M j).length) ZU ?_ ?_ λj hj=>?_
 .have QA:Zj (Jx M now cls x) cls≠[]:=by rw[hq,Qd rfl];simp
  unfold Zj Qw at QA;cases hf:Qh (Jx M now cls x).N cls with
  | none=>rw[hf]at QA;exact absurd rfl QA
  | some n=>
   obtain⟨h3,h4⟩:=(J6 I2.tree.rising).1 (I2.some hf);rw[uo]at h3;exact Z2.2 ⟨n.c,h3,h4⟩
 .rw[hq,Qd rfl,ZW];rfl
 .rw[hq,Qc λe=>hj e.symm]
def QMg{M}{now}{cls}{x}(h:¬km M now cls x=0):VR (Jx M now cls x)=VR M:=by
 unfold VR;rw[uo];congr 1;exact Pg λc _=>by rw[OF,Qc λh2=>h h2.1]
def ku(n:Nd):Qq × Nat × Sh:=(n.c,n.QO,n.sh)
def Qhh(KT:Int->List It)(n:Nd):Qq × Nat × Sh:=(n.c,n.QO,IK n.sh (Je n.c.ls) (Ld (KT n.c.parent)) n.QO)
def QMh(len:Nat)(n:Nd):Qq × Nat × Sh:=(n.c,VO (n.QO+len),GA n.sh (VO (n.QO+len)))
def QCx(now):∀(l:List Int) (M:Qk) (j:Int),l.Nodup->(Qh (l.foldl (Wn now) M).N j).map ku=(Qh M.N j).map (if j∈l then Qhh M.KT else ku)
 | [],_,_,_=>σ
 | a::l,M,j,hn=>by
  rw[Zz]at hn;rw[kD];by_cases e:j=a
  .subst e;rw[Lu (QjH now) l _ j hn.1,Qd J2,show Qh (Wn now M j).N j=(Qh M.N j).map (xU M now) from (qU (f:=xU M now) (λ_=>rfl) j).trans (Qd rfl),Hi];rfl
  .rw[QCx now l _ j hn.2,QjH now M a j e];show (Qh M.N j).map (if j∈l then Qhh M.KT else ku)=_;simp only[QD,e,false_or]
def QMi(M:Qk)(id)(x:Pk)(j:Int):(Qh (Vf M id x).N j).map ku=(Qh M.N j).map ku:=
 Lw (f:=λm=>{ m with q:=Xa (Qw M id).c.ZD (Qw M id).c.bytes (Qw M id).q x }) (λ_=>rfl) (λ_=>rfl) j
def QMj{M:Qk}(I:JG M.T)(now)(id head)(j):
  (Qh (Yp M now id head).N j).map ku=(Qh M.N j).map (if 1<QR (Qw M id).c.ls/\j∈Vo M.T M.A id then Qhh M.KT else ku):=by
 have h1:(VE M now id head).N=M.N\/∃d,(VE M now id head).N=VV M.N id λn=>{ n with du:=d }:=by
  unfold VE;split
  .exact .inr ⟨_,rfl⟩
  .exact .inl rfl
 have h2:∀{β:Type} (f:Nd->β) (_:∀(n:Nd) d,f { n with du:=d }=f n),(Qh (VE M now id head).N j).map f=(Qh M.N j).map f:=λf hf=>by
  rcases h1 with h|⟨d,h⟩
  .rw[h]
  .rw[h];exact Lw (f:=λn:Nd=>{ n with du:=d }) (λ_=>rfl) (λn=>hf n d) j
 have hk:(VE M now id head).KT=M.KT:=Le.2.2.1;unfold Yp;split
 .rename_i hs;rw[(CM _ _).1,QCx now _ _ j (QAX I _ _)];show (Qh (VE M now id head).N j).map (if j∈Vo M.T M.A id then Qhh (VE M now id head).KT else ku)=_;rw[hk];by_cases hj:j∈Vo M.T M.A id
  .rw[Qd hj,Qd ⟨hs,hj⟩];exact h2 _ λ_ _=>rfl
  .rw[Qc hj,Qc λh=>hj h.2];exact h2 _ λ_ _=>rfl
 .rename_i hs;rw[Qc λh=>hs h.1];exact h2 _ λ_ _=>rfl
def QMk{M:Qk}(I:JG M.T)(now)(cls)(x)(j):
  (Qh (Vy M now cls x).N j).map ku=(Qh M.N j).map (if Vx M cls x=0/\(Qw M cls).q.l=[]/\1<QR (Qw M cls).c.ls/\j∈Vo M.T M.A cls then Qhh M.KT else ku):=by
 have hp:=λj=>QMi M cls x j;unfold Vy;split
 .rename_i h;rw[Qc λh2=>by rw[h2.1]at h;cases h];exact hp j
 .split
  .rename_i h0;split
   .rename_i hq;rw[QMj (M:=jg (Vf M cls x) (M.acc+x.len.toNat)) I];have hc:(Qw (jg (Vf M cls x) (M.acc+x.len.toNat)) cls).c=(Qw M cls).c:=QAW (QAY M cls x cls);rw[hc];show (Qh (Vf M cls x).N j).map (if 1<QR (Qw M cls).c.ls/\j∈Vo M.T M.A cls then Qhh M.KT else ku)=_;by_cases hh:1<QR (Qw M cls).c.ls/\j∈Vo M.T M.A cls
    .rw[Qd hh,Qd ⟨h0,hq,hh⟩];exact Lw (f:=λm=>{ m with q:=Xa (Qw M cls).c.ZD (Qw M cls).c.bytes (Qw M cls).q x }) (λ_=>rfl) (λ_=>rfl) j
    .rw[Qc hh,Qc λh=>hh h.2.2];exact hp j
   .rename_i hq;rw[Qc λh=>hq h.2.1];exact hp j
  .rename_i h0;rw[Qc λh=>h0 h.1]
def QEd(M:Qk)(now:Nat):(ZE M now).KT=M.KT:=by unfold ZE;split<;>rfl
def QMl{M:Qk}(I:JG M.T)(now)(cls)(x)(j):
  (Qh (Jx M now cls x).N j).map ku=(Qh M.N j).map (if km M now cls x=0/\Zj M cls=[]/\1<QR (Qw M cls).c.ls/\j∈Vo M.T M.A cls then Qhh M.KT else ku):=by
 obtain⟨t1,t2,t3⟩:=wQ M now;have hn:∀id,Qw (ZE M now) id=Qw M id:=λid=>by unfold Qw;rw[t1]
 unfold Jx km;split
 .rw[QMk (M:=ZE M now) (by rw[t2];exact I),t1,t2,t3,hn,QEd];rfl
 .rw[Qc (λh=>absurd h.1 π)]
def QMm(M:Qk)(now)(id head:Int):(Yp M now id head).A=if 1<QR (Qw M id).c.ls then id::M.A else M.A:=by
 unfold Yp;split
 .rw[(CM _ _).2.2.2.1,(GK now _ _).2.1]
 .exact Le.2.1
def QMn(M:Qk)(now)(cls:Int)(x:Pk):(Jx M now cls x).A=if km M now cls x=0/\Zj M cls=[]/\1<QR (Qw M cls).c.ls then cls::M.A else M.A:=by
 obtain⟨t1,t2,t3⟩:=wQ M now;have hn:∀id,Qw (ZE M now) id=Qw M id:=λid=>by unfold Qw;rw[t1]
 have key:∀M:Qk,(Vy M now cls x).A=if Vx M cls x=0/\Zj M cls=[]/\1<QR (Qw M cls).c.ls then cls::M.A else M.A:=λM=>by
  unfold Vy Zj;split
  .rename_i h;rw[Qc λh2=>by rw[h2.1]at h;cases h];rfl
  .split
   .rename_i h0;split
    .rename_i hq;rw[QMm];have hc:(Qw (jg (Vf M cls x) (M.acc+x.len.toNat)) cls).c=(Qw M cls).c:=QAW (QAY M cls x cls);rw[hc];show (if 1<QR (Qw M cls).c.ls then cls::M.A else M.A)=_;by_cases hh:1<QR (Qw M cls).c.ls
     .rw[Qd hh,Qd ⟨h0,hq,hh⟩]
     .rw[Qc hh,Qc λh=>hh h.2.2]
    .rename_i hq;rw[Qc λh=>hq h.2.1];rfl
   .rename_i h0;rw[Qc λh=>h0 h.1]
 unfold Jx km;split
 .rw[key,t3];unfold Zj;rw[hn]
 .rw[Qc (λh=>absurd h.1 π)]
def QnU:∀(l:List Int) (M:Qk) (j:Int) {n:Nd},Qh M.N j=some n->Qh (l.foldl W1 M).N j=some n\/Qh (l.foldl W1 M).N j=some { n with sh:=y7 }
 | [],M,j,n,h=>.inl h
 | a::l,M,j,n,h=>by
  rw[kD];by_cases e:j=a
  .subst e;have h1:Qh (W1 M j).N j=some { n with sh:=y7 }:=QAR (f:=λn:Nd=>{ n with sh:=y7 }) (λ_=>rfl) h;rcases QnU l _ j h1 with h2|h2
   .exact .inr h2
   .exact .inr h2
  .have h1:Qh (W1 M a).N j=some n:=(Qyg M a j e).trans h;exact QnU l _ j h1
def QEg:∀(l:List Int) (M:Qk) (j:Int) {n:Nd},Qh M.N j=some n->j∈l->Qh (l.foldl W1 M).N j=some { n with sh:=y7 }
 | [],M,j,n,h,hj=>by cases hj
 | a::l,M,j,n,h,hj=>by
  rw[kD];by_cases e:j=a
  .subst e;have h1:Qh (W1 M j).N j=some { n with sh:=y7 }:=QAR (f:=λn:Nd=>{ n with sh:=y7 }) (λ_=>rfl) h;rcases QnU l _ j h1 with h2|h2<;>exact h2
  .have h1:Qh (W1 M a).N j=some n:=(Qyg M a j e).trans h;exact QEg l _ j h1 ((QD.1 hj).resolve_left e)
def QMo{M:Qk}(I:Qy M)(a){j}{n}(hn:Qh M.N j=some n):
  ((JO M a).KT n.c.parent≠[]->Qh (JO M a).N j=some n)/\((JO M a).KT n.c.parent=[]->M.KT n.c.parent≠[]->Qh (JO M a).N j=some { n with sh:=y7 }) /\
   (Qh (JO M a).N j=some n\/Qh (JO M a).N j=some { n with sh:=y7 }):=by
 have hc:=I.some hn;have y8:j∈WE M.T n.c.parent:=(Qyf I.tree.rising).2 ⟨n.c,hc,rfl⟩;have Oq:(JO M a).KT n.c.parent=if n.c.parent=(Qw M a).c.parent then Vd a (M.KT (Qw M a).c.parent) else M.KT n.c.parent:=by
  rw[fO];rfl
 rw[Oq];unfold JO;by_cases e:n.c.parent=(Qw M a).c.parent
 .rw[Qd e];by_cases h0:Vd a (M.KT (Qw M a).c.parent)=[]
  .rw[Qd h0];have h2:Qh ((WE M.T (Qw M a).c.parent).foldl W1 (Wp M a)).N j=some { n with sh:=y7 }:=QEg _ (Wp M a) j hn (e▸y8);exact⟨λh=>absurd h0 h,λ_ _=>h2,.inr h2⟩
  .rw[Qc h0];exact⟨λ_=>hn,λh=>absurd h h0,.inl hn⟩
 .rw[Qc e];by_cases h0:Vd a (M.KT (Qw M a).c.parent)=[]
  .rw[Qd h0];have h2:Qh ((WE M.T (Qw M a).c.parent).foldl W1 (Wp M a)).N j=some n:=by
    rw[Lu Qyg _ (Wp M a) j λhj=>?_]
    .exact hn
    .obtain⟨c,h3,h4⟩:=(Qyf I.tree.rising).1 hj;rw[hc]at h3;cases h3;exact e h4
   exact⟨λ_=>h2,λh h'=>absurd h h',.inl h2⟩
  .rw[Qc h0];exact⟨λ_=>hn,λh h'=>absurd h h',.inl hn⟩
def Qla:∀(l:List Int) {M:Qk},Qy M->∀{j:Int} {n:Nd},Qh M.N j=some n ->
  ((l.foldl JO M).KT n.c.parent≠[]->Qh (l.foldl JO M).N j=some n)/\((l.foldl JO M).KT n.c.parent=[]->M.KT n.c.parent≠[]->Qh (l.foldl JO M).N j=some { n with sh:=y7 }) /\
   (Qh (l.foldl JO M).N j=some n\/Qh (l.foldl JO M).N j=some { n with sh:=y7 })
 | [],M,I,j,n,hn=>⟨λ_=>hn,λh h'=>absurd h h',.inl hn⟩
 | a::l,M,I,j,n,hn=>by
  rw[kD];obtain⟨a1,a2,a3⟩:=QMo I a hn;have I1:=I.JO a;have sub:(l.foldl JO (JO M a)).KT n.c.parent≠[]->(JO M a).KT n.c.parent≠[]:=λh h2=>h (ij.2 λx hx=>by
   have:=((tx l I1 n.c.parent x).1 hx).1;rw[h2]at this;cases this)
  refine⟨λh=>?_,λh h'=>?_,?_⟩
  .exact(Qla l I1 (a1 (sub h))).1 h
  .by_cases h1:(JO M a).KT n.c.parent=[]
   .rcases (Qla l I1 (a2 h1 h')).2.2 with h2|h2<;>exact h2
   .exact(Qla l I1 (a1 h1)).2.1 h h1
  .rcases a3 with h1|h1
   .exact(Qla l I1 h1).2.2
   .rcases (Qla l I1 h1).2.2 with h2|h2
    .exact .inr h2
    .exact .inr h2
def QMp{M:Qk}{a p:Int}(h:(Vm M a).KT p=[]):M.KT p=[]:=by
 unfold Vm at h;split at h
 .dsimp only at h;split at h
  .exfalso;have:=GV (id:=a) (a:=(Qw M a).sh.time) (b:=Wm M a (Qw M a)) (L:=M.KT (Qw M a).c.parent) (x:=⟨(Qw M a).sh.time,a,Wm M a (Qw M a),a⟩);rw[h]at this;exact absurd (this.2 (.inl rfl)) Pm
  .exact h
 .exact h
def QnV{p}:∀(l:List Int) {M:Qk},(VW M l).KT p=[]->M.KT p=[]
 | [],_,h=>h
 | a::l,M,h=>QMp (QnV l (M:=Vm M a) h)
def QfT{M:Qk}(V:Inv M){p}:M.KT p≠[]↔∃a n,Qh M.N a=some n/\n.c.parent=p/\JV M a=true:=by
 constructor
 .intro h;cases hk:M.KT p with
  | nil=>exact absurd hk h
  | cons x l=>
   obtain⟨n,h1,h2,h3,_⟩:=(V.kt p x).1 (by rw[hk];exact J2);exact⟨x.ki,n,h1,h2,h3⟩
 .rintro⟨a,n,h1,h2,h3⟩ h;have:=(V.kt p ⟨n.sh.time,a,Wm M a n,a⟩).2 ⟨n,h1,h2,h3,rfl⟩;rw[h]at this;cases this
def Qnu{M:Qk}(V:Inv M){a}{n:Nd}(hn:Qh M.N a=some n)(ha:JV M a=true):Ld (M.KT n.c.parent)<=n.sh.time:=by
 have hx:=(V.kt n.c.parent ⟨n.sh.time,a,Wm M a n,a⟩).2 ⟨n,hn,rfl,ha,rfl⟩;have hs:=V.qx.2 n.c.parent;unfold Ld;cases hk:M.KT n.c.parent with
 | nil=>rw[hk]at hx;cases hx
 | cons y l=>
  rw[hk]at hx hs;show y.ka<=n.sh.time;rcases QD.1 hx with e|hl
  .rw[<- e];exact QB _
  .have:=(yj.1 hs).1 _ hl;unfold It.lt Ku at this;have h3:(⟨n.sh.time,a,Wm M a n,a⟩:It).ka=n.sh.time:=rfl;omega
def QnW{M:Qk}(V:Inv M){p}(h:M.KT p≠[]):∃a n,Qh M.N a=some n/\n.c.parent=p/\JV M a=true/\n.sh.time=Ld (M.KT p):=by
 unfold Ld;cases hk:M.KT p with
 | nil=>exact absurd hk h
 | cons x l=>
  obtain⟨n,h1,h2,h3,h4⟩:=(V.kt p x).1 (by rw[hk];exact J2);exact⟨x.ki,n,h1,h2,h3,by rw[h4];rfl⟩
def r5(b:Bool)(len:Nat)(n:Nd):Sh:=if b=true then GA n.sh (VO (n.QO+len)) else n.sh
def QfX(b:Bool)(len:Nat)(n:Nd):Nat:=if b=true then VO (n.QO+len) else n.QO
def QnX(M:Qk)(id)(r:Bool):∀a∈(Xb M id r).A,a∈M.A:=by
 unfold Xb;dsimp only;rw[(CM _ _).2.2.2.1];have h3:∀len:Int,(VQ ((up M.T id).foldl (Vw len.toNat) (WL M id)) id len r).A=M.A:=λlen=>(Ol _ _ _ _).2.1.trans ((Lk len.toNat _ _).2.1);split
 .unfold WY;split
  .rw[(GM _ _).2.1];intro a ha;have:=(Jt.1 ha).1;rw[h3]at this;exact this
  .rw[h3];exact λa h=>h
 .rw[h3];exact λa h=>h
def QMq{M:Qk}(I:Qy M)(V:Inv M){id:Int}{r}(V':Inv (Xb M id r)){len}(hlen:len=((Qw M id).q.l.headD default).len.toNat){j}{n}(hn:Qh M.N j=some n)(Q8:(Qh M.N id).isSome=true):
  ∃m,Qh (Xb M id r).N j=some m/\m.c=n.c/\m.QO=QfX (decide (j∈up M.T id)) len n /\
   ((Xb M id r).KT n.c.parent≠[]->m.sh=r5 (decide (j∈up M.T id)) len n) /\
   ((Xb M id r).KT n.c.parent=[]->M.KT n.c.parent≠[]->m.sh=y7)/\(m.sh=y7\/m.sh=r5 (decide (j∈up M.T id)) len n):=by
 have r7:=V';unfold Xb at r7 ⊢;dsimp only at r7 ⊢;subst hlen;generalize ((Qw M id).q.l.headD default).len=len at *;obtain⟨M2,YK⟩:∃M2,M2=(up M.T id).foldl (Vw len.toNat) (WL M id):=⟨_,rfl⟩;rw[<- YK]at r7 ⊢;have I2:Qy M2:=by rw[YK];exact Qy.fu _ (I.WL id)
 obtain⟨n0,j9⟩:=As.1 Q8;obtain⟨np,hnp⟩:∃np,Qh (WL M id).N id=some np:=by
  rw[show Qh (WL M id).N id=(Qh M.N id).map (λn=>{ n with q:=WI (Qw M id).q }) from (qU (f:=λn:Nd=>{ n with q:=WI (Qw M id).q }) (λ_=>rfl) id).trans (Qd rfl),j9];exact⟨_,rfl⟩
 obtain⟨m2,YE,_⟩:=Qg0 len.toNat (up M.T id) (WL M id) id hnp;rw[<- YK]at YE;obtain⟨M3,qV⟩:∃M3,M3=VQ M2 id len r:=⟨_,rfl⟩;rw[<- qV]at r7 ⊢;have I3:Qy M3:=by rw[qV];exact I2.VQ YE len r
 obtain⟨a1,a2,a3,a4,a5,a6⟩:=Ol M2 id len r;obtain⟨b1,b2,b3,b4,b5,b6,b7⟩:=Lk len.toNat (up M.T id) (WL M id);rw[<- YK]at b1 b2 b3;rw[<- qV]at a1 a2 a3;have jf:M3.T=M.T:=a1.trans b1;have OA:M3.A=M.A:=a2.trans b2;have tE:M3.KT=M.KT:=a3.trans b3;have h3:(Qh M3.N j).map ku=(Qh M.N j).map (if j∈up M.T id then QMh len.toNat else ku):=by
  have hd:(Qh M3.N j).map ku=(Qh M2.N j).map ku:=by
   rw[qV,tB];split
   .cases Qh M2.N j<;>rfl
   .rfl
  rw[hd,YK];have hp:∀{β:Type} (f:Nd->β) (_:∀(n:Nd) q,f { n with q:=q }=f n),(Qh (WL M id).N j).map f=(Qh M.N j).map f:=λf hf=>
   Lw (f:=λn:Nd=>{ n with q:=WI (Qw M id).q }) (λ_=>rfl) (λn=>hf n _) j
  by_cases hj:j∈up M.T id
  .rw[Qis len.toNat _ _ j (Ec I.tree id) hj,Qd hj,Hi];exact hp (ku ∘ xX len.toNat) λ_ _=>rfl
  .rw[Lu (fQ len.toNat) _ _ j hj,Qc hj];exact hp _ λ_ _=>rfl
 obtain⟨n3,yP,e3⟩:∃n3,Qh M3.N j=some n3/\ku n3=(n.c,QfX (decide (j∈up M.T id)) len.toNat n,r5 (decide (j∈up M.T id)) len.toNat n):=by
  rw[hn]at h3;obtain⟨n3,q1,q2⟩:=VA.1 h3;refine⟨n3,q1,q2.trans ?_⟩;unfold QfX r5;by_cases hj:j∈up M.T id
  .rw[Qd hj,Qd (QU hj),Qd (QU hj)];rfl
  .rw[Qc hj,Qc (by simpa using hj),Qc (by simpa using hj)];rfl
 simp only[ku,Q9]at e3;obtain⟨c3,t3,s3⟩:=e3;have keep:∀M4:Qk,Qh M4.N j=some n3->(M4.KT n.c.parent=[]->M.KT n.c.parent=[])->∃m,Qh (VW M4 (up M.T id)).N j=some m/\m.c=n.c/\m.QO=QfX (decide (j∈up M.T id)) len.toNat n /\
   ((VW M4 (up M.T id)).KT n.c.parent≠[]->m.sh=r5 (decide (j∈up M.T id)) len.toNat n) /\
   ((VW M4 (up M.T id)).KT n.c.parent=[]->M.KT n.c.parent≠[]->m.sh=y7)/\(m.sh=y7\/m.sh=r5 (decide (j∈up M.T id)) len.toNat n):=λM4 h4 hk=>by
  rw[(CM _ _).1];exact⟨n3,h4,c3,t3,λ_=>s3,λh h'=>absurd (hk (QnV _ h)) h',.inr s3⟩
 split
 .rename_i pP;rw[Qd pP]at r7;unfold WY at r7 ⊢;split
  .rename_i hs;rw[Qd hs]at r7;obtain⟨Mo,Ae⟩:∃Mo,Mo={ M3 with A:=Ka M3.A id }:=⟨_,rfl⟩;have Io:Qy Mo:=by rw[Ae];exact I3.act (I3.V7.off id)
   rw[<- Ae]at r7 ⊢;have ZP:Qh Mo.N j=some n3:=by rw[Ae];exact yP
   obtain⟨u1,u2,u3⟩:=Qla (Vo M3.T (Ka M3.A id) id) Io ZP;have hko:Mo.KT=M.KT:=by rw[Ae];exact tE
   rw[c3]at u1 u2;rw[hko]at u2;have WH:=λx=>tx (Vo M3.T (Ka M3.A id) id) Io n.c.parent x;rw[hko]at WH;obtain⟨s1,s2,_⟩:=GM (Vo M3.T (Ka M3.A id) id) Mo;obtain⟨M4,vv⟩:∃M4,M4=(Vo M3.T (Ka M3.A id) id).foldl JO Mo:=⟨_,rfl⟩;rw[<- vv]at r7 u1 u2 u3 WH s1 s2 ⊢;have GN:M4.T=M.T:=by rw[s1,Ae];exact jf
   have fT:M4.A=Ka M.A id:=by rw[s2,Ae];show Ka M3.A id=_;rw[OA]
   obtain⟨q1,q2,_,q4,_⟩:=CM (up M.T id) M4;have QA:(VW M4 (up M.T id)).KT n.c.parent≠[]->M4.KT n.c.parent≠[]:=λh=>by
    obtain⟨a,na,w1,w2,w3⟩:=(QfT r7).1 h;have jV:Ja M.T (Ka M.A id) a=true:=by
     have:Ja (VW M4 (up M.T id)).T (VW M4 (up M.T id)).A a=true:=w3;rw[q2,q4,GN,fT]at this;exact this
    have QMr:JV M a=true:=by
     obtain⟨b,hb,Vu⟩:=XU.1 jV;exact XU.2 ⟨b,(Jt.1 hb).1,Vu⟩
    have Z7:∃na0,Qh M.N a=some na0/\na0.c.parent=n.c.parent:=by
     have k1:(Qh (VW M4 (up M.T id)).N a).map (λn=>n.c)=(Qh Mo.N a).map λn=>n.c:=by
      rw[q1,vv,wT (EU (key:=λn:Nd=>n.c) (λ_=>rfl))]
     have k2:(Qh Mo.N a).map (λn=>n.c)=Qx M.T a:=by
      have:=Io.find a;rw[<- this,Ae];show Qx M3.T a=_;rw[jf]
     rw[w1,k2]at k1;obtain⟨na0,z1,z2⟩:=I.Lb k1.symm;exact⟨na0,z1,by rw[z2];exact w2⟩
    obtain⟨na0,z1,z2⟩:=Z7;have hx:=(V.kt n.c.parent ⟨na0.sh.time,a,Wm M a na0,a⟩).2 ⟨na0,z1,z2,QMr,rfl⟩;have hnu:a ∉ Vo M3.T (Ka M3.A id) id:=λhu=>by
     unfold Vo at hu;have:=XK.1 List.all_takeWhile _ hu;rw[jf,OA,jV]at this;cases this
    have:=(WH ⟨na0.sh.time,a,Wm M a na0,a⟩).2 ⟨hx,hnu⟩;intro h0;rw[h0]at this;cases this
   rw[q1];rcases u3 with u3|u3
   .exact⟨n3,u3,c3,t3,λ_=>s3,λh h'=>by
     have h4:=QnV _ h;have:=u2 h4 h';rw[u3]at this;have:=congrArg Nd.sh (Mf this);exact this,.inr s3⟩
   .exact⟨{ n3 with sh:=y7 },u3,c3,t3,λh=>by
     have:=u1 (QA h);rw[u3]at this;have:=congrArg Nd.sh (Mf this);exact this.trans s3,λ_ _=>rfl,.inl rfl⟩
  .exact keep M3 yP λh=>by rw[tE]at h;exact h
 .exact keep M3 yP λh=>by rw[tE]at h;exact h
structure n8 (T:List Qq) (p:Int) (L:Nat):Prop where
 rt:∀c∈T,¬1<QR c.rt
 ul:∀c∈T,¬1<QR c.ul
 eR:∀c∈T,c.parent=p->1<QR c.ls->(Je c.ls).of=2/\L<=(Je c.ls).b/\LN (Je c.ls)
 l0:0<L
def QMt{K a c c' b}(h:a+c*K<=b*K)(e:c'+1=c):a+c'*K<=b*K:=Ki (Ql4 (X7 K ω) a) h
def QMu{K a d c c' b}(h:a+c*K<=b*K)(e:c'+1=c)(hd:d<=a+K):d+c'*K<=b*K:=by
 subst e;rw[Vz,Me]at h;generalize c'*K=x at *;generalize b*K=y at *;omega
def QMv{a c b}(h:a+c*1073741824<=b*1073741824)(hb:b<=1000000):a<=1073741824000000:=Ki (Ki (Qib _ _) h) (X7 1073741824 hb)
def QMw{n}(h:n<18446744073709551616):VO n=n:=by unfold VO;exact jq h
def QMx{n m}(hm:0<m):cdiv n m<=n:=Qmk hm (Nat.le_mul_of_pos_left n hm)
structure W2 (T:List Qq) (p:Int) (Gv B:Nat) (M:Qk):Prop where
 T_:M.T=T
 F:Qji M
 none:M.KT p=[]->∀j n,Qh M.N j=some n->n.c.parent=p->n.sh.has=false
 has:∀j n,Qh M.N j=some n->n.c.parent=p->1<QR n.c.ls->n.sh.has=true->bx (Je n.c.ls).b n.QO n.sh/\n.sh.time<=Ld (M.KT p)+Gv/\n.sh.time+VR M*1073741824<=B*1073741824
 act:∀j n,Qh M.N j=some n->n.c.parent=p->JV M j=true->n.sh.has=true
 QO:∀j n,Qh M.N j=some n->n.QO+VR M*16384<=B*16384
def W2.mono{T}{p}{Gv B C}{M}(h:W2 T p Gv B M)(hb:B<=C):W2 T p Gv C M:=
 ⟨h.T_,h.F,h.none,λj n a b c d=>⟨(h.has j n a b c d).1,(h.has j n a b c d).2.1,Ki (h.has j n a b c d).2.2 (X7 _ hb)⟩,h.act,λj n a=>Ki (h.QO j n a) (X7 _ hb)⟩
def QEi{M M':Qk}(hT:M'.T=M.T)(hN:M'.N=M.N):VR M'=VR M:=by
 unfold VR Zj Qw;rw[hT,hN]
def W2.same{T}{p}{Gv B}{M M':Qk}(h:W2 T p Gv B M)(hT:M'.T=M.T)(hN:M'.N=M.N)(hA:M'.A=M.A)(hK:M'.KT=M.KT):W2 T p Gv B M':=by
 have hc:=QEi hT hN;refine⟨hT.trans h.T_,h.F.same hN,?_,?_,?_,?_⟩
 .rw[hK,hN];exact h.none
 .rw[hK,hN,hc];exact h.has
 .intro j n hn hp ha;unfold JV at ha;rw[hN]at hn;rw[hT,hA]at ha;exact h.act j n hn hp ha
 .rw[hN,hc];exact h.QO
def Qng{M:Qk}(I:Qy M){a}{n:Nd}(hn:Qh M.N a=some n)(ha:JV M a=true):1<QR n.c.ls:=by
 obtain⟨b,hb,Vu⟩:=XU.1 ha;obtain⟨c,h1,_,h3⟩:=I.V7 b hb;obtain⟨d,h4,h5⟩:=Qeg I.tree h1 h3 a Vu;rw[I.some hn]at h4;cases h4;exact h5
section
variable {M:Qk}(I:Qy M)(V:Inv M)(F:Qji M)(lG:∀c∈M.T,¬1<QR c.ul)
include I V F lG
theorem QEj{a:Int}(ha:a∈M.A):∀(k:Nat) (y:Int) (n:Nd),(up M.T a).length=(up M.T y).length+k->y∈up M.T a->Qh M.N y=some n->Wm M y n=0
 | k,y,n,hk,hy,hn=>by
  have YJ:n.cp.fit=0:=((F n (kF hn)).2 (lG n.c ((J6 I.tree.rising).1 (I.some hn)).1)).2;by_cases e:a=y
  .subst e;obtain⟨m,h1,h2,_⟩:=(V.act a).1 ha;rw[hn]at h1;cases h1;unfold Wm;rw[Qd (.inl h2)];exact YJ
  .obtain⟨i,c,h1,h2,h3⟩:=dB I.tree hy e;obtain⟨m,h4,h5⟩:=I.Lb h2;have hu:=Km I.tree h2;rw[h3]at hu;have hlen:(up M.T i).length=(up M.T y).length+1:=by rw[hu,Kv]
   obtain⟨l,hl⟩:=Ih I.tree h1;have hle:(up M.T i).length<=(up M.T a).length:=by rw[hl,ZW];omega
   have h0:=QEj ha (k - 1) i m ω h1 h4;have ql:=QMe V h4 (XU.2 ⟨a,ha,h1⟩) h0;rw[h5,h3]at ql;unfold Wm;split
   .exact YJ
   .rw[YJ,ql];rfl
 termination_by k=>k
 decreasing_by omega
theorem QEk{now}:∀(k:Nat) (p id:Int),wO M now k p=some id->∀j∈up M.T id,j ∉ up M.T p->∀n,Qh M.N j=some n->n.sh.time=Ld (M.KT n.c.parent)
 | 0,p,id,h,_,_,_,_,_=>by cases h
 | k+1,p,id,h,j,hj,hp,n,hn=>by
  unfold wO at h;cases hf:firstM M now p with
  | none=>rw[hf]at h;cases h
  | some x=>
   rw[hf]at h;dsimp only at h;have hx:x∈M.KT p:=kF hf;obtain⟨m,h2,h3,h4,h5⟩:=(V.kt p x).1 hx;have hu:up M.T x.ki=x.ki::up M.T p:=by rw[Km I.tree (I.some h2),h3]
   have MM:m.sh.time=Ld (M.KT p):=by
    cases hk:M.KT p with
    | nil=>rw[hk]at hx;cases hx
    | cons y l=>
     obtain⟨my,g2,g3,g4,g5⟩:=(V.kt p y).1 (by rw[hk];exact J2);obtain⟨b,hb,Vu⟩:=XU.1 g4;have hle:(up M.T y.ki).length<=(up M.T b).length:=by obtain⟨l',YY⟩:=Ih I.tree Vu;rw[YY,ZW];omega
     have hf0:Wm M y.ki my=0:=QEj I V F lG hb ((up M.T b).length - (up M.T y.ki).length) y.ki my ω Vu g2;have hva:y.va=0:=by rw[g5];exact hf0
     unfold firstM at hf;have hd:decide (y.va<=min now 9223372036854775807)=true:=QU (by rw[hva];exact Jh _);rw[hk,jl,hd]at hf;have e:=Mf hf;show m.sh.time=y.ka;rw[e,h5]
   by_cases hxk:j∈up M.T x.ki
   .rw[hu]at hxk;rcases QD.1 hxk with rfl|h8
    .rw[hn]at h2;cases h2;rw[MM,h3]
    .exact absurd h8 hp
   .split at h
    .cases h;exact absurd hj hxk
    .exact QEk k x.ki id h j hj hxk n hn
end
def Qnw{M M':Qk}(hT:M'.T=M.T)(hA:∀a∈M'.A,a∈M.A){j}(h:JV M' j=true):JV M j=true:=by
 obtain⟨b,hb,hj⟩:=XU.1 h;exact XU.2 ⟨b,hA b hb,by rw[<- hT];exact hj⟩
def Qeu{M M':Qk}(I:Qy M)(I':Qy M')(hT:M'.T=M.T){j}{m:Nd}(h:Qh M'.N j=some m):∃n,Qh M.N j=some n/\n.c=m.c:=by
 have:=I'.some h;rw[hT]at this;exact I.Lb this
def QEp{T}{p}{L lm Gv B}(G:n8 T p L)(hG:∀m n,L<=m->n<=lm->cdiv (n*65536) m<=Gv){M:Qk}(I:Qy M)(V:Inv M)(h:W2 T p Gv B M){now}{id}(hc:wO M now 17 0=some id)(I':Qy (Xb M id false))(V':Inv (Xb M id false))(W4:(Xb M id false).T=M.T)(hF':Qji (Xb M id false))
  (QGr:VR (Xb M id false)+1=VR M) (hB:B<=1000000) (XF:lm<=16384) (hlen:((Qw M id).q.l.headD default).len.toNat<=lm) :
  W2 T p Gv B (Xb M id false)/\(M.KT p≠[]->(Xb M id false).KT p≠[]->Ld (M.KT p)<=Ld ((Xb M id false).KT p)) /\
   (∀j n,Qh M.N j=some n->n.c.parent=p->1<QR n.c.ls->(Xb M id false).KT p≠[]->n.sh.has=true->∃m,Qh (Xb M id false).N j=some m/\m.c=n.c/\m.sh.has=true/\m.sh.run=n.sh.run/\n.QO<=m.QO/\(JV M j=false->m.QO=n.QO)) /\
   (∀j n,Qh M.N j=some n->n.c.parent=p->JV M j=false->∃m,Qh (Xb M id false).N j=some m/\m.c=n.c/\m.QO=n.QO):=by
 have lG:∀c∈M.T,¬1<QR c.ul:=by rw[h.T_];exact G.ul
 obtain⟨n0,j9,ql,QMA⟩:=V.ES.share I now 17 0 id hc;have pP:=(V.ES.leaf I j9 ql QMA).2;have GF:=λ(j:Int) (n:Nd) (hn:Qh M.N j=some n)=>QMq (r:=false) I V V' rfl hn (by rw[j9];rfl);have hA':=QnX M id false;have MM:=QEk I V h.F lG 17 0 id hc;generalize ((Qw M id).q.l.headD default).len.toNat=len at *;obtain⟨M',hM'⟩:∃M',M'=Xb M id false:=⟨_,rfl⟩;rw[<- hM']at I' V' W4 hF' QGr GF hA' ⊢;have way:∀j n,Qh M.N j=some n->n.c.parent=p->j∈up M.T id->JV M j=true/\n.sh.time=Ld (M.KT p):=λj n hn hp hj=>by
  refine⟨XU.2 ⟨id,pP,hj⟩,?_⟩;have:=MM j hj (by rw[Gj I.tree];exact Pm) n hn;rw[hp]at this;exact this
 have QEv:∀j n,Qh M.N j=some n->VO (n.QO+len)=n.QO+len:=λj n hn=>by
  have:=h.QO j n hn;have:B*16384<=16384000000:=ω;exact QMw ω
 have eR:=λj n (hn:Qh M.N j=some n) (hp:n.c.parent=p) (hs:1<QR n.c.ls)=>G.eR n.c (h.T_▸((J6 I.tree.rising).1 (I.some hn)).1) hp hs;have ql:=G.l0;have Qkv:∀j n,Qh M.N j=some n->n.c.parent=p->1<QR n.c.ls->n.sh.has=true->∀b:Bool,(b=true->j∈up M.T id) ->
   (r5 b len n).has=true/\bx (Je n.c.ls).b (QfX b len n) (r5 b len n)/\(r5 b len n).run=n.sh.run/\n.sh.time<=(r5 b len n).time/\(r5 b len n).time<=Ld (M.KT p)+Gv/\(r5 b len n).time+VR M'*1073741824<=B*1073741824/\n.QO<=QfX b len n/\(b=false->QfX b len n=n.QO):=λj n hn hp hs hh b hb=>by
  obtain⟨e1,e2,e3⟩:=h.has j n hn hp hs hh;cases b with
  | false=>
   have q:n.sh.time+VR M'*1073741824<=B*1073741824:=QMt e3 QGr;exact⟨hh,e1,rfl,QB _,e2,q,QB _,λ_=>rfl⟩
  | true=>
   obtain⟨w1,w2⟩:=way j n hn hp (hb rfl);obtain⟨l1,l2,l3⟩:=eR j n hn hp hs;have c1:=hG _ _ l2 hlen;have c2:=QMx (n:=len*65536) (m:=(Je n.c.ls).b) ω;have c3:len*65536<=1073741824:=Ki (X7 65536 (Ki hlen XF)) π;have c4:=QMv e3 hB;have c5:=Ki c2 c3;obtain⟨k1,k2,k3,k4⟩:=e1.Qkv (n:=len) ω hh (Pv (Nat.add_le_add c4 c5) π);have k5:=Ki k4 (Ql4 c1 _);have k6:=QMu e3 QGr (Ki k4 (Ql4 c5 _));rw[w2]at k5;have et:=QEv j n hn;refine⟨?_,?_,?_,?_,?_,?_,?_,nofun⟩
   .show (GA n.sh _).has=true;unfold GA;rw[Qd hh]
   .show bx _ (VO (n.QO+len)) (GA n.sh (VO (n.QO+len)));rw[et];exact k1
   .show (GA n.sh (VO (n.QO+len))).run=_;rw[et];exact k2
   .show _<=(GA n.sh (VO (n.QO+len))).time;rw[et];exact k3
   .show (GA n.sh (VO (n.QO+len))).time<=Ld (M.KT p)+Gv;rw[et];exact k5
   .show (GA n.sh (VO (n.QO+len))).time+VR M'*1073741824<=B*1073741824;rw[et];exact k6
   .show _<=VO (n.QO+len);rw[et];omega
 have mono:M'.KT p≠[]->Ld (M.KT p)<=Ld (M'.KT p):=λQA=>by
  obtain⟨a,na,g1,g2,g3,g4⟩:=QnW V' QA;obtain⟨n,z1,z2⟩:=Qeu I I' W4 g1;have hp:n.c.parent=p:=by rw[z2];exact g2
  have ha:=Qnw W4 hA' g3;obtain⟨m,y1,y2,y3,y4,_⟩:=GF a n z1;rw[g1]at y1;cases y1;rw[hp]at y4;have hh:=h.act a n z1 hp ha;have hs:=Qng I z1 ha;obtain⟨_,_,_,t4,_⟩:=Qkv a n z1 hp hs hh (decide (a∈up M.T id)) σ;have h1:=Qnu V z1 ha;rw[hp]at h1;rw[<- g4,y4 QA];omega
 have stay:∀j n,Qh M.N j=some n->n.c.parent=p->n.sh.has=false->∀b:Bool,(r5 b len n).has=false:=λj n hn hp hh b=>by
  cases b with
  | false=>exact hh
  | true=>
   show (GA n.sh _).has=false;unfold GA;rw[hh];exact hh
 refine⟨⟨W4.trans h.T_,hF',λh0 j m hm hp=>?_,λj m hm hp hs hh=>?_,λj m hm hp ha=>?_,λj m hm=>?_⟩,λ_=>mono,λj n hn hp hs QA hh=>?_,λj n hn hp ha=>?_⟩
 .obtain⟨n,z1,z2⟩:=Qeu I I' W4 hm;have ZS:n.c.parent=p:=by rw[z2];exact hp
  obtain⟨m',y1,y2,y3,y4,y5,y6⟩:=GF j n z1;rw[hm]at y1;cases y1;rw[ZS]at y4 y5;by_cases hk:M.KT p=[]
  .rcases y6 with y6|y6
   .rw[y6];rfl
   .rw[y6];exact stay j n z1 ZS (h.none hk j n z1 ZS) _
  .rw[y5 h0 hk];rfl
 .obtain⟨n,z1,z2⟩:=Qeu I I' W4 hm;have ZS:n.c.parent=p:=by rw[z2];exact hp
  obtain⟨m',y1,y2,y3,y4,y5,y6⟩:=GF j n z1;rw[hm]at y1;cases y1;rw[ZS]at y4 y5;have QA:M'.KT p≠[]:=λh0=>by
   by_cases hk:M.KT p=[]
   .rcases y6 with y6|y6
    .rw[y6]at hh;cases hh
    .rw[y6,stay j n z1 ZS (h.none hk j n z1 ZS) _]at hh;cases hh
   .rw[y5 h0 hk]at hh;cases hh
  have e:=y4 QA;have hn:n.sh.has=true:=by
   cases hq:n.sh.has with
   | true=>rfl
   | false=>rw[e,stay j n z1 ZS hq _]at hh;cases hh
  obtain⟨_,t2,_,_,t5,t6,_⟩:=Qkv j n z1 ZS (by rw[z2];exact hs) hn (decide (j∈up M.T id)) σ;rw[y2,y3,e];have:=mono QA;exact⟨t2,ω,t6⟩
 .obtain⟨n,z1,z2⟩:=Qeu I I' W4 hm;have ZS:n.c.parent=p:=by rw[z2];exact hp
  obtain⟨m',y1,y2,y3,y4,y5,y6⟩:=GF j n z1;rw[hm]at y1;cases y1;rw[ZS]at y4;have xl:=Qnw W4 hA' ha;have QA:M'.KT p≠[]:=(QfT V').2 ⟨j,m,hm,hp,ha⟩;obtain⟨t1,_⟩:=Qkv j n z1 ZS (Qng I z1 xl) (h.act j n z1 ZS xl) (decide (j∈up M.T id)) σ;rw[y4 QA];exact t1
 .obtain⟨n,z1,z2⟩:=Qeu I I' W4 hm;obtain⟨m',y1,y2,y3,_⟩:=GF j n z1;rw[hm]at y1;cases y1;have:=h.QO j n z1;have et:=QEv j n z1;have:QfX (decide (j∈up M.T id)) len n<=n.QO+len:=by
   unfold QfX;split
   .omega
   .omega
  rw[y3];omega
 .obtain⟨m,y1,y2,y3,y4,_⟩:=GF j n hn;rw[hp]at y4;obtain⟨t1,_,t3,_,_,_,t7,t8⟩:=Qkv j n hn hp hs hh (decide (j∈up M.T id)) σ;rw[<- y4 QA]at t1 t3;refine⟨m,y1,y2,t1,t3,by rw[y3];exact t7,λha=>?_⟩;rw[y3];exact t8 (QI λhj=>by rw[(way j n hn hp hj).1]at ha;cases ha)
 .obtain⟨m,y1,y2,y3,_⟩:=GF j n hn;refine⟨m,y1,y2,?_⟩;rw[y3,QI λhj=>by rw[(way j n hn hp hj).1]at ha;cases ha];rfl
def QEw{K a c c' b}(h:a+c*K<=b*K)(e:c'<=c+1):a+c'*K<=(b+1)*K:=by
 have h2:=X7 K e;rw[Vz,Me]at h2;rw[Vz,Me];generalize c'*K=x at *;generalize c*K=y at *;generalize b*K=z at *;omega
def QMB{T}{A}{id j}(h:j∈Vo T A id):Ja T A j=false:=by
 unfold Vo at h;simpa using XK.1 List.all_takeWhile _ h
structure QMC (p:Int) (lo:Nat) (n m:Nd) (a a':Bool):Prop where
 c:m.c=n.c
 QO:m.QO=n.QO
 st:(m.sh=n.sh/\a'=a)\/(a=false/\a'=true/\m.sh.has=true/\bx (Je n.c.ls).b n.QO m.sh/\lo<=m.sh.time/\(n.sh.has=true->cz (Je n.c.ls).b n.QO n.sh<=cz (Je n.c.ls).b n.QO m.sh))
def QEx{T}{p}{L Gv B}(G:n8 T p L){M:Qk}(I:Qy M)(V:Inv M)(h:W2 T p Gv B M){now}{cls}{x:Pk}(I':Qy (Jx M now cls x))(V':Inv (Jx M now cls x))(W4:(Jx M now cls x).T=M.T)(hF':Qji (Jx M now cls x))
  (QGr:VR (Jx M now cls x)<=VR M+1) (hB:B<=1000000) :
  W2 T p Gv (B+1) (Jx M now cls x)/\(M.KT p≠[]->(Jx M now cls x).KT p≠[])/\((Jx M now cls x).KT p≠[]->Ld (M.KT p)<=Ld ((Jx M now cls x).KT p)) /\
   ∀j n,Qh M.N j=some n->n.c.parent=p->1<QR n.c.ls->∃m,Qh (Jx M now cls x).N j=some m/\QMC p (Ld (M.KT p)) n m (JV M j) (JV (Jx M now cls x) j):=by
 have GF:=QMl I.tree now cls x;have hA:=QMn M now cls x;obtain⟨M',hM'⟩:∃M',M'=Jx M now cls x:=⟨_,rfl⟩;rw[<- hM']at I' V' W4 hF' QGr GF hA ⊢;obtain⟨W,hW⟩:∃W,W=(km M now cls x=0/\Zj M cls=[]/\1<QR (Qw M cls).c.ls):=⟨_,rfl⟩;have aI:∀j,(km M now cls x=0/\Zj M cls=[]/\1<QR (Qw M cls).c.ls/\j∈Vo M.T M.A cls)=(W/\j∈Vo M.T M.A cls):=λj=>by
  rw[hW];apply propext;constructor
  .rintro⟨a,b,c,d⟩;exact⟨⟨a,b,c⟩,d⟩
  .rintro⟨⟨a,b,c⟩,d⟩;exact⟨a,b,c,d⟩
 have ql:=G.l0;have on:∀j,W/\j∈Vo M.T M.A cls->JV M j=false/\JV M' j=true:=λj hj=>by
  refine⟨QMB hj.2,?_⟩;have hA2:M'.A=cls::M.A:=by rw[hA];exact Qd (hW▸hj.1)
  refine XU.2 ⟨cls,by rw[hA2];exact J2,?_⟩;rw[W4];exact iu _ hj.2
 have off:∀j,¬(W/\j∈Vo M.T M.A cls)->JV M' j=JV M j:=λj hj=>by
  rw[vG];constructor
  .intro ha;obtain⟨b,hb,hjb⟩:=XU.1 ha;rw[W4]at hjb;rw[hA]at hb;split at hb
   .rename_i hw;rcases QD.1 hb with rfl|hb
    .cases hq:JV M j with
     | true=>rfl
     | false=>exact absurd ⟨hW▸hw,QA5 I.tree hjb hq⟩ hj
    .exact XU.2 ⟨b,hb,hjb⟩
   .exact XU.2 ⟨b,hb,hjb⟩
  .intro ha;obtain⟨b,hb,hjb⟩:=XU.1 ha;refine XU.2 ⟨b,?_,by rw[W4];exact hjb⟩;rw[hA];split
   .exact JR _ hb
   .exact hb
 have nd:∀j n,Qh M.N j=some n->∃m,Qh M'.N j=some m/\m.c=n.c/\m.QO=n.QO/\((W/\j∈Vo M.T M.A cls)->m.sh=IK n.sh (Je n.c.ls) (Ld (M.KT n.c.parent)) n.QO)/\(¬(W/\j∈Vo M.T M.A cls)->m.sh=n.sh):=λj n hn=>by
  have h1:=GF j;rw[hn]at h1;obtain⟨m,q1,q2⟩:=VA.1 h1;rw[<- aI];by_cases hj:km M now cls x=0/\Zj M cls=[]/\1<QR (Qw M cls).c.ls/\j∈Vo M.T M.A cls
  .rw[Qd hj]at q2;simp only[ku,Qhh,Q9]at q2;exact⟨m,q1,q2.1,q2.2.1,λ_=>q2.2.2,λh=>absurd hj h⟩
  .rw[Qc hj]at q2;simp only[ku,Q9]at q2;exact⟨m,q1,q2.1,q2.2.1,λh=>absurd h hj,λ_=>q2.2.2⟩
 have eR:=λj n (hn:Qh M.N j=some n) (hp:n.c.parent=p) (hs:1<QR n.c.ls)=>G.eR n.c (h.T_▸((J6 I.tree.rising).1 (I.some hn)).1) hp hs;have QME:∀j n,Qh M.N j=some n->Ld (M.KT p)+VR M*1073741824<=B*1073741824:=λj n hn=>by
  by_cases hk:M.KT p=[]
  .rw[hk];have h0:Ld []=0:=rfl;have h1:=h.QO j n hn;have h2:VR M<=B:=ω;have h3:VR M*1073741824<=B*1073741824:=X7 _ h2;omega
  .obtain⟨a,na,g1,g2,g3,g4⟩:=QnW V hk;rw[<- g4];exact(h.has a na g1 g2 (Qng I g1 g3) (h.act a na g1 g2 g3)).2.2
 have hBt:B*1073741824<=1073741824000000:=ω;have Qn0:∀j n,Qh M.N j=some n->n.c.parent=p->1<QR n.c.ls->(IK n.sh (Je n.c.ls) (Ld (M.KT p)) n.QO).has=true/\bx (Je n.c.ls).b n.QO (IK n.sh (Je n.c.ls) (Ld (M.KT p)) n.QO)/\Ld (M.KT p)<=(IK n.sh (Je n.c.ls) (Ld (M.KT p)) n.QO).time /\
   (IK n.sh (Je n.c.ls) (Ld (M.KT p)) n.QO).time<=Ld (M.KT p)+Gv/\(IK n.sh (Je n.c.ls) (Ld (M.KT p)) n.QO).time+VR M*1073741824<=B*1073741824/\(n.sh.has=true->cz (Je n.c.ls).b n.QO n.sh<=cz (Je n.c.ls).b n.QO (IK n.sh (Je n.c.ls) (Ld (M.KT p)) n.QO)):=λj n hn hp hs=>by
  obtain⟨l1,l2,l3⟩:=eR j n hn hp hs;have Ri:=QME j n hn;have htb:=h.QO j n hn;have Lo:B*16384<=16384000000:=ω;refine⟨rfl,?_⟩;cases hh:n.sh.has with
  | true=>
   obtain⟨e1,e2,e3⟩:=h.has j n hn hp hs hh;obtain⟨k1,k2,k3⟩:=e1.tq l3 l1 (low:=Ld (M.KT p)) ω ω hh ω ω;exact⟨k1,ω,ω,ω,λ_=>k3⟩
  | false=>
   obtain⟨k1,k2⟩:=bx.QL9 l3 l1 (low:=Ld (M.KT p)) (QO:=n.QO) ω ω hh;exact⟨k1,ω,ω,ω,nofun⟩
 have mono:M'.KT p≠[]->Ld (M.KT p)<=Ld (M'.KT p):=λQA=>by
  obtain⟨a,na,g1,g2,g3,g4⟩:=QnW V' QA;obtain⟨n,z1,z2⟩:=Qeu I I' W4 g1;have hp:n.c.parent=p:=by rw[z2];exact g2
  obtain⟨m,y1,y2,y3,y4,y5⟩:=nd a n z1;rw[g1]at y1;cases y1;rw[<- g4];by_cases hj:W/\a∈Vo M.T M.A cls
  .have hs:1<QR n.c.ls:=by rw[z2];exact Qng I' g1 g3
   rw[y4 hj,hp];exact(Qn0 a n z1 hp hs).2.2.1
  .rw[y5 hj];rw[off a hj]at g3;have:=Qnu V z1 g3;rw[hp]at this;exact this
 have kids:∀j n,Qh M.N j=some n->n.c.parent=p->JV M' j=true->M'.KT p≠[]:=λj n hn hp ha=>by
  obtain⟨m,y1,y2,_⟩:=nd j n hn;exact(QfT V').2 ⟨j,m,y1,by rw[y2];exact hp,ha⟩
 have Qn1:∀j,JV M j=true->JV M' j=true:=λj ha=>by
  by_cases hj:W/\j∈Vo M.T M.A cls
  .exact(on j hj).2
  .rw[off j hj];exact ha
 refine⟨⟨W4.trans h.T_,hF',λh0 j m hm hp=>?_,λj m hm hp hs hh=>?_,λj m hm hp ha=>?_,λj m hm=>?_⟩,λhk=>?_,mono,λj n hn hp hs=>?_⟩
 .obtain⟨n,z1,z2⟩:=Qeu I I' W4 hm;have ZS:n.c.parent=p:=by rw[z2];exact hp
  obtain⟨m',y1,y2,y3,y4,y5⟩:=nd j n z1;rw[hm]at y1;cases y1;have hj:¬(W/\j∈Vo M.T M.A cls):=λhj=>kids j n z1 ZS (on j hj).2 h0;rw[y5 hj];refine h.none ?_ j n z1 ZS;refine kC λhk=>?_;obtain⟨a,na,g1,g2,g3⟩:=(QfT V).1 hk;exact kids a na g1 g2 (Qn1 a g3) h0
 .obtain⟨n,z1,z2⟩:=Qeu I I' W4 hm;have ZS:n.c.parent=p:=by rw[z2];exact hp
  have db:1<QR n.c.ls:=by rw[z2];exact hs
  obtain⟨m',y1,y2,y3,y4,y5⟩:=nd j n z1;rw[hm]at y1;cases y1;by_cases hj:W/\j∈Vo M.T M.A cls
  .have ml:=mono (kids j n z1 ZS (on j hj).2);have y4:=y4 hj;rw[ZS]at y4;obtain⟨_,w2,w3,w4,w5,_⟩:=Qn0 j n z1 ZS db;rw[y2,y3,y4];exact⟨w2,Ki w4 (Ql6 ml _),QEw w5 QGr⟩
  .have y5:=y5 hj;rw[y5]at hh;obtain⟨e1,e2,e3⟩:=h.has j n z1 ZS db hh;have hk:M.KT p≠[]:=λhk=>by rw[h.none hk j n z1 ZS]at hh;cases hh
   obtain⟨a,na,g1,g2,g3⟩:=(QfT V).1 hk;have ml:=mono (kids a na g1 g2 (Qn1 a g3));rw[y2,y3,y5];exact⟨e1,Ki e2 (Ql6 ml _),QEw e3 QGr⟩
 .obtain⟨n,z1,z2⟩:=Qeu I I' W4 hm;have ZS:n.c.parent=p:=by rw[z2];exact hp
  obtain⟨m',y1,y2,y3,y4,y5⟩:=nd j n z1;rw[hm]at y1;cases y1;by_cases hj:W/\j∈Vo M.T M.A cls
  .rw[y4 hj];rfl
  .rw[y5 hj];rw[off j hj]at ha;exact h.act j n z1 ZS ha
 .obtain⟨n,z1,z2⟩:=Qeu I I' W4 hm;obtain⟨m',y1,y2,y3,_⟩:=nd j n z1;rw[hm]at y1;cases y1;have:=h.QO j n z1;rw[y3];have:VR M'*16384<=(VR M+1)*16384:=X7 _ QGr;omega
 .obtain⟨a,na,g1,g2,g3⟩:=(QfT V).1 hk;exact kids a na g1 g2 (Qn1 a g3)
 .obtain⟨m,y1,y2,y3,y4,y5⟩:=nd j n hn;refine⟨m,y1,y2,y3,?_⟩;by_cases hj:W/\j∈Vo M.T M.A cls
  .have y4:=y4 hj;rw[hp]at y4;obtain⟨w1,w2,w3,_,_,w6⟩:=Qn0 j n hn hp hs;rw[y4];exact .inr ⟨(on j hj).1,(on j hj).2,w1,w2,w3,w6⟩
  .exact .inl ⟨y5 hj,off j hj⟩
structure qo (p i j:Int) (low0 ti tj P0:Nat) (M:Qk):Prop where
 i:∃n,Qh M.N i=some n/\n.c.parent=p/\1<QR n.c.ls/\JV M i=true/\ti<=n.QO/\cz (Je n.c.ls).b n.QO n.sh+ti*65536=P0+n.QO*65536
 low:low0<=Ld (M.KT p)
 j:∃n,Qh M.N j=some n/\n.c.parent=p/\1<QR n.c.ls/\tj<=n.QO/\((JV M j=false/\n.QO=tj)\/(n.sh.has=true/\(n.QO - tj)*65536+(Je n.c.ls).b*low0<=cz (Je n.c.ls).b n.QO n.sh+(Je n.c.ls).b))
def qo.same{p i j}{low0 ti tj P0}{M M':Qk}(h:qo p i j low0 ti tj P0 M)(hT:M'.T=M.T)(hN:M'.N=M.N)(hA:M'.A=M.A)(hK:M'.KT=M.KT):qo p i j low0 ti tj P0 M':=by
 have ha:∀k,JV M' k=JV M k:=λk=>by unfold JV;rw[hT,hA]
 refine⟨?_,?_,?_⟩
 .rw[hN,ha];exact h.i
 .rw[hK];exact h.low
 .rw[hN,ha];exact h.j
def QMF{a b p q r s:Nat}(h1:a+q=p+r)(h2:b+r=a+s):b+q=p+s:=ω
def QMG{A A' x P P' b kt mt:Nat}(c:A+x<=P+b)(e:A'+kt=A+mt)(hp:P'+kt=P+mt):A'+x<=P'+b:=ω
def QEy{m QO Qnx}{x x':Sh}(S:bx m QO x)(e:x'.run=x.run)(h:QO<=Qnx):cz m Qnx x'+QO*65536=cz m QO x+Qnx*65536:=by
 have hy:=S.y;have:QO*65536<=Qnx*65536:=X7 _ h;unfold cz;rw[e];omega
def QMH{T}{p}{L lm Gv B}{i j}{low0 ti tj P0}(G:n8 T p L)(hG:∀m n,L<=m->n<=lm->cdiv (n*65536) m<=Gv){M:Qk}(I:Qy M)(V:Inv M)(h:W2 T p Gv B M)(b:qo p i j low0 ti tj P0 M){now}{id}(hc:wO M now 17 0=some id)(I':Qy (Xb M id false))(V':Inv (Xb M id false))(W4:(Xb M id false).T=M.T)(hF':Qji (Xb M id false))
  (QGr:VR (Xb M id false)+1=VR M) (hB:B<=1000000) (XF:lm<=16384) (hlen:((Qw M id).q.l.headD default).len.toNat<=lm) (hi:JV (Xb M id false) i=true):qo p i j low0 ti tj P0 (Xb M id false):=by
 obtain⟨h',mono,r1,r2⟩:=QEp G hG I V h hc I' V' W4 hF' QGr hB XF hlen;have hA':=QnX M id false;obtain⟨n,n1,n2,n3,n4,n5,n6⟩:=b.i;have hk:M.KT p≠[]:=(QfT V).2 ⟨i,n,n1,n2,n4⟩;obtain⟨mi,hmi,kS⟩:∃m,Qh (Xb M id false).N i=some m/\m.c=n.c:=by
  have:=I'.find i;rw[W4,I.some n1]at this;cases hq:Qh (Xb M id false).N i with
  | none=>rw[hq]at this;cases this
  | some m=>rw[hq]at this;exact⟨m,rfl,(Mf this).symm⟩
 have ZJ:(Xb M id false).KT p≠[]:=(QfT V').2 ⟨i,mi,hmi,by rw[kS];exact n2,hi⟩;have hm:=mono hk ZJ;have xo:=b.low;refine⟨?_,ω,?_⟩
 .have hh:=h.act i n n1 n2 n4;obtain⟨m,a1,a2,a3,a4,a5,_⟩:=r1 i n n1 n2 n3 ZJ hh;have hp:=QEy (h.has i n n1 n2 n3 hh).1 a4 a5;exact⟨m,a1,by rw[a2];exact n2,by rw[a2];exact n3,hi,Ki n5 a5,by rw[a2];exact QMF n6 hp⟩
 .obtain⟨k,k1,k2,k3,k4,k5⟩:=b.j;rcases k5 with ⟨c1,c2⟩|⟨c1,c2⟩
  .obtain⟨m,a1,a2,a3⟩:=r2 j k k1 k2 c1;refine⟨m,a1,by rw[a2];exact k2,by rw[a2];exact k3,ω,.inl ⟨?_,ω⟩⟩;rw[<- Ys];intro ha;rw[Qnw W4 hA' ha]at c1;cases c1
  .obtain⟨m,a1,a2,a3,a4,a5,_⟩:=r1 j k k1 k2 k3 ZJ c1;have hp:=QEy (h.has j k k1 k2 k3 c1).1 a4 a5;refine⟨m,a1,by rw[a2];exact k2,by rw[a2];exact k3,ω,.inr ⟨a3,?_⟩⟩;rw[a2];have e:(m.QO - tj)*65536+k.QO*65536=(k.QO - tj)*65536+m.QO*65536:=by rw[Nat.sub_mul,Nat.sub_mul];have:tj*65536<=k.QO*65536:=X7 _ k4;have:k.QO*65536<=m.QO*65536:=X7 _ a5;omega
   exact QMG c2 e hp
def QMI{T}{p}{L Gv B}{i j}{low0 ti tj P0}(G:n8 T p L){M:Qk}(I:Qy M)(V:Inv M)(h:W2 T p Gv B M)(b:qo p i j low0 ti tj P0 M){now}{cls}{x:Pk}(I':Qy (Jx M now cls x))(V':Inv (Jx M now cls x))(W4:(Jx M now cls x).T=M.T)(hF':Qji (Jx M now cls x))
  (QGr:VR (Jx M now cls x)<=VR M+1) (hB:B<=1000000):qo p i j low0 ti tj P0 (Jx M now cls x):=by
 obtain⟨h',hk,mono,r⟩:=QEx G I V h I' V' W4 hF' QGr hB;obtain⟨n,n1,n2,n3,n4,n5,n6⟩:=b.i;have hk0:M.KT p≠[]:=(QfT V).2 ⟨i,n,n1,n2,n4⟩;have hm:=mono (hk hk0);have xo:=b.low;refine⟨?_,ω,?_⟩
 .obtain⟨m,a1,a2⟩:=r i n n1 n2 n3;rcases a2.st with ⟨e1,e2⟩|⟨e1,_⟩
  .rw[n4]at e2;exact⟨m,a1,by rw[a2.c];exact n2,by rw[a2.c];exact n3,e2,by rw[a2.QO];exact n5,by rw[a2.c,a2.QO,e1];exact n6⟩
  .rw[n4]at e1;cases e1
 .obtain⟨k,k1,k2,k3,k4,k5⟩:=b.j;obtain⟨m,a1,a2⟩:=r j k k1 k2 k3;refine⟨m,a1,by rw[a2.c];exact k2,by rw[a2.c];exact k3,by rw[a2.QO];exact k4,?_⟩;rw[a2.QO,a2.c];have Zp:0<(Je k.c.ls).b:=by
   obtain⟨_,l2,_⟩:=G.eR k.c (h.T_▸((J6 I.tree.rising).1 (I.some k1)).1) k2 k3;have:=G.l0;omega
  rcases a2.st with ⟨e1,e2⟩|⟨e1,e2,e3,e4,e5,e6⟩
  .rcases k5 with ⟨c1,c2⟩|⟨c1,c2⟩
   .exact .inl ⟨e2.trans c1,c2⟩
   .exact .inr ⟨by rw[e1];exact c1,by rw[e1];exact c2⟩
  .refine .inr ⟨e3,?_⟩;rcases k5 with ⟨c1,c2⟩|⟨c1,c2⟩
   .rw[c2,xg,Qkp,<- c2];have h1:=(e4.pot Zp).2;have h2:(Je k.c.ls).b*low0<=(Je k.c.ls).b*m.sh.time:=Md _ ω;omega
   .have:=e6 c1;omega
def QMJ{M:Qk}(I:Qy M)(V:Inv M)(Sy:∀c∈M.T,¬1<QR c.rt){now}(h:Xt M now=true):∃id,takeN M now=Xb (ZE M now) id false/\wO (ZE M now) now 17 0=some id/\Kh M now=(Qw M id).q.l.headD default:=by
 obtain⟨t1,t2,_⟩:=wQ M now;unfold Xt at h;unfold takeN Kh;cases hp:Sl M now with
 | none=>rw[hp]at h;cases h
 | some x=>
  have ZS:=hp;unfold Sl at hp;split at hp
  .unfold K8 at hp;have hr:=LB (ZE M now) now;split at hp
   .rename_i y hy;rw[hy]at hr;have hm:y∈(ZE M now).Lv:=(Jt.1 hr.1).1;obtain⟨n,h1,_,_,h4,_⟩:=((V.told now).lv y).1 hm;rw[t1]at h1;exact absurd h4 (Sy n.c ((J6 I.tree.rising).1 (I.some h1)).1)
   .obtain⟨id,h1,h2⟩:=VA.1 hp;exact⟨id,by rw[<- h2],h1,by rw[<- h2]⟩
  .cases hp
structure FaR (T:List Qq) (p:Int) (Gv B:Nat) (M M':Qk):Prop where
 I:W2 T p Gv B M'
 a:∀k,JV M' k=true->JV M k=true
 b:∀i j low0 ti tj P0,qo p i j low0 ti tj P0 M->JV M' i=true->qo p i j low0 ti tj P0 M'
def FaR.refl{T}{p}{Gv B}{M}(h:W2 T p Gv B M):FaR T p Gv B M M:=⟨h,λ_ h=>h,λ_ _ _ _ _ _ h _=>h⟩
def FaR.trans{T}{p}{Gv B}{M M' M''}(h:FaR T p Gv B M M')(h':FaR T p Gv B M' M''):FaR T p Gv B M M'':=
 ⟨h'.I,λk hk=>h.a k (h'.a k hk),λi j l t u P hb hi=>h'.b i j l t u P (h.b i j l t u P hb (h'.a i hi)) hi⟩
section
variable {T:List Qq}{p:Int}{L lm Gv B:Nat}(G:n8 T p L)(hG:∀m n,L<=m->n<=lm->cdiv (n*65536) m<=Gv)(hB:B<=1000000)
include G hG hB
theorem QEA{S:ZF}(TI:Jd S)(h:W2 T p Gv B S.M)(XF:S.M.lk.ZX.toNat=lm)(op):FaR T p Gv B S.M (Js S op S.Qf).1.M:=by
 have P:=(TI.GZ op);have Jp:=TI.K.l2;have Sy:∀c∈S.M.T,¬1<QR c.rt:=by rw[h.T_];exact G.rt
 have key:FaR T p Gv B S.M (takeN S.M S.Qf):=by
  have P:=TI.takeN;have I':Qy (takeN S.M S.Qf):=P.I;have V':Inv (takeN S.M S.Qf):=P.V;obtain⟨t1,t2,t3⟩:=wQ S.M S.Qf;have t4:=QEd S.M S.Qf;by_cases hs:Xt S.M S.Qf=true
  .obtain⟨id,e1,e2,e3⟩:=QMJ TI.I TI.V Sy hs;have DL:=TI.take_len hs;have hc:=Qy2 TI.I TI.V hs;have hT:=fZ S.M S.Qf;have hF:=h.F.takeN S.Qf;have ZU:Qw (ZE S.M S.Qf) id=Qw S.M id:=by unfold Qw;rw[t1]
   rw[e3]at DL;rw[e1]at I' V' hc hT hF ⊢;have h0:W2 T p Gv B (ZE S.M S.Qf):=h.same t2 t1 t3 t4;have hct:VR (ZE S.M S.Qf)=VR S.M:=QEi t2 t1;have hlen:((Qw (ZE S.M S.Qf) id).q.l.headD default).len.toNat<=lm:=by rw[ZU];omega
   have CP:(Xb (ZE S.M S.Qf) id false).T=(ZE S.M S.Qf).T:=by rw[t2];exact hT
   have I0:=vu TI.I S.Qf;have V0:=TI.V.told S.Qf;refine⟨(QEp G hG I0 V0 h0 e2 I' V' CP hF (by rw[hct];exact hc) hB ω hlen).1,λk hk=>?_,λi j low0 ti tj P0 hb hi=>?_⟩
   .have:=Qnw CP (QnX (ZE S.M S.Qf) id false) hk;unfold JV at this;rw[t2,t3]at this;exact this
   .exact QMH G hG I0 V0 h0 (hb.same t2 t1 t3 t4) e2 I' V' CP hF (by rw[hct];exact hc) hB ω hlen hi
  .have e:takeN S.M S.Qf=ZE S.M S.Qf:=by
    unfold Xt at hs;unfold takeN;cases hp:Sl S.M S.Qf with
    | none=>rfl
    | some x=>rw[hp]at hs;exact absurd rfl hs
   rw[e];exact⟨h.same t2 t1 t3 t4,λk hk=>by unfold JV at hk ⊢;rw[t2,t3]at hk;exact hk,λi j low0 ti tj P0 hb _=>hb.same t2 t1 t3 t4⟩
 unfold Js;split
 .exact FaR.refl h
 .split<;>exact key
theorem QEC{op e}(he:e<=4611686018427387904):∀(n:Nat) {S:ZF},Jd S->S.Qf<=e->W2 T p Gv B S.M->S.M.lk.ZX.toNat=lm->FaR T p Gv B S.M (Vg op e n S).1.M
 | 0,S,TI,h,F,XF=>FaR.refl F
 | n+1,S,TI,h,F,XF=>by
  unfold Vg;split
  .exact FaR.refl F
  .rename_i h2;have T1:=TI.at_ (gi S TI.cl) (show Zs S<=4611686018427387904 from ω);have R1:=QEA G hG hB T1 F XF op;have T2:=T1.GZ op;refine R1.trans (QEC he n T2 ?_ R1.I ?_)
   .have:=(OH { S with Qf:=Zs S } op (Zs S)).1;rw[this];show Zs S<=e;omega
   .unfold Js;split
    .exact XF
    .split
     .show (takeN S.M (Zs S)).lk.ZX.toNat=lm;rw[LD];exact XF
     .show (takeN S.M (Zs S)).lk.ZX.toNat=lm;rw[LD];exact XF
end
def Qn2{T}{p}{L lm Gv}(G:n8 T p L)(hG:∀m n,L<=m->n<=lm->cdiv (n*65536) m<=Gv){S:ZF}(TI:Jd S)(h:W2 T p Gv S.ops S.M)(hB:S.ops+1<=1000000)(XF:S.M.lk.ZX.toNat=lm){o:ZV}(ho:∀c∈o.changes,JN.Ok c)(hk:o.kind≠1):
  W2 T p Gv (S.ops+1) (JM S o).S.M/\∀i j low0 ti tj P0,qo p i j low0 ti tj P0 S.M->JV (JM S o).S.M i=true->qo p i j low0 ti tj P0 (JM S o).S.M:=by
 have h1:W2 T p Gv (S.ops+1) S.M:=h.mono (Nat.le_succ _);have same:W2 T p Gv (S.ops+1) S.M/\∀i j low0 ti tj P0,qo p i j low0 ti tj P0 S.M->JV S.M i=true->qo p i j low0 ti tj P0 S.M:=⟨h1,λ_ _ _ _ _ _ hb _=>hb⟩;have T0:=TI.ops (S.ops+1);show W2 T p Gv (S.ops+1) (VX { S with ops:=S.ops+1 } S.ops o).S.M/\∀i j low0 ti tj P0,qo p i j low0 ti tj P0 S.M->JV (VX { S with ops:=S.ops+1 } S.ops o).S.M i=true->qo p i j low0 ti tj P0 (VX { S with ops:=S.ops+1 } S.ops o).S.M;unfold VX;rw[Qc hk];split
 .split<;>exact same
 .split
  .unfold YR;split
   .exact same
   .have T1:=T0.put (Kr S.R (ZR o.ZI)) o.ZI;have I':Qy (Jx S.M S.Qf (Kr S.R (ZR o.ZI)) o.ZI):=T1.I;have V':Inv (Jx S.M S.Qf (Kr S.R (ZR o.ZI)) o.ZI):=T1.V;have hT:=uo S.M S.Qf (Kr S.R (ZR o.ZI)) o.ZI;have hF:=h.F.Jx S.Qf (Kr S.R (ZR o.ZI)) o.ZI;have hc:VR (Jx S.M S.Qf (Kr S.R (ZR o.ZI)) o.ZI)<=VR S.M+1:=by
     by_cases hp:km S.M S.Qf (Kr S.R (ZR o.ZI)) o.ZI=0
     .rw[QMf TI.I I' hp];exact QB _
     .rw[QMg hp];exact Nat.le_succ _
    have F1:=(QEx G TI.I TI.V h I' V' hT hF hc ω).1;have b1:=λi j low0 ti tj P0 (hb:qo p i j low0 ti tj P0 S.M)=>QMI G TI.I TI.V h hb I' V' hT hF hc ω;split
    .have T2:=T1.Jc (Kr S.R (ZR o.ZI)) S.Qf (by have:=TI.cl;omega);have R:=QEA (S:={ S with ops:=S.ops+1,M:=Jx S.M S.Qf (Kr S.R (ZR o.ZI)) o.ZI,st:=vw S.st (Kr S.R (ZR o.ZI)) S.Qf }) G hG hB T2 F1 (by show (Jx S.M S.Qf (Kr S.R (ZR o.ZI)) o.ZI).lk.ZX.toNat=lm;rw[LC];exact XF) S.ops;exact⟨R.I,λi j low0 ti tj P0 hb hi=>R.b i j low0 ti tj P0 (b1 i j low0 ti tj P0 hb) hi⟩
    .exact⟨F1,λi j low0 ti tj P0 hb _=>b1 i j low0 ti tj P0 hb⟩
  .split
   .unfold qZ;split
    .exact same
    .have Z7:=TI.cl;rename_i Qb;have Qb:¬(4611686018427387904 - S.Qf<o.Wi.toNat):=Qb;have R:=QEC (S:={ S with ops:=S.ops+1 }) G hG hB (op:=S.ops) (e:=S.Qf+o.Wi.toNat) ω (VR S.M+1) T0 (by show S.Qf<=S.Qf+_;omega) h1 XF;exact⟨R.I,R.b⟩
   .exact same
def QMK{c}(b)(l:List JN):∀id n,Qh (K0 (M0 c) b l).N id=some n->n.QO=0/\n.sh.has=false:=by
 unfold K0;split
 .have h1:∀(L:List Int) (T2:List Qq) (M:Qk),(∀id n,Qh M.N id=some n->n.QO=0/\n.sh.has=false)->∀id n,Qh (L.foldl (JP T2) M).N id=some n->n.QO=0/\n.sh.has=false:=by
   intro L T2;induction L with
   | nil=>intro M h;exact h
   | cons i L ih=>
    intro M h;refine ih _ λid n hn=>?_;unfold JP at hn;split at hn
    .rw[BD]at hn;split at hn
     .cases hn
     .exact h id n hn
    .have go:∀(k:Qq) (N:List Nd),Qh (Xs k::zA N i) id=some n->(∀n,Qh N id=some n->n.QO=0/\n.sh.has=false)->n.QO=0/\n.sh.has=false:=λk N hn h=>by
      unfold Qh at hn;rw[jl]at hn;split at hn
      .cases hn;exact⟨rfl,rfl⟩
      .have KO:Qh (zA N i) id=some n:=hn;rw[BD]at KO;split at KO
       .cases KO
       .exact h n KO
     split at hn
     .exact go _ _ hn (h id)
     .exact go _ _ hn (h id)
  have h2:=h1 (Kf (M0 c).T (JA (M0 c).T l)) (JA (M0 c).T l) { M0 c with T:=JA (M0 c).T l } (λid n hn=>by simp[M0,Qh]at hn);intro id n hn;have hm:n∈Xc (M0 c) (JA (M0 c).T l):=kF hn;obtain⟨k,_,rfl⟩:=Z2.1 hm;unfold Qw Vq;cases hf:Qh ((Kf (M0 c).T (JA (M0 c).T l)).foldl (JP (JA (M0 c).T l)) { M0 c with T:=JA (M0 c).T l }).N k.iD with
  | none=>exact⟨rfl,rfl⟩
  | some n=>exact h2 k.iD n hf
 .intro id n hn;simp[M0,Qh]at hn
def QED(S:ZF)(op now:Nat):(Js S op now).1.M.lk=S.M.lk:=by
 unfold Js;split
 .rfl
 .split<;>exact LD _ _
def QEE(op e):∀(n:Nat) (S:ZF),(Vg op e n S).1.M.lk=S.M.lk
 | 0,S=>rfl
 | n+1,S=>by
  unfold Vg;split
  .rfl
  .exact(QEE op e n _).trans (QED { S with Qf:=Zs S } op (Zs S))
def QEZ(S:ZF)(o:ZV):(JM S o).S.M.lk=S.M.lk:=by
 show (VX { S with ops:=S.ops+1 } S.ops o).S.M.lk=S.M.lk;unfold VX;split
 .exact OE _ _ _
 .split
  .split<;>rfl
  .split
   .unfold YR;split
    .rfl
    .split
     .exact(QED _ _ _).trans (LC _ _ _ _)
     .exact LC _ _ _ _
   .split
    .unfold qZ;split
     .rfl
     .exact QEE _ _ _ _
    .rfl
def Qll(S:ZF)(l:List ZV){k}(hk:k<l.length):(Zn S (l.take (k+1))).1=(JM (Zn S (l.take k)).1 (l.getD k default)).S:=by
 have e:l.take (k+1)=l.take k++[l.getD k default]:=by
  rw[Fo,QP hk,Q5,QP hk];rfl
 rw[e,Qix];rfl
def QML{c:Cf}{o:ZV}(ho:∀a∈o.changes,JN.Ok a){T}{p}{L lm Gv}(K:WM c)(hT:(JM (S0 c) o).S.M.T=T)(G:n8 T p L)(hG:∀m n,L<=m->n<=lm->cdiv (n*65536) m<=Gv)(XF:c.ZX.toNat=lm):
  W2 T p Gv 1 (JM (S0 c) o).S.M:=by
 by_cases hk:o.kind=1
 .have hS:(JM (S0 c) o).S.M=K0 (M0 c) (decide ((S0 c).XI<=(S0 c).Qf)) o.changes:=by
   show (VX { S0 c with ops:=(S0 c).ops+1 } (S0 c).ops o).S.M=_;unfold VX;rw[Qd hk];rfl
  have V:=((Jd.gM K).do ho).V;have F0:Qji (M0 c):=λn hn=>(by cases hn);have Fc:=F0.K0 (Qhn c) (decide ((S0 c).XI<=(S0 c).Qf)) ho;rw[hS]at V hT ⊢;have hn:=QMK (c:=c) (decide ((S0 c).XI<=(S0 c).Qf)) o.changes;have hq:=QyP (c:=c) (decide ((S0 c).XI<=(S0 c).Qf)) o.changes;generalize K0 (M0 c) (decide ((S0 c).XI<=(S0 c).Qf)) o.changes=M at *;have h0:VR M=0:=by
   have h1:=ud (λk=>(Zj M k.iD).length) 0 M.T λk hk=>by rw[hq];exact QB _
   unfold VR;omega
  refine⟨hT,Fc,λ_ j n hj _=>(hn j n hj).2,λj n hj _ _ hh=>?_,λj n hj _ ha=>?_,λj n hj=>?_⟩
  .rw[(hn j n hj).2]at hh;cases hh
  .exfalso;obtain⟨a,ha,_⟩:=XU.1 ha;obtain⟨m,h1,_,h3,_⟩:=(V.act a).1 ha;have:=hq a;unfold Zj Qw at this;rw[h1]at this;exact h3 this
  .rw[(hn j n hj).1,h0];exact Jh _
 .have iw:W2 [] p Gv (S0 c).ops (S0 c).M:=⟨rfl,λn hn=>(by cases hn),λ_ j n hj=>(by cases hj),λj n hj=>(by cases hj),λj n hj=>(by cases hj),λj n hj=>(by cases hj)⟩;have G0:n8 [] p L:=⟨λc hc=>(by cases hc),λc hc=>(by cases hc),λc hc=>(by cases hc),G.l0⟩;have h1:=(Qn2 G0 hG (Jd.gM K) iw (by show 0+1<=1000000;decide) XF ho hk).1;have:T=[]:=by rw[<- hT];exact h1.T_
  rw[this];exact h1
section
variable {c:Cf}(K:WM c){l:List ZV}(hl:∀o∈l,ZV.Ok o)(hlen:l.length<=1000)(hs:∀k,k<l.length->0<k->(l.getD k default).kind≠1){T:List Qq}(hT:(Zn (S0 c) (l.take 1)).1.M.T=T){p:Int}{L lm Gv:Nat}(G:n8 T p L)(hG:∀m n,L<=m->n<=lm->cdiv (n*65536) m<=Gv)(XF:c.ZX.toNat=lm)
include K hl hlen hs hT G hG XF
theorem Qni:∀k,0<k->k<=l.length->Jd (Zn (S0 c) (l.take k)).1/\W2 T p Gv k (Zn (S0 c) (l.take k)).1.M/\(Zn (S0 c) (l.take k)).1.M.lk=c/\(Zn (S0 c) (l.take k)).1.ops=k
 | 0,h,_=>absurd h (Mb 0)
 | 1,_,hk=>by
  have ho:=hl _ (qg l default 0 ω);have nx:=Qll (S0 c) l (k:=0) ω;rw[nx]at hT ⊢;exact⟨(Jd.gM K).do ho.2.1.2,QML ho.2.1.2 K hT G hG XF,QEZ _ _,QiC _ _⟩
 | k+2,_,hk=>by
  obtain⟨TI,F,e1,e2⟩:=Qni (k+1) ω ω;have ho:=hl _ (qg l default (k+1) ω);have nx:=Qll (S0 c) l (k:=k+1) ω;rw[nx];have F':W2 T p Gv (Zn (S0 c) (l.take (k+1))).1.ops (Zn (S0 c) (l.take (k+1))).1.M:=by rw[e2];exact F
  have h1:=(Qn2 G hG TI F' ω (by rw[e1];exact XF) ho.2.1.2 (hs (k+1) ω ω)).1;rw[e2]at h1;exact⟨TI.do ho.2.1.2,h1,(QEZ _ _).trans e1,by rw[QiC,e2]⟩
theorem QE0{i j}{low0 ti tj P0 k}(hk0:0<k)(hb:qo p i j low0 ti tj P0 (Zn (S0 c) (l.take k)).1.M):∀d,k+d<=l.length->(∀q,k<=q->q<=k+d->JV (Zn (S0 c) (l.take q)).1.M i=true)->qo p i j low0 ti tj P0 (Zn (S0 c) (l.take (k+d))).1.M
 | 0,_,_=>hb
 | d+1,hk,ha=>by
  have ih:=QE0 hk0 hb d ω λq h1 h2=>ha q h1 ω;obtain⟨TI,F,e1,e2⟩:=Qni K hl hlen hs hT G hG XF (k+d) ω ω;have ho:=hl _ (qg l default (k+d) ω);have nx:=Qll (S0 c) l (k:=k+d) ω;have jV:=ha (k+d+1) ω ω;rw[nx]at jV;show qo p i j low0 ti tj P0 (Zn (S0 c) (l.take (k+d+1))).1.M;rw[nx];have F':W2 T p Gv (Zn (S0 c) (l.take (k+d))).1.ops (Zn (S0 c) (l.take (k+d))).1.M:=by rw[e2];exact F
  exact(Qn2 G hG TI F' ω (by rw[e1];exact XF) ho.2.1.2 (hs (k+d) ω ω)).2 _ _ _ _ _ _ ih jV
end
def QMM{z t n P K:Nat}(h:z+t*K=P+n*K)(h2:t<=n):z=P+(n - t)*K:=by
 have:=X7 K h2;rw[Nat.sub_mul];omega
def QMN{a b c d u v}(h:a<=b+c+v+d)(h2:u+b<=a+c+d):u<=v+(2*c+2*d):=ω
def QMO{mi mj x y low0 low' Gv P0}(A:mi*low'<P0+y+mi)(A2:P0<=mi*(low0+Gv))(B:x+mj*low0<=mj*(low'+Gv)+mj):x*mi<=y*mj+(2*Gv+2)*(mi*mj):=by
 have a1:mi*low'<=mi*(low0+Gv)+y+mi:=Ki (Nat.le_of_lt A) (Ql6 (Ql6 A2 _) _);have a3:=Md mj a1;have b3:=Md mi B;simp only[Qe0]at a3 b3;have e1:mi*(mj*low0)=mj*(mi*low0):=Qkl _ _ _;have e2:mi*(mj*low')=mj*(mi*low'):=Qkl _ _ _;have e3:mi*(mj*Gv)=mj*(mi*Gv):=Qkl _ _ _;rw[e1,e2,e3,Mc mi x,Mc mi mj]at b3;rw[Mc mj y]at a3;have e7:(2*Gv+2)*(mi*mj)=2*(mj*(mi*Gv))+2*(mj*mi):=by
  rw[Vz,Pw,Mc mi mj,Mc Gv,Pw]
 rw[e7];exact QMN a3 b3
def qo.start{T}{p}{L Gv B}(G:n8 T p L){M:Qk}(I:Qy M)(V:Inv M)(h:W2 T p Gv B M){i j}{n m:Nd}(hi:Qh M.N i=some n)(hip:n.c.parent=p)(ha:JV M i=true)(hj:Qh M.N j=some m)(hjp:m.c.parent=p)(hjs:1<QR m.c.ls):
  qo p i j (Ld (M.KT p)) n.QO m.QO (cz (Je n.c.ls).b n.QO n.sh) M/\cz (Je n.c.ls).b n.QO n.sh<=(Je n.c.ls).b*(Ld (M.KT p)+Gv):=by
 have eR:=λj n (hn:Qh M.N j=some n) (hp:n.c.parent=p) (hs:1<QR n.c.ls)=>G.eR n.c (h.T_▸((J6 I.tree.rising).1 (I.some hn)).1) hp hs;have ql:=G.l0;have his:=Qng I hi ha;obtain⟨e1,e2,_⟩:=h.has i n hi hip his (h.act i n hi hip ha);have hb:=(eR i n hi hip his).2.1;refine⟨⟨⟨n,hi,hip,his,ha,QB _,rfl⟩,QB _,⟨m,hj,hjp,hjs,QB _,?_⟩⟩,Ki (e1.pot ω).1 (Md _ e2)⟩;cases jV:JV M j with
 | false=>exact .inl ⟨rfl,rfl⟩
 | true=>
  have hh:=h.act j m hj hjp jV;have hbj:=(eR j m hj hjp hjs).2.1;have hp:=((h.has j m hj hjp hjs hh).1.pot ω).2;have hl:=Qnu V hj jV;rw[hjp]at hl;refine .inr ⟨hh,?_⟩;rw[xg,Qkp,JD];exact Nat.le_of_lt (Pv (Md _ hl) hp)
def qo.fin{T}{p}{L Gv B}(G:n8 T p L){M:Qk}(I:Qy M)(V:Inv M)(h:W2 T p Gv B M){i j}{low0 ti tj P0}(b:qo p i j low0 ti tj P0 M){n m:Nd}(hi:Qh M.N i=some n)(hj:Qh M.N j=some m)(hP:P0<=(Je n.c.ls).b*(low0+Gv)):
  ti<=n.QO/\tj<=m.QO/\(m.QO - tj)*65536*(Je n.c.ls).b<=(n.QO - ti)*65536*(Je m.c.ls).b+(2*Gv+2)*((Je n.c.ls).b*(Je m.c.ls).b):=by
 have eR:=λj n (hn:Qh M.N j=some n) (hp:n.c.parent=p) (hs:1<QR n.c.ls)=>G.eR n.c (h.T_▸((J6 I.tree.rising).1 (I.some hn)).1) hp hs;have ql:=G.l0;obtain⟨n',n1,n2,n3,n4,n5,n6⟩:=b.i;rw[hi]at n1;cases n1;obtain⟨m',m1,m2,m3,m4,m5⟩:=b.j;rw[hj]at m1;cases m1;refine⟨n5,m4,?_⟩;rcases m5 with ⟨_,c2⟩|⟨c1,c2⟩
 .simp only[c2,xg,Qkp,Jh]
 .have hbi:=(eR i n hi n2 n3).2.1;have hbj:=(eR j m hj m2 m3).2.1;have hh:=h.act i n hi n2 n4;have hl:=Qnu V hi n4;rw[n2]at hl;have p1:=((h.has i n hi n2 n3 hh).1.pot ω).2;obtain⟨f1,f2,_⟩:=h.has j m hj m2 m3 c1;have p2:=(f1.pot ω).1;have q1:=Md (Je n.c.ls).b hl;have q2:=Md (Je m.c.ls).b f2;have e:cz (Je n.c.ls).b n.QO n.sh=P0+(n.QO - ti)*65536:=by
   exact QMM n6 n5
  refine QMO (low0:=low0) (low':=Ld (M.KT p)) (P0:=P0) ?_ hP ?_
  .rw[<- e];exact Pv q1 p1
  .exact Ki c2 (Ql6 (Ki p2 q2) _)
def QMQ{c:Qq}(hr:KN c=0)(hn:c.ls.Nn)(h1:1<QR c.ls)(hd:c.ls.d=0):(Je c.ls).of=2/\(Je c.ls).b=c.ls.m2.toNat/\0<(Je c.ls).b/\LN (Je c.ls):=by
 obtain⟨a1,a2,a3⟩:=hn;have hof:(Je c.ls).of=2/\c.ls.m1=c.ls.m2/\c.ls.m2<=4294967295/\c.ls.m1≠0:=by
  unfold QR at h1;unfold Nc.of Vp Je;dsimp only
  (repeat' split at h1)<;>(try omega)<;>(repeat' split)<;>omega
 have e1:(Je c.ls).a=c.ls.m1.toNat:=rfl;have e2:(Je c.ls).b=c.ls.m2.toNat:=rfl;have e3:(Je c.ls).d=c.ls.d.toNat:=rfl;exact⟨hof.1,rfl,ω,⟨.inl hof.1,ω,ω,ω,λh=>ω,λh=>ω⟩⟩
def okF(p:Int)(c:Qq):Bool:=(!decide (1<QR c.rt)&&!decide (1<QR c.ul))&&(!(decide (c.parent=p)&&decide (1<QR c.ls)) || decide (c.ls.d=0))
def mq(p:Int)(m:Nat)(c:Qq):Nat:=if c.parent=p/\1<QR c.ls then min m c.ls.m2.toNat else m
def Tc(T:List Qq)(p:Int):Nat:=if T.all (okF p) then T.foldl (mq p) 4294967296 else 0
def QMR(p)(m)(c):mq p m c<=m:=by
 unfold mq;split<;>omega
def Qn4(p):∀(T:List Qq) (m:Nat),T.foldl (mq p) m<=m/\∀c∈T,c.parent=p->1<QR c.ls->T.foldl (mq p) m<=c.ls.m2.toNat
 | [],m=>⟨QB _,λc hc=>(by cases hc)⟩
 | a::T,m=>by
  obtain⟨h1,h2⟩:=Qn4 p T (mq p m a);refine⟨Ki h1 (QMR p m a),λc hc hp hs=>?_⟩;rcases QD.1 hc with rfl|hc
  .refine Ki h1 ?_;unfold mq;rw[Qd ⟨hp,hs⟩];exact Nat.min_le_right _ _
  .exact h2 c hc hp hs
def QHP(p):∀(T:List Qq) (m:Nat),0<m->(∀c∈T,c.parent=p->1<QR c.ls->0<c.ls.m2.toNat)->0<T.foldl (mq p) m
 | [],m,h,_=>h
 | a::T,m,h,hp=>by
  refine QHP p T _ ?_ λc hc=>hp c (JR _ hc);unfold mq;split
  .rename_i h1;have:=hp a J2 h1.1 h1.2;omega
  .exact h
def QE2{T}{p}(I:JG T)(Kl:kb T)(h:Tc T p≠0):n8 T p (Tc T p):=by
 unfold Tc at h ⊢;split at h;case isFalse=>exact absurd rfl h
 rename_i ha;rw[Qd ha]at *;have hk:=λc hc=>XK.1 ha c hc;have hd:∀c∈T,c.parent=p->1<QR c.ls->c.ls.d=0:=λc hc hp hs=>by
  have h1:=hk c hc;unfold okF at h1;rw[QU hp,QU hs]at h1;simp at h1;exact h1.2
 refine⟨λc hc hr=>?_,λc hc hr=>?_,λc hc hp hs=>?_,Qko h⟩
 .have h1:=hk c hc;unfold okF at h1;rw[QU hr]at h1;simp at h1
 .have h1:=hk c hc;unfold okF at h1;rw[QU hr]at h1;simp at h1
 .obtain⟨e1,e2,_,e3⟩:=QMQ (I.right c hc) (Kl c hc).nn.2.1 hs (hd c hc hp hs);exact⟨e1,e2▸(Qn4 p T _).2 c hc hp hs,e3⟩
def QE3{x d k}(hd:0<d):cdiv x d<=k↔x<=k*d:=by
 unfold cdiv;rw[<- Nat.lt_succ_iff,Nat.div_lt_iff_lt_mul hd,Nat.succ_mul];omega
def QE4{n m L lm}(h0:0<L)(h1:L<=m)(h2:n<=lm):cdiv (n*65536) m<=cdiv (lm*65536) L:=by
 rw[QE3 ω];have e:=(QE3 (x:=lm*65536) (k:=cdiv (lm*65536) L) h0).1 (QB _);exact Ki (X7 _ h2) (Ki e (Md _ h1))
def QHQ{c:Qq}{T}(I:JG T)(Kl:kb T)(hc:c∈T)(hs:1<QR c.ls)(hd:c.ls.d=0):0<c.ls.m2.toNat/\c.ls.m2.toNat<=4294967295:=by
 obtain⟨e1,e2,e3,e4⟩:=QMQ (I.right c hc) (Kl c hc).nn.2.1 hs hd;exact⟨e2▸e3,e2▸e4.b⟩
def QE5{c}(K:WM c){l:List ZV}(hl:∀o∈l,ZV.Ok o)(hlen:l.length<=1000)(hs:∀k,k<l.length->0<k->(l.getD k default).kind≠1){T}(hT:(Zn (S0 c) (l.take 1)).1.M.T=T){i j}{ci cj}
  (hi:Qx T i=some ci) (hj:Qx T j=some cj) (hp:cj.parent=ci.parent) (zY:1<QR cj.ls) (hL:Tc T ci.parent≠0) {a b:Nat} (xl:0<a) (Vu:a<=b) (hb:b<=l.length) (xv:∀q,a<=q->q<=b->JV (Zn (S0 c) (l.take q)).1.M i=true) :
  ∃n m n' m',Qh (Zn (S0 c) (l.take a)).1.M.N i=some n/\Qh (Zn (S0 c) (l.take a)).1.M.N j=some m/\Qh (Zn (S0 c) (l.take b)).1.M.N i=some n'/\Qh (Zn (S0 c) (l.take b)).1.M.N j=some m' /\
   n.c=ci/\m.c=cj/\n'.c=ci/\m'.c=cj/\n.QO<=n'.QO/\m.QO<=m'.QO/\n'.QO<=b*16384/\m'.QO<=b*16384 /\
   (m'.QO - m.QO)*65536*ci.ls.m2.toNat<=(n'.QO - n.QO)*65536*cj.ls.m2.toNat+(2*cdiv (c.ZX.toNat*65536) (Tc T ci.parent)+2)*(ci.ls.m2.toNat*cj.ls.m2.toNat):=by
 obtain⟨p,Wb⟩:∃p,ci.parent=p:=⟨_,rfl⟩;rw[Wb]at hp hL ⊢;have one:Jd (Zn (S0 c) (l.take 1)).1:=by
  have nx:=Qll (S0 c) l (k:=0) ω;rw[nx];exact(Jd.gM K).do (hl _ (qg l default 0 ω)).2.1.2
 have G:n8 T p (Tc T p):=QE2 (hT▸one.I.tree) (hT▸one.I.wK) hL;have hG:∀m n,Tc T p<=m->n<=c.ZX.toNat->cdiv (n*65536) m<=cdiv (c.ZX.toNat*65536) (Tc T p):=λm n h1 h2=>QE4 (Qko hL) h1 h2;obtain⟨Ta,Fa,_,_⟩:=Qni K hl hlen hs hT G hG rfl a xl ω;obtain⟨Tb,Fb,_,_⟩:=Qni K hl hlen hs hT G hG rfl b ω hb;obtain⟨n,hn,en⟩:=Ta.I.Lb (by rw[Fa.T_];exact hi);obtain⟨m,hm,em⟩:=Ta.I.Lb (by rw[Fa.T_];exact hj);obtain⟨n',hn',en'⟩:=Tb.I.Lb (by rw[Fb.T_];exact hi);obtain⟨m',Mp,em'⟩:=Tb.I.Lb (by rw[Fb.T_];exact hj);obtain⟨B,hP⟩:=qo.start G Ta.I Ta.V Fa hn (by rw[en];exact Wb) (xv a (QB _) Vu) hm (by rw[em];exact hp) (by rw[em];exact zY);obtain⟨d,rfl⟩:∃d,b=a+d:=⟨b - a,ω⟩;have B':=QE0 K hl hlen hs hT G hG rfl xl B d hb xv;have f:=qo.fin G Tb.I Tb.V Fb B' hn' Mp (by rw[en'.trans en.symm];exact hP);have tn:=Fb.QO i n' hn';have tm:=Fb.QO j m' Mp;rw[en',em']at f;exact⟨n,m,n',m',hn,hm,hn',Mp,en,em,en',em',f.1,f.2.1,Ki (Qib _ _) tn,Ki (Qib _ _) tm,f.2.2⟩
def qi(p:Int)(c:Qq):Bool:=decide (c.parent=p)&&decide (1<QR c.ls)
def ni(T:List Qq)(p:Int):List Nat:=if T.all (okF p) then (T.filter (qi p)).map (λc=>c.ls.m2.toNat) else []
def r6(M:Qk)(id:Int):Nat:=match Qh M.N id with|some n=>n.QO|none=>0
def Qnq(M:Qk)(L:List Qq):Nat:=(L.map λc=>r6 M c.iD).sum
def QHR(p):∀(T:List Qq) (m:Nat),T.foldl (mq p) m=((T.filter (qi p)).map (λc=>c.ls.m2.toNat)).foldl min m
 | [],m=>rfl
 | a::T,m=>by
  rw[kD,QHR p T];unfold mq;by_cases h:a.parent=p/\1<QR a.ls
  .have hb:qi p a=true:=by unfold qi;rw[QU h.1,QU h.2];rfl
   rw[Qd h,Pe hb,JQ,kD]
  .have hb:¬qi p a=true:=λe=>h (by unfold qi at e;simpa using e);rw[Qc h,Pd hb]
def QOY:∀(L:List Nat) (A B:Nat),L≠[]->(∀x∈L,x<=A/\x<=B)->L.foldl min A=L.foldl min B
 | [],_,_,h,_=>absurd rfl h
 | x::L,A,B,_,h=>by
  have:=h x J2;rw[kD,kD,Uv this.1,Uv this.2]
def QwX{T:List Qq}{p:Int}(I:JG T)(Kl:kb T)(h:ni T p≠[]):Tc T p≠0/\(∀A,4294967295<=A->(ni T p).foldl min A=Tc T p)/\(∀x∈ni T p,0<x/\x<=4294967295)/\(ni T p).length<=64/\ni T p=(T.filter (qi p)).map (λc=>c.ls.m2.toNat):=by
 have e0:ni T p=(T.filter (qi p)).map (λc=>c.ls.m2.toNat)/\T.all (okF p)=true:=by
  unfold ni at h ⊢;split at h
  .rename_i h1;rw[Qd h1];exact⟨rfl,h1⟩
  .exact absurd rfl h
 obtain⟨e,ha⟩:=e0;have hk:=λc hc=>XK.1 ha c hc;have hd:∀c∈T,c.parent=p->1<QR c.ls->c.ls.d=0:=λc hc hp hs=>by
  have h1:=hk c hc;unfold okF at h1;rw[QU hp,QU hs]at h1;simp at h1;exact h1.2
 have hx:∀x∈ni T p,0<x/\x<=4294967295:=λx hx=>by
  rw[e]at hx;obtain⟨c,hc,rfl⟩:=Z2.1 hx;obtain⟨h1,h2⟩:=Jt.1 hc;unfold qi at h2;simp only[Zy,XL]at h2;exact QHQ I Kl h1 h2.2 (hd c h1 h2.1 h2.2)
 have hl:Tc T p=(ni T p).foldl min 4294967296:=by
  unfold Tc;rw[Qd ha,QHR,e]
 refine⟨?_,λA hA=>?_,hx,?_,e⟩
 .unfold Tc;rw[Qd ha];have:=QHP p T 4294967296 π λc hc hp hs=>(QHQ I Kl hc hs (hd c hc hp hs)).1;omega
 .rw[hl];exact QOY _ _ _ h λx xp=>by have:=hx x xp;omega
 .rw[e,J1];exact Ki (Xx _ _) I.len
def QOZ{b a B A di m M mi K}(h1:a<=b)(h2:(b - a)*65536*mi<=di*65536*m+K*(mi*m))(h3:A<=B)(h4:(B - A)*65536*mi<=di*65536*M+K*(mi*M)):a+A<=b+B/\(b+B - (a+A))*65536*mi<=di*65536*(m+M)+K*(mi*(m+M)):=by
 refine⟨Nat.add_le_add h1 h3,?_⟩;have e:b+B - (a+A)=(b - a)+(B - A):=ω;rw[e,Vz,Vz,Qe0,Qe0,Qe0];omega
def QHS{mi K di}(A B):∀L:List Qq,(∀c∈L,A c<=B c/\(B c - A c)*65536*mi<=di*65536*c.ls.m2.toNat+K*(mi*c.ls.m2.toNat)) ->
  (L.map A).sum<=(L.map B).sum/\((L.map B).sum - (L.map A).sum)*65536*mi<=di*65536*(L.map λc=>c.ls.m2.toNat).sum+K*(mi*(L.map λc=>c.ls.m2.toNat).sum)
 | [],_=>σ
 | c::L,h=>by
  obtain⟨h1,h2⟩:=h c J2;obtain⟨h3,h4⟩:=QHS A B L λc hc=>h c (JR _ hc);simp only[JQ,Qn9];exact QOZ h1 h2 h3 h4
def QHT(B:Qq->Nat)(X):∀L:List Qq,(∀c∈L,B c<=X)->(L.map B).sum<=L.length*X
 | [],_=>σ
 | c::L,h=>by
  have h1:=h c J2;have h2:=QHT B X L λc hc=>h c (JR _ hc);simp only[JQ,Qn9,Kv,Vz,Me];omega
def QO0{c}(K:WM c){l:List ZV}(hl:∀o∈l,ZV.Ok o)(hlen:l.length<=1000)(hs:∀k,k<l.length->0<k->(l.getD k default).kind≠1){T}(hT:(Zn (S0 c) (l.take 1)).1.M.T=T){i}{ci}
  (hi:Qx T i=some ci) (hsi:1<QR ci.ls) (hL:ni T ci.parent≠[]) {a b:Nat} (xl:0<a) (Vu:a<=b) (hb:b<=l.length) (xv:∀q,a<=q->q<=b->JV (Zn (S0 c) (l.take q)).1.M i=true) :
  r6 (Zn (S0 c) (l.take a)).1.M i<=r6 (Zn (S0 c) (l.take b)).1.M i /\
  Qnq (Zn (S0 c) (l.take a)).1.M (T.filter (qi ci.parent))<=Qnq (Zn (S0 c) (l.take b)).1.M (T.filter (qi ci.parent)) /\
  Qnq (Zn (S0 c) (l.take b)).1.M (T.filter (qi ci.parent))<=1048576000 /\
  (Qnq (Zn (S0 c) (l.take b)).1.M (T.filter (qi ci.parent)) - Qnq (Zn (S0 c) (l.take a)).1.M (T.filter (qi ci.parent)))*65536*ci.ls.m2.toNat <=
   (r6 (Zn (S0 c) (l.take b)).1.M i - r6 (Zn (S0 c) (l.take a)).1.M i)*65536*(ni T ci.parent).sum+(2*cdiv (c.ZX.toNat*65536) (Tc T ci.parent)+2)*(ci.ls.m2.toNat*(ni T ci.parent).sum):=by
 have one:Jd (Zn (S0 c) (l.take 1)).1:=by
  have nx:=Qll (S0 c) l (k:=0) ω;rw[nx];exact(Jd.gM K).do (hl _ (qg l default 0 ω)).2.1.2
 have IT:JG T:=hT▸one.I.tree;have KT:kb T:=hT▸one.I.wK;obtain⟨h0,_,_,_,eL⟩:=QwX IT KT hL;have go:∀cj∈T.filter (qi ci.parent),r6 (Zn (S0 c) (l.take a)).1.M cj.iD<=r6 (Zn (S0 c) (l.take b)).1.M cj.iD/\(r6 (Zn (S0 c) (l.take b)).1.M cj.iD - r6 (Zn (S0 c) (l.take a)).1.M cj.iD)*65536*ci.ls.m2.toNat <=
   (r6 (Zn (S0 c) (l.take b)).1.M i - r6 (Zn (S0 c) (l.take a)).1.M i)*65536*cj.ls.m2.toNat+(2*cdiv (c.ZX.toNat*65536) (Tc T ci.parent)+2)*(ci.ls.m2.toNat*cj.ls.m2.toNat) /\
   r6 (Zn (S0 c) (l.take b)).1.M cj.iD<=b*16384/\r6 (Zn (S0 c) (l.take a)).1.M i<=r6 (Zn (S0 c) (l.take b)).1.M i:=λcj hcj=>by
  obtain⟨h1,h2⟩:=Jt.1 hcj;unfold qi at h2;simp only[Zy,XL]at h2;have hj:=(J6 IT.rising).2 ⟨h1,rfl⟩;obtain⟨n,m,n',m',f1,f2,f3,f4,_,_,_,_,g1,g2,g3,g4,g5⟩:=QE5 K hl hlen hs hT hi hj h2.1 h2.2 h0 xl Vu hb xv;unfold r6;rw[f1,f2,f3,f4];exact⟨g2,g5,g4,g1⟩
 have s:=QHS (λcj=>r6 (Zn (S0 c) (l.take a)).1.M cj.iD) (λcj=>r6 (Zn (S0 c) (l.take b)).1.M cj.iD) (T.filter (qi ci.parent)) λcj hcj=>⟨(go cj hcj).1,(go cj hcj).2.1⟩;have B:=QHT (λcj=>r6 (Zn (S0 c) (l.take b)).1.M cj.iD) 16384000 (T.filter (qi ci.parent)) λcj hcj=>by
  have:=(go cj hcj).2.2.1;show r6 (Zn (S0 c) (l.take b)).1.M cj.iD<=16384000;omega
 have hlT:=Ki (Xx (qi ci.parent) T) IT.len;obtain⟨kS,Q8⟩:=(J6 IT.rising).1 hi;refine⟨(go ci (Jt.2 ⟨kS,by unfold qi;simp[hsi]⟩)).2.2.2,s.1,?_,?_⟩
 .have h2:=X7 16384000 hlT;exact Ki B (Ki h2 π)
 .rw[eL];exact s.2
def QO3{m q K s di}(hs:0<s)(h:q*65536*m<=di*65536*s+K*(m*s)):(if m*(q*65536)<m*K*s then 0 else cdiv (m*(q*65536) - m*K*s) (s*65536))<=di:=by
 split
 .exact Jh _
 .rename_i h1;rw[QE3 ω];have e1:m*(q*65536)=q*65536*m:=Mc _ _;have e2:K*(m*s)=m*K*s:=by rw[Mc m K,Pw]
  have e3:di*(s*65536)=di*65536*s:=by rw[Mc s,Pw]
  rw[e1,e3];omega
def LL(o:ZV):Bool:=decide (o.changes.length<=40)&&decide (o.rules.length<=40)
def yg(x:YD)(m:Nat):Bool:=decide (x.ops.length<=m)&&x.ops.all LL
def Qja{α:Type}(l:List α)(d:α)(f):l.all f=true↔∀j,j<l.length->f (l.getD j d)=true:=by
 rw[XK];constructor
 .intro h j hj;exact h _ (qg l d j hj)
 .intro h a ha;obtain⟨i,hi,rfl⟩:=wZ ha;have:=h i hi;simpa[Q5,hi] using this
def Qjb(x:YD)(m:Nat)(hm:m<1000000):QW prog 12 [.agg x.cells,Qa m] (QN (QT (yg x m))):=by
 refine xT 0 func12 ntmps12 results12 λbase w hb=>?_;simp only[go_sem];by_cases h1:m<x.ops.length
 .simp only[go_sem,h1,decide_true];have:yg x m=false:=by simp[yg];omega
  rw[this]
 .have Ji:decide (m<x.ops.length)=false:=ξ;simp only[go_sem,Ji];refine MW (G:=Nat) [13,14] (λk=>∀j,j<k->LL (x.ops.getD j default)=true) (λk γ=>[(15,Qa k)]) (λk γ=>[]) (x.ops.length) (0) rfl (Qz.to 0 (by (simp only[go_sem])<;>simp)) ?_ ?_
  .intro j hj;omega
  intro k γ hk Kj;apply Qn hb;have Zb:=J9 (show k<4611686018427387904 from ω);first|refine jO hk (λQj=>?_) (λQj=>?_)|refine jP hk (λQj=>?_) (λQj=>?_)
  .simp only[go_sem,Qj];have ff:¬ (∀j,j<x.ops.length->LL (x.ops.getD j default)=true)->yg x m=false:=λhn=>by
    rw[Xe];intro hf;simp only[yg,Zy]at hf;exact hn ((Qja _ default _).1 hf.2)
   first|refine QfZ (λh2=>?_) (λh2=>?_)|refine Qf0 (λh2=>?_) (λh2=>?_)|refine QgF (λh2=>?_) (λh2=>?_)|refine YA (λh2=>?_) (λh2=>?_)|refine QgM (λh2=>?_) (λh2=>?_)|refine Qhb (λh2=>?_) (λh2=>?_)|refine F5 (λh2=>?_) (λh2=>?_)|refine FW (λh2=>?_) (λh2=>?_)
   .simp only[go_sem];rw[ff (λhn=>by have:=hn k Qj;simp only[LL,Zy,XL]at this;omega)]
   .simp only[go_sem];first|refine QfZ (λh3=>?_) (λh3=>?_)|refine Qf0 (λh3=>?_) (λh3=>?_)|refine QgF (λh3=>?_) (λh3=>?_)|refine YA (λh3=>?_) (λh3=>?_)|refine QgM (λh3=>?_) (λh3=>?_)|refine Qhb (λh3=>?_) (λh3=>?_)|refine F5 (λh3=>?_) (λh3=>?_)|refine FW (λh3=>?_) (λh3=>?_)
    .simp only[go_sem];rw[ff (λhn=>by have:=hn k Qj;simp only[LL,Zy,XL]at this;omega)]
    .simp only[go_sem];repeat (refine And.intro δ ?_)
     refine⟨_,Qz.to 0 (by (simp only[go_sem,Zb])<;>simp),XT.mk (0) (?_)⟩;intro j hj;rcases vM.1 hj with h|rfl
     .exact Kj j h
     .simp only[LL,Zy,XL];omega
  .simp only[go_sem];apply Qn hb;subst Qj;have:yg x m=true:=by
    simp only[yg,Zy];exact⟨ξ,(Qja _ default _).2 Kj⟩
   rw[this]
def ky(n:Nd)(a:Bool)(f:Nat):List D:=n.c.cells++(QT a::u64 n.QO::(n.du.cells++(n.sh.cells++(n.cp.cells++(u64 f::n.q.Sr)))))
theorem QAf(M)(id)(n):QhJ M id n=ky n (JV M id) (Wm M id n):=rfl
section
variable (n:Nd)(a:Bool)(f:Nat)
@[go_sem] theorem QGx:(ky n a f).length=67:=rfl
@[go_sem] theorem QGy:(ky n a f).all D.Vn=true:=rfl
@[go_sem] theorem QGz:(List.drop 15 (ky n a f)).getD 0 D.undef=u64 n.QO:=rfl
@[go_sem] theorem QGA:(List.drop 2 (ky n a f)).getD 0 D.undef=QT n.c.leaf:=rfl
@[go_sem] theorem QGB:(List.drop 63 (ky n a f)).getD 0 D.undef=u64 n.q.cd:=rfl
@[go_sem] theorem QGC:(List.drop 65 (ky n a f)).getD 0 D.undef=u64 n.q.bo:=rfl
@[go_sem] theorem QGD:(List.drop 66 (ky n a f)).getD 0 D.undef=u64 n.q.bd:=rfl
@[go_sem] theorem QGE(v):List.take 63 (ky n a f)++(.raw (.int .u64 ((v:Nat):Int))::List.drop 64 (ky n a f))=ky { n with q:={ n.q with cd:=v } } a f:=rfl
@[go_sem] theorem QGF(v):List.take 66 (ky n a f)++[.raw (.int .u64 ((v:Nat):Int))]=ky { n with q:={ n.q with bd:=v } } a f:=rfl
end
@[go_sem] def QAg(n:Nd)(a:Bool)(f:Nat):Ob:=⟨.one,0,67,1,λ_=>ky n a f⟩
def QAh{own}{tw}{h}{p}{S:ZF}(T:Wr own tw h p S){id}{n}(hn:Qh S.M.N id=some n):Q6 prog 35 h [.ptr p 0 0 0,Qa id] (λd=>d=.tup [.agg (ky n (JV S.M id) (Wm S.M id n)),Qa 0]):=by
 obtain⟨ps,pl,pr,pt,T⟩:=T;have ho:=ZC T.o;obtain⟨L,C⟩:=T.co.ex;have hP:=λ(F:List Ob) (hF:F=h.map Ob.ro) (G:List Ob)=>Qx7 ((C.ro.more (KC hF)).more (zZ (g:=G))) T.co.I hn (T.co.V.x7 id n hn);clear C T;rw[QAf]at hP;refine xD func35 ntmps35 results35 λbase w pl F hF Q7 hb=>?_;rw[<- hF]at ho;have Ql:=Qb ho;simp only[go_sem,Qe,ho,Ql];apply ZQ hb Qp2 (hP F hF _);apply JH hb;exact⟨_,rfl,rfl,rfl⟩
def QAi{own}{tw}{h}{p}{S:ZF}(T:Wr own tw h p S):QH prog 34 h [.ptr p 0 0 0] (λd h'=>d=ints (S.M.T.map (·.iD))/\∃g,h'=h++g):=by
 obtain⟨ps,pl,pr,pt,T⟩:=T;have ho:=T.o;obtain⟨L,C⟩:=T.co.ex;have hT:=Qx4 C;have hl:=T.co.I.tree.len;refine QQ func34 ntmps34 results34 λbase w pl hb=>?_;have Ql:=Qb ho;simp only[go_sem,ho];refine Zw hb Qp1 hT λd h2 hR=>?_;obtain⟨rfl,hS,g,rfl,hg⟩:=hR;apply Qn hb;apply ZQ hb Rw (R5 hS.toR ω);apply Qn hb;exact⟨_,rfl⟩
end Go.Fg.X
namespace Go.Fg.X
open Go.Proofs Go.Fg
open Go.Proofs.Tryz
structure E0 (c:Cf) (ops:List ZV) (p k lo g:Nat) (h0:List Ob) (Kp:Nat->Prop) (own:Nat->Tag) (tw:Nat->TT) (H:List Ob) (S:ZF) (E:List Ev) (row:Nat->List D):Prop where
 T:Wr own tw H p S
 V:Jd S
 C:OR S
 gI:S.ops=k
 kp:∀l,l<h0.length->Kp l->H[l]? = h0[l]?/\own l=.no/\tw l=.my
 Zq:H[lo]? = some ⟨.arr,g,12,E.length,row⟩
 rw_:∀i,i<E.length->row i=Ev.cells (E.getD i default)
 my:own lo=.no/\tw lo=.my
 nk:lo<h0.length->¬Kp lo
 S_:S=(Zn (S0 c) (ops.take k)).1
 E_:E=(Zn (S0 c) (ops.take k)).2.2
 lE:E.length<=5000*k
section
variable {c:Cf}{ops:List ZV}{p k lo g:Nat}{h0:List Ob}{Kp:Nat->Prop}{own:Nat->Tag}{tw:Nat->TT}{H:List Ob}{S:ZF}{E:List Ev}{row:Nat->List D}
end
end Go.Fg.X
namespace Go.Fg.X
open Go.Proofs Go.Fg
open Go.Proofs.Tryz
def E6(l:List ZV):Bool:=(l.drop 1).all λo=>o.kind != 1
def still_at{l:List ZV}(h:E6 l=true){k}(hk:k<l.length)(h0:0<k):(l.getD k default).kind≠1:=by
 have h1:=XK.1 h (l.getD k default) (by
  rw[Q5,QP hk];obtain⟨j,rfl⟩:∃j,k=j+1:=⟨k - 1,ω⟩;refine Hf (i:=j) ?_;rw[Fj,Pp,QP hk];rfl)
 simpa using h1
def Qjl{l:List ZV}:E6 l=true↔∀k,k<l.length->0<k->(l.getD k default).kind≠1:=by
 refine⟨λh k hk h0=>still_at h hk h0,λh=>?_⟩;unfold E6;rw[XK];intro o ho;obtain⟨i,hi,rfl⟩:=wZ ho;rw[Un]at hi;have:=h (i+1) ω ω;rw[List.getElem_drop];rw[Q5,QP ω]at this;have e:1+i=i+1:=Pp 1 i;simp only[e];simpa using this
section
variable (n:Nd)(a:Bool)(f:Nat)
@[go_sem] theorem QGM:List.take 14 (ky n a f)=n.c.cells:=rfl
end
def QjB{x:YD}{m}(h:yg x m=true)(hx:∀a∈x.ops,ZV.Ok a):x.ops.length<=m/\∀o∈x.ops,ZV.Ok o/\ZV.Small o:=by
 simp only[yg,Zy,XL]at h;obtain⟨hlen,Kj⟩:=h;refine⟨hlen,λo ho=>?_⟩;have:=XK.1 Kj o ho;simp only[LL,Zy,XL]at this;exact⟨hx o ho,ω,ω⟩
def SL(m:Nat):Bool:=decide (0<m/\m<=4294967295)
def QeY{m}(h:SL m=true):0<m/\m<=4294967295:=X8 h
def Qn6(m):QW prog 166 [u64 m] (QN (QT (SL m))):=by
 refine xT 0 func166 ntmps166 results166 λbase w hb=>?_;simp only[go_sem];by_cases h1:0<m
 .have f1:decide ((0:Int)<(m:Int))=true:=ξ;by_cases h2:m<=4294967295
  .have f2:decide ((m:Int)<=4294967295)=true:=ξ;have f3:SL m=true:=QU ⟨h1,h2⟩;simp only[go_sem,f1,f2,f3]
  .have f2:decide ((m:Int)<=4294967295)=false:=ξ;have f3:SL m=false:=QI λh=>h2 h.2;simp only[go_sem,f1,f2,f3]
 .have f1:decide ((0:Int)<(m:Int))=false:=ξ;have f3:SL m=false:=QI λh=>h1 h.1;simp only[go_sem,f1,f3]
@[go_sem] def got(s b:Nat):D:=.agg [u64 s,u64 b]
def le2{k}(h:k<=2):k=0\/k=1\/k=2:=ω
def QE6(s b s' b'):QW prog 165 [got s b,got s' b'] (QN (QT (SL s&&SL s'))):=by
 refine xT 0 func165 ntmps165 results165 λbase w hb=>?_;simp only[go_sem];refine MW (G:=Nat) [9] (λk=>(1<=k->SL s=true)/\(2<=k->SL s'=true)) (λk γ=>[(10,Qa k)]) (λk γ=>[]) (2) (0) rfl (Qz.to 0 (by (simp only[go_sem])<;>simp)) ?_ ?_
 .exact⟨λh=>ω,λh=>ω⟩
 rintro k γ hk ⟨r1,r2⟩;obtain rfl|rfl|rfl:=le2 hk
 .apply Qg hb;simp only[go_sem,IC];apply ZK hb QnM (Qn6 s);apply Qn hb;by_cases h:SL s=true
  .simp only[go_sem,h];repeat (refine And.intro δ ?_)
   refine⟨_,Qz.to 0 (by (simp only[go_sem,pn])<;>simp),XT.mk (γ) (λh=>ω)⟩
  .have h:=Xe.2 h;simp only[go_sem,h,O6]
 .apply Qg hb;simp only[go_sem,pn];have h0:=r1 ω;apply ZK hb QnM (Qn6 s');apply Qn hb;by_cases h:SL s'=true
  .simp only[go_sem,h];repeat (refine And.intro δ ?_)
   refine⟨_,Qz.to 0 (by (simp only[go_sem,ci2])<;>simp),XT.mk (γ) (λ_=>h0)⟩
  .have h:=Xe.2 h;simp only[go_sem,h,Bool.and_false]
 .apply Qg hb;simp only[go_sem,ci2];have h0:=r1 ω;have h1:=r2 ω;apply Qg hb;simp only[go_sem,h0,h1,Bool.and_true]
def oE(m v n w:Nat):Nat:=if v*65536*n<w*65536*m then w*65536*m - v*65536*n else v*65536*n - w*65536*m
def gE(m v n w:Nat):Bool:=(SL m&&SL n)&&(decide (v<=1099511627776)&&decide (w<=1099511627776))
def QFq(m v n t)(hm:m<18446744073709551616)(hn:n<18446744073709551616)(hv:v<18446744073709551616)(ht:t<18446744073709551616):
  QW prog 103 [got m v,got n t] (QN (.tup [num (if gE m v n t=true then oE m v n t else 0),Qa (if gE m v n t=true then 0 else 1)])):=by
 refine xT 0 func103 ntmps103 results103 λbase w hb=>?_;simp only[go_sem];apply ZK hb QvQ (QE6 m v n t);apply Qn hb;by_cases h1:(SL m&&SL n)=true
 .simp only[go_sem,h1];by_cases h2:v<=1099511627776/\t<=1099511627776
  .have hR:gE m v n t=true:=by unfold gE;rw[h1];simp;exact h2
   have hmx:decide ((1099511627776:Int)<max (v:Int) (t:Int))=false:=ξ;have w1:IntKind.u64.wrap ((v:Int)*65536)=((v*65536:Nat):Int):=Qsf v 65536 ω;have w2:IntKind.u64.wrap ((t:Int)*65536)=((t*65536:Nat):Int):=Qsf t 65536 ω;simp only[go_sem,hmx];apply QF hb [0,1,2,3,4,6,7,8,9,10,1005,1011,1012,1013,1014,1015];simp only[go_sem,w1,w2];have a1:=(QeY (by revert h1;cases SL m<;>simp:SL m=true)).2;have a2:=(QeY (by revert h1;cases SL m<;>cases SL n<;>simp:SL n=true)).2;apply Jb hb Ba (Bm (v*65536) n ω ω);apply ZA hb;apply Jb hb Ba (Bm (t*65536) m ω ω);apply ZA hb;have bX:v*65536*n<=72057594037927936*4294967295:=qC ω a2;have bY:t*65536*m<=72057594037927936*4294967295:=qC ω a1;have hV:oE m v n t=if v*65536*n<t*65536*m then t*65536*m - v*65536*n else v*65536*n - t*65536*m:=rfl;obtain⟨X,hX⟩:∃X,X=v*65536*n:=⟨_,rfl⟩;obtain⟨Y,hY⟩:∃Y,Y=t*65536*m:=⟨_,rfl⟩;simp only[<- hX,<- hY]at bX bY hV ⊢;apply ZK hb mL (o6 X Y ω ω);apply Qn hb;by_cases Qb:X<Y
   .have e1:decide ((if X<Y then -1 else if X=Y then 0 else 1:Int)<0)=true:=by rw[Qd Qb];rfl
    have e2:(Y+2 ^ 128 - X) % 2 ^ 128=Y - X:=ω;rw[Qd Qb]at hV;simp only[go_sem,e1];apply ZK hb Qp3 (Qtt Y X ω ω);apply Qg hb;simp only[go_sem,e2];rw[Qd hR,Qd hR,hV]
   .have e1:decide ((if X<Y then -1 else if X=Y then 0 else 1:Int)<0)=false:=by rw[Qc Qb];split<;>rfl
    have e2:(X+2 ^ 128 - Y) % 2 ^ 128=X - Y:=ω;rw[Qc Qb]at hV;simp only[go_sem,e1];apply ZK hb Qp3 (Qtt X Y ω ω);apply Qg hb;simp only[go_sem,e2];rw[Qd hR,Qd hR,hV]
  .have hR:gE m v n t=false:=by unfold gE;rw[h1];simp;omega
   have hmx:decide ((1099511627776:Int)<max (v:Int) (t:Int))=true:=ξ;simp only[go_sem,hmx,hR,vN]
 .have h1:=Xe.2 h1;have hR:gE m v n t=false:=by unfold gE;rw[h1];rfl
  simp only[go_sem,h1,hR,vN]
theorem c65:((65536:Nat):Int)=65536:=rfl
def Qb1(m n k least:Nat):Nat:=(2*cdiv (k*65536) least+2)*m*n
def QFr(a d)(h:0<d):cdiv a d<=a:=by
 rw[Qtz a d h];have h1:=Pr a d;have h2:=Ps a d;split
 .exact h2
 .have h3:a / d<=d*(a / d):=Nat.le_mul_of_pos_left _ h;omega
def EE(m n least:Nat)(lm:Int):Bool:=((SL m&&SL n)&&SL least)&&(decide (1<=lm)&&decide (lm<=16384))
def QFM(m v n t)(lm)(least)(hm:m<18446744073709551616)(hn:n<18446744073709551616)(hl:least<18446744073709551616):
  QW prog 104 [got m v,got n t,Qa lm,u64 least] (QN (.tup [num (if EE m n least lm=true then Qb1 m n lm.toNat least else 0),Qa (if EE m n least lm=true then 0 else 1)])):=by
 refine xT 0 func104 ntmps104 results104 λbase w hb=>?_;simp only[go_sem];apply ZK hb QvQ (QE6 m v n t);apply Qn hb;by_cases h1:(SL m&&SL n)=true
 .simp only[go_sem,h1];apply ZK hb QnM (Qn6 least);apply Qn hb;by_cases h2:SL least=true
  .simp only[go_sem,h2];by_cases h3:lm<1
   .have hR:EE m n least lm=false:=by unfold EE;rw[h1,h2];simp;omega
    simp only[go_sem,QU h3,hR,vN]
   .by_cases h4:16384<lm
    .have hR:EE m n least lm=false:=by unfold EE;rw[h1,h2];simp;omega
     simp only[go_sem,QI h3,QU h4,hR,vN]
    .obtain⟨k,rfl⟩:=Int.eq_ofNat_of_zero_le (show 0<=lm from ω);have hR:EE m n least k=true:=by unfold EE;rw[h1,h2];simp;omega
     simp only[go_sem,QI h3,QI h4];have Qj:1<=k:=ω;have Jf:k<=16384:=ω;have hw:IntKind.u64.wrap (k:Int)=(k:Int):=η;have a0:=QeY h2;have a1:=(QeY (by revert h1;cases SL m<;>simp:SL m=true)).2;have a2:=(QeY (by revert h1;cases SL m<;>cases SL n<;>simp:SL n=true)).2;have hc:=QFr (k*65536) least a0.1;have hV:Qb1 m n k least=(2*cdiv (k*65536) least+2)*m*n:=rfl;obtain⟨c,V6⟩:∃c,c=cdiv (k*65536) least:=⟨_,rfl⟩;rw[<- V6]at hc hV;have b1:(2*c+2)*m<=2147483650*4294967295:=qC ω a1;have u1:IntKind.u64.wrap (2*(c:Int))=((2*c:Nat):Int):=η;have u2:IntKind.u64.wrap (((2*c:Nat):Int)+2)=((2*c+2:Nat):Int):=η;have u3:IntKind.u64.wrap (((2*c+2:Nat):Int)*(m:Int))=(((2*c+2)*m:Nat):Int):=Qsf _ _ (Pv b1 π);refine cT hb QJ7 ?_ (QKt k 65536 least ω π hl a0.1 ω (by rw[<- V6];omega)) ?_
     .simp only[go_sem,hw,c65]
     apply Qg hb;simp only[go_sem,hw,<- V6,u1,u2,u3];apply ZK hb Ba (Bm ((2*c+2)*m) n (Pv b1 π) hn);apply Qn hb;rw[Qd hR,Qd hR,hV]
  .have h2:=Xe.2 h2;have hR:EE m n least lm=false:=by unfold EE;rw[h1,h2];rfl
   simp only[go_sem,h2,hR,vN]
 .have h1:=Xe.2 h1;have hR:EE m n least lm=false:=by unfold EE;rw[h1];rfl
  simp only[go_sem,h1,hR,vN]
def Qb3(m v n t:Nat):Nat:=if t*m<v*n then (v*n - t*m)*65536 else 0
def QHU(m v n t):oE m v n t=max (Qb3 m v n t) (Qb3 n t m v):=by
 have eX:v*65536*n=v*n*65536:=by rw[Qrr]
 have eY:t*65536*m=t*m*65536:=by rw[Qrr]
 unfold oE Qb3;rw[eX,eY];split<;>split<;>(try split)<;>omega
def QO5(m v n t):Qb3 m v n t<=oE m v n t:=by rw[QHU];omega
def QHV{m v n t}(h:gE m v n t=true):m<=4294967295/\n<=4294967295/\v<=1099511627776/\t<=1099511627776/\0<m/\0<n:=by
 unfold gE at h;simp only[Zy,XL]at h;exact⟨(QeY h.1.1).2,(QeY h.1.2).2,h.2.1,h.2.2,(QeY h.1.1).1,(QeY h.1.2).1⟩
def QO6(m v n t)(h:gE m v n t=true):oE m v n t<2 ^ 127:=by
 obtain⟨a1,a2,a3,a4,_⟩:=QHV h;have bX:v*65536*n<=1099511627776*65536*4294967295:=qC (X7 _ a3) a2;have bY:t*65536*m<=1099511627776*65536*4294967295:=qC (X7 _ a4) a1;unfold oE;split
 .exact Pv (Ki (Nat.sub_le _ _) bY) π
 .exact Pv (Ki (Nat.sub_le _ _) bX) π
def Qw3(m v n t)(hm:m<18446744073709551616)(hn:n<18446744073709551616)(hv:v<18446744073709551616)(ht:t<18446744073709551616):
  QW prog 107 [got m v,got n t] (QN (.tup [num (if gE m v n t=true then Qb3 m v n t else 0),Qa (if gE m v n t=true then 0 else 1)])):=by
 refine xT 0 func107 ntmps107 results107 λbase w hb=>?_;simp only[go_sem];apply ZK hb Qvc (QFq m v n t hm hn hv ht);apply Qn hb;by_cases hR:gE m v n t=true
 .obtain⟨a1,a2,a3,a4,_⟩:=QHV hR;have n0:((0:Int) != 0)=false:=rfl;have bX:v*n<=1099511627776*4294967295:=qC a3 a2;have bY:t*m<=1099511627776*4294967295:=qC a4 a1;apply QF hb i4;simp only[go_sem,Qd hR,n0];apply Jb hb Ba (Bm v n hv hn);apply ZA hb;apply Jb hb Ba (Bm t m ht hm);apply ZA hb;apply Jb hb mL (o6 (v*n) (t*m) ω ω);apply ZA hb;obtain⟨X,hX⟩:∃X,X=v*n:=⟨_,rfl⟩;obtain⟨Y,hY⟩:∃Y,Y=t*m:=⟨_,rfl⟩;have e1:oE m v n t=max (Qb3 m v n t) (Qb3 n t m v):=QHU m v n t;have e2:Qb3 m v n t=if Y<X then (X - Y)*65536 else 0:=by rw[hX,hY];rfl
  have e3:Qb3 n t m v=if X<Y then (Y - X)*65536 else 0:=by rw[hX,hY];rfl
  rw[<- hX,<- hY];by_cases h:Y<X
  .have g:decide ((if X<Y then -1 else if X=Y then 0 else 1:Int)<=0)=false:=by rw[Qc ω,Qc ω];rfl
   rw[Qd h]at e2;rw[Qc (show ¬ X<Y from ω)]at e3;have e4:Qb3 m v n t=oE m v n t:=ω;simp only[go_sem,g,e4]
  .have g:decide ((if X<Y then -1 else if X=Y then 0 else 1:Int)<=0)=true:=by
    split
    .rfl
    .rw[Qd ω];rfl
   rw[Qc h]at e2;simp only[go_sem,g,e2]
 .have n0:((1:Int) != 0)=true:=rfl;apply QF hb i4;simp only[go_sem,Qc hR,n0]
def QHW(L:List Nat):Nat->List D:=λi=>[u64 (L.getD i default)]
@[go_sem] theorem QRE(L:List Nat)(i):QHW L i=[u64 (L.getD i default)]:=rfl
@[go_sem] def us(L:List Nat):D:=.imm 1 L.length (QHW L)
def Qv6(L:List Nat)(k)(h:k<L.length):L.take (k+1)=L.take k++[L.getD k default]:=by
 rw[Q5,QP h,KR,List.take_succ_eq_append_getElem h]
def QO7(x):QW prog 117 [u64 x] (QN (QT (!SL x))):=by
 refine xT 0 func117 ntmps117 results117 λbase w hb=>?_;simp only[go_sem];by_cases h1:0<x
 .have f1:decide ((x:Int)<1)=false:=ξ;by_cases h2:x<=4294967295
  .have f2:decide (4294967295<(x:Int))=false:=ξ;have f3:SL x=true:=QU ⟨h1,h2⟩;simp only[go_sem,f1,f2,f3]
  .have f2:decide (4294967295<(x:Int))=true:=ξ;have f3:SL x=false:=QI (λh=>h2 h.2);simp only[go_sem,f1,f2,f3]
 .have f1:decide ((x:Int)<1)=true:=ξ;have f3:SL x=false:=QI (λh=>h1 h.1);simp only[go_sem,f1,f3]
def QHX{p}(L:List Nat)(k:Nat)(hk:k<L.length):(L.take (k+1)).any p=((L.take k).any p || p (L.getD k default)):=by
 rw[Qv6 L k hk];simp
def QHY{p}(L:List Nat)(k)(hk:k<L.length)(h:p (L.getD k default)=true):L.any p=true:=by
 rw[BN];refine⟨L.getD k default,?_,h⟩;rw[Q5,QP hk];exact YU hk
def QO8(L:List Nat)(hL:L.length<2147483648):QW prog 158 [us L,.raw (.func (.func 117) #[] #[])]
  (λd h=>h=[]/\((L.any (λx=>!SL x)=false/\d=Qa (-1))\/(L.any (λx=>!SL x)=true/\∃k:Nat,d=Qa k))):=by
 refine xT 0 func158 ntmps158 results158 λbase w hb=>?_;simp only[go_sem];refine MW (G:=Nat) [0,1,6,7] (λk=>(L.take k).any (λx=>!SL x)=false) (λk γ=>[(8,Qa k)]) (λk γ=>[]) (L.length) (0) rfl (Qz.to 0 (by (simp only[go_sem])<;>simp)) ?_ ?_
 .rfl
 intro k γ hk ZP;apply Qn hb;have Zb:=J9 (show k<4611686018427387904 from ω);first|refine jO hk (λQj=>?_) (λQj=>?_)|refine jP hk (λQj=>?_) (λQj=>?_)
 .simp only[go_sem,Qj];apply ZK hb QLX (QO7 (L.getD k default));apply Qn hb;cases hs:SL (L.getD k default)
  .simp only[go_sem];exact .inr ⟨QHY L k Qj (by rw[hs];rfl),k,rfl⟩
  .have Qw7:(L.take (k+1)).any (λx=>!SL x)=false:=by rw[QHX L k Qj,ZP,hs];rfl
   simp only[go_sem];repeat (refine And.intro δ ?_)
   refine⟨_,Qz.to 0 (by (simp only[go_sem,Zb])<;>simp),XT.mk (γ) (Qw7)⟩
 .simp only[go_sem];subst Qj;apply Qn hb;rw[q9]at ZP;exact .inl ZP
def QO9(L:List Nat)(hL:L.length<2147483648):QW prog 95 [us L,.raw (.func (.func 117) #[] #[])] (QN (QT (L.any (λx=>!SL x)))):=by
 refine xT 0 func95 ntmps95 results95 λbase w hb=>?_;simp only[go_sem];refine VC hb [] Qqe rfl ?_ (QO8 L hL) rfl λr h hR=>?_
 .simp only[go_sem]
 obtain⟨rfl,⟨h1,rfl⟩|⟨h1,k,rfl⟩⟩:=hR
 .simp only[go_sem];apply Qg hb;simp only[go_sem,h1]
 .have d1:decide ((0:Int)<=(k:Int))=true:=σ;simp only[go_sem];apply Qg hb;simp only[go_sem,h1]
def QPa(L:List Nat)(m)(hL:L.length<2147483648):QW prog 169 [us L,u64 m]
  (λd h=>h=[]/\((L.any (λx=>x==m)=false/\d=Qa (-1))\/(L.any (λx=>x==m)=true/\∃k:Nat,d=Qa k))):=by
 refine xT 0 func169 ntmps169 results169 λbase w hb=>?_;simp only[go_sem];refine MW (G:=Nat) [0,1,6,7] (λk=>(L.take k).any (λx=>x==m)=false) (λk γ=>[(8,Qa k)]) (λk γ=>[]) (L.length) (0) rfl (Qz.to 0 (by (simp only[go_sem])<;>simp)) ?_ ?_
 .rfl
 intro k γ hk ZP;apply Qn hb;have Zb:=J9 (show k<4611686018427387904 from ω);first|refine jO hk (λQj=>?_) (λQj=>?_)|refine jP hk (λQj=>?_) (λQj=>?_)
 .simp only[go_sem,Qj];by_cases hs:L.getD k default=m
  .have e1:((m:Int)==((L.getD k default:Nat):Int))=true:=qN (by rw[hs]);simp only[go_sem,e1];exact .inr ⟨QHY L k Qj (by rw[hs];simp),k,rfl⟩
  .have e1:((m:Int)==((L.getD k default:Nat):Int))=false:=Xl (show (m:Int)≠((L.getD k default:Nat):Int) from ω);have Qw7:(L.take (k+1)).any (λx=>x==m)=false:=by rw[QHX L k Qj,ZP];simpa using hs
   simp only[go_sem,e1];repeat (refine And.intro δ ?_)
   refine⟨_,Qz.to 0 (by (simp only[go_sem,Zb])<;>simp),XT.mk (γ) (Qw7)⟩
 .simp only[go_sem];subst Qj;apply Qn hb;rw[q9]at ZP;exact .inl ZP
def QPb(L:List Nat)(m)(hL:L.length<2147483648):QW prog 118 [us L,u64 m] (QN (QT (L.any (λx=>x==m)))):=by
 refine xT 0 func118 ntmps118 results118 λbase w hb=>?_;simp only[go_sem];refine VC hb [] QL0 rfl ?_ (QPa L m hL) rfl λr h hR=>?_
 .simp only[go_sem]
 obtain⟨rfl,⟨h1,rfl⟩|⟨h1,k,rfl⟩⟩:=hR
 .simp only[go_sem];apply Qg hb;simp only[go_sem,h1]
 .have d1:decide ((0:Int)<=(k:Int))=true:=σ;simp only[go_sem];apply Qg hb;simp only[go_sem,h1]
def F3(L:List Nat):Nat:=L.foldl (·+·) 0
def Qeq(L:List Nat):Nat:=L.foldl min 9223372036854775808
theorem QHZ:F3 []=0:=rfl
def QPc:Qeq []=9223372036854775808:=by simp only[Qeq,List.foldl_nil]
def QH0(L)(x):F3 (L++[x])=F3 L+x:=by simp[F3]
def QPd(f:Nat->Nat->Nat)(a:Nat)(L:List Nat)(x:Nat):(L++[x]).foldl f a=f (L.foldl f a) x:=by rw[jo];rfl
def QPe(L)(x):Qeq (L++[x])=min (Qeq L) x:=QPd min _ L x
def Qw8(L:List Nat)(h:∀x∈L,x<=4294967295):∀k,k<=L.length->F3 (L.take k)<=k*4294967295
 | 0,_=>by rw[List.take_zero,QHZ];exact Jh _
 | k+1,hk=>by
  have ih:=Qw8 L h k ω;rw[Qv6 L k ω,QH0];have:L.getD k default<=4294967295:=by
   rw[Q5,QP ω];exact h _ (YU _)
  omega
def QPf(L:List Nat)(hL:L.length<=64)(h:∀x∈L,x<=4294967295):QW prog 119 [us L] (QN (.tup [u64 (F3 L),u64 (Qeq L)])):=by
 have c63:((9223372036854775808:Nat):Int)=9223372036854775808:=ω;refine xT 0 func119 ntmps119 results119 λbase w hb=>?_;simp only[go_sem];refine MW (G:=Nat) [8,9] (λk=>True) (λk γ=>[(4,u64 (F3 (L.take k))),(5,u64 (Qeq (L.take k))),(10,Qa k)]) (λk γ=>[]) (L.length) (0) rfl (Qz.to 0 (by (simp only[go_sem,QHZ,QPc,IC,c63])<;>simp)) trivial ?_;intro k γ hk _;apply Qn hb;have Zb:=J9 (show k<4611686018427387904 from ω);first|refine jO hk (λQj=>?_) (λQj=>?_)|refine jP hk (λQj=>?_) (λQj=>?_)
 .have e1:F3 (L.take (k+1))=F3 (L.take k)+L.getD k default:=by rw[Qv6 L k Qj,QH0]
  have e2:Qeq (L.take (k+1))=min (Qeq (L.take k)) (L.getD k default):=by rw[Qv6 L k Qj,QPe]
  have e3:=Qw8 L h (k+1) Qj;have w1:=nY (F3 (L.take k)) (L.getD k default) ω;have e4:min ((Qeq (L.take k):Nat):Int) ((L.getD k default:Nat):Int)=((min (Qeq (L.take k)) (L.getD k default):Nat):Int):=ω;simp only[go_sem,Qj,w1,e4];repeat (refine And.intro δ ?_)
  refine⟨_,Qz.to 0 (by (simp only[go_sem,Zb,e1,e2])<;>simp),XT.mk (γ) (trivial)⟩
 .simp only[go_sem];subst Qj;apply Qn hb;rw[q9]
def Qhe(m:Nat)(L:List Nat)(q:Nat)(lm:Int):Prop:=64<L.length\/L.any (λx=>!SL x)=true\/L.any (λx=>x==m)=false\/1099511627776<q\/lm<1\/16384<lm
instance (m:Nat) (L:List Nat) (q:Nat) (lm:Int):Decidable (Qhe m L q lm):=by unfold Qhe;infer_instance
def QiN(L:List Nat)(u:Nat):Nat:=cdiv (u*65536) (Qeq L)
def QnD(m:Nat)(L:List Nat)(q u:Nat):Nat:=if m*(q*65536)<m*(2*QiN L u+2)*F3 L then 0 else cdiv (m*(q*65536) - m*(2*QiN L u+2)*F3 L) (F3 L*65536)
def QH1(L:List Nat)(m:Nat)(h:m∈L):m<=F3 L:=by
 have key:∀(L:List Nat) (a:Nat),a<=L.foldl (·+·) a/\∀x∈L,x<=L.foldl (·+·) a:=by
  intro L;induction L with
  | nil=>intro a;exact⟨QB _,λx h=>by cases h⟩
  | cons y L ih=>
   intro a;obtain⟨h1,h2⟩:=ih (a+y);refine⟨by simp only[kD];omega,λx hx=>?_⟩;simp only[kD];rcases QD.1 hx with rfl|hx
   .omega
   .exact h2 x hx
 exact(key L 0).2 m h
def QPh(L:List Nat)(h:∀x∈L,0<x):0<Qeq L:=by
 have key:∀(L:List Nat) (a:Nat),0<a->(∀x∈L,0<x)->0<L.foldl min a:=by
  intro L;induction L with
  | nil=>intro a ha _;exact ha
  | cons y L ih=>
   intro a ha h;refine ih _ ?_ (λx hx=>h x (JR _ hx));have:=h y (J2 ..);omega
 exact key L _ π h
def QPi(L:List Nat):Qeq L<=9223372036854775808:=by
 have key:∀(L:List Nat) (a:Nat),L.foldl min a<=a:=by
  intro L;induction L with
  | nil=>intro a;exact QB _
  | cons y L ih=>intro a;exact Ki (ih _) (Nat.min_le_left _ _)
 exact key L _
def QPj{a b d:Nat}(h:a<=b):cdiv a d<=cdiv b d:=Nat.div_le_div_right ω
def QPk(a d:Nat)(hd:0<d):cdiv (a*d) d=a:=by
 rw[Qtz _ _ hd,Nat.mul_mod_left,Qd rfl,Nat.mul_div_left _ hd]
structure Qxg (m:Nat) (L:List Nat) (q u:Nat):Prop where
 len:L.length<=64
 sl:∀x∈L,0<x/\x<=4294967295
 mem:m∈L
 q:q<=1099511627776
 u1:1<=u
 u2:u<=16384
def QPl{m:Nat}{L:List Nat}{q:Nat}{lm:Int}(h:¬ Qhe m L q lm):∃u:Nat,lm=(u:Int)/\Qxg m L q u:=by
 unfold Qhe at h;refine⟨lm.toNat,ω,ω,λx hx=>?_,?_,ω,ω,ω⟩
 .have h2:¬ L.any (λx=>!SL x)=true:=λh'=>h (.inr (.inl h'));rw[BN]at h2;by_cases hs:SL x=true
  .exact QeY hs
  .exact absurd ⟨x,hx,by simp[Xe.2 hs]⟩ h2
 .have h2:¬ L.any (λx=>x==m)=false:=λh'=>h (.inr (.inr (.inl h')));rw[Bool.not_eq_false,BN]at h2;obtain⟨x,hx,he⟩:=h2;have:x=m:=by simpa using he
  rw[<- this];exact hx
structure QPm (m:Nat) (L:List Nat) (q u:Nat):Prop where
 m1:0<m
 m2:m<=4294967295
 s1:m<=F3 L
 s2:F3 L<=274877906880
 l1:0<Qeq L
 l2:Qeq L<=9223372036854775808
 t:QiN L u<=1073741824
 g:m*(q*65536)<=4294967295*72057594037927936
 k:m*(2*QiN L u+2)<=4294967295*2147483650
def QH2{m:Nat}{L:List Nat}{q u:Nat}(h:Qxg m L q u):QPm m L q u:=by
 have hm:=h.sl m h.mem;have hl:=QPh L (λx hx=>(h.sl x hx).1);have ht:QiN L u<=1073741824:=by
  have:=QFr (u*65536) (Qeq L) hl;have:=h.u2;unfold QiN;omega
 have hs:=Qw8 L (λx hx=>(h.sl x hx).2) L.length (QB _);rw[q9]at hs;have If:=h.len;have hq:=h.q;have g1:q*65536<=72057594037927936:=ω;have g2:2*QiN L u+2<=2147483650:=ω;have g3:F3 L<=274877906880:=ω;have g4:m*(q*65536)<=4294967295*72057594037927936:=qC hm.2 g1;have g5:m*(2*QiN L u+2)<=4294967295*2147483650:=qC hm.2 g2;exact⟨hm.1,hm.2,QH1 L m h.mem,g3,hl,QPi L,ht,g4,g5⟩
def least_le{m:Nat}{L:List Nat}{q u:Nat}(h:Qxg m L q u):QnD m L q u<=q:=by
 have b:=QH2 h;have hs:0<F3 L:=kG b.m1 b.s1;unfold QnD;split
 .exact Jh _
 .have h1:m*(q*65536) - m*(2*QiN L u+2)*F3 L<=q*(F3 L*65536):=by
   have:m*(q*65536)<=F3 L*(q*65536):=X7 _ b.s1;have e:F3 L*(q*65536)=q*(F3 L*65536):=by rw[Qkl]
   omega
  have h2:=QPj (d:=F3 L*65536) h1;rwa [QPk _ _ ω]at h2
end Go.Fg.X
