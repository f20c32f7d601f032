/- Contracts and laws on the way to the statement. No conditions. -/
import Derived.Test.YtkfemlhbbcojnaaGreatTA3B
import Derived.Test.YtkfemlhbbcojnaaGreatCA2B
import Derived.Test.YtkfemlhbbcojnaaGreatSC9B
import Derived.Test.YtkfemlhbbcojnaaGreatFgForkB
set_option maxRecDepth 100000
set_option maxHeartbeats 16000000
set_option linter.unusedVariables false
set_option linter.unusedSimpArgs false
set_option linter.unusedSectionVars false
set_option linter.defProp false
namespace Go.Fg.X
open Go.Proofs Go.Fg
open Go.Proofs.Tryz
def Qzp(h:List Ob):QH prog 82 h [] (λd h'=>d=.ptr (h.length+2) 0 0 0/\h'=h++[QK .i64 0 [],QK .i64 0 [],tP h.length (h.length+1)]):=by
 refine QQ func82 ntmps82 results82 λbase w pl hb=>?_;simp only[go_sem,Qe]
def EX.put{S}{h h'}{p cm rm c1}{Zx}{c2}{Z1}{s}(T:EX S h p cm rm c1 Zx c2 Z1 s){cls}{d}{l}(lo)
  (hc:h'[cm]? = some (JZ .i64 c1 Zx cls d)) (ho:∀j o,h[j]? = some o->j≠cm->j≠lo->h'[j]? = some o) (hd:LG (more S h) h' d l) (hl:∀j g off n,d=.ref j g off n->j=lo)
  (hs:∀k j g off n,k≠cls->ZL Zx k=some (.ref j g off n)->j≠lo) (hp:p≠lo) (hr:rm≠lo) :
  YS (more S h) h' p { s with Jc:=λk=>if k=cls then l else s.Jc k }:=by
 obtain⟨c',es',h3,h4⟩:=Qaz .i64 c1 Zx cls d;have Rh:p≠cm:=λe=>by have:=T.o;rw[e,T.co]at this;cases this
 refine⟨cm,rm,c',es',c2,Z1,ho _ _ T.o Rh hp,by rw[hc,h3],ho _ _ T.ro (Q3 T.ne) hr,T.ne,.inl T.sp,.inl T.sc,.inl T.sr,λk=>?_,λk1 k2 j g off n g' vQ n' h1 h2=>?_,T.rw_⟩
 .rw[h4 k];by_cases hk:k=cls
  .rw[Qd hk];dsimp only;rw[Qd hk];exact hd
  .rw[Qc hk];dsimp only;rw[Qc hk];rcases T.ca k with ⟨h1,h2⟩|⟨j,g,off,row,h1,h2,h5,h6⟩
   .exact .inl ⟨h1,h2⟩
   .have Jf:ZL Zx k=some (.ref j g off (s.Jc k).length):=by
     cases ha:ZL Zx k with
     | none=>rw[ha]at h1;cases h1
     | some d'=>rw[ha]at h1;exact congrArg some h1
    refine .inr ⟨j,g,off,row,h1,.inl h2,ho j _ h5 (λe=>?_) (hs k _ _ _ _ hk Jf),h6⟩;rw[e,T.co]at h5;cases h5
 .rw[h4 k1]at h1;rw[h4 k2]at h2;by_cases a1:k1=cls<;>by_cases a2:k2=cls
  .rw[a1,a2]
  .rw[Qd a1]at h1;rw[Qc a2]at h2;exact absurd (hl _ _ _ _ (Mf h1)) (hs k2 _ _ _ _ a2 h2)
  .rw[Qc a1]at h1;rw[Qd a2]at h2;exact absurd (hl _ _ _ _ (Mf h2)) (hs k1 _ _ _ _ a1 h1)
  .rw[Qc a1]at h1;rw[Qc a2]at h2;exact T.sep k1 k2 j g off n g' vQ n' h1 h2
def Qzq{S}{h}{p}{s:Da}(T:YS S h p s)(cls:Int)(a)(hb:(s.Jc cls).length<1000000):
  QH prog 149 h [.ptr p 0 0 0,Qa cls,u64 a] (λd h'=>d=Qa 0/\Step S h h'/\YS (more S h) h' p (vw s cls a)):=by
 obtain⟨cm,rm,c1,Zx,c2,Z1,T⟩:=T;have ho:=T.o;have hm:=T.co;have Ql:=Qb ho;have Zg:=Qb hm;have hp:=T.ca cls;have Rh:p≠cm:=λe=>by rw[e,hm]at ho;cases ho
 have ZO:vw s cls a={ s with Jc:=λk=>if k=cls then s.Jc cls++[a] else s.Jc k }:=by
  unfold vw;congr 1;funext k;by_cases hk:k=cls
  .rw[Qd hk,Qd hk,hk]
  .rw[Qc hk,Qc hk]
 rw[ZO];have PM:∀k j g off n,ZL Zx k=some (.ref j g off n)->j<h.length:=λk j g off n hk=>by
  rcases T.ca k with ⟨h1,_⟩|⟨j',_,_,_,h1,_,h3,_⟩
  .rw[hk]at h1;cases h1
  .rw[hk]at h1;cases h1;exact Qb h3
 have new:(ZL Zx cls=none\/ZL Zx cls=some .nil)->s.Jc cls=[]->Step S h (h.set cm (JZ .i64 c1 Zx cls (.ref (h.length+1) 0 0 1))++[⟨.arr,0,1,1,λ_=>[u64 a]⟩,⟨.arr,0,1,1,λ_=>[u64 a]⟩]) /\
   YS (more S h) (h.set cm (JZ .i64 c1 Zx cls (.ref (h.length+1) 0 0 1))++[⟨.arr,0,1,1,λ_=>[u64 a]⟩,⟨.arr,0,1,1,λ_=>[u64 a]⟩]) p { s with Jc:=λk=>if k=cls then s.Jc cls++[a] else s.Jc k }:=λhk hw=>by
  refine⟨⟨λl hl hn=>?_,σ⟩,T.put (d:=.ref (h.length+1) 0 0 1) (h.length+1) ?_ (λj o hj h1 h2=>?_) (.inr ⟨h.length+1,0,0,λ_=>[u64 a],by simp[hw],.inr ω,?_,λi hi=>?_⟩) (λj g off n e=>by cases e;rfl) (λk j g off n _ Jf=>by have:=PM k _ _ _ _ Jf;omega) ω (by have:=Qb T.ro;omega)⟩
  .rw[QG (by simpa using hl),Qr (λe=>hn (by rw[<- e];exact T.sc))]
  .rw[QG (by simpa using Zg),QE Zg]
  .rw[QG (by simpa using Qb hj),Qr (Q3 h1),hj]
  .rw[VD (k:=1) σ,hw];rfl
  .rw[hw]at hi ⊢;simp at hi;subst hi;rfl
 cases hk:ZL Zx cls with
 | none=>
  rw[hk]at hp;have fin:=new (.inl hk) hp.nil;refine QQ func149 ntmps149 results149 λbase w pl hb=>?_;have Ql:=Qb ho;have Zg:=Qb hm;simp only[go_sem];apply Vk [] hb [0,1,2,4,5,6,7,8,9,10,11] [3,12,13,14];simp only[go_sem,Qe,ho,Ql,hm,Zg,hk];simp only[go_sem]at fin ⊢
  repeat' apply And.intro
  all_goals first|exact fin.1|exact fin.2
 | some d=>
  rw[hk]at hp;rcases hp with ⟨h2,h3⟩|⟨lo,g,off,row,h2,hS,h3,h4⟩
  .simp only[KR]at h2;subst h2;have fin:=new (.inr hk) h3;refine QQ func149 ntmps149 results149 λbase w pl hb=>?_;have Ql:=Qb ho;have Zg:=Qb hm;simp only[go_sem];apply Vk [] hb [0,1,2,4,5,6,7,8,9,10,11] [3,12,13,14];simp only[go_sem,Qe,ho,Ql,hm,Zg,hk];simp only[go_sem]at fin ⊢
   repeat' apply And.intro
   all_goals first|exact fin.1|exact fin.2
  .simp only[KR]at h2;subst h2;have n1:lo≠p:=λe=>by rw[e,ho]at h3;cases h3
   have n2:lo≠cm:=λe=>by rw[e,hm]at h3;cases h3
   have n3:lo≠rm:=λe=>by rw[e,T.ro]at h3;cases h3
   have CI:(s.Jc cls).length<=4294967295:=ω;have h9:(s.Jc cls).length+1<=4294967295:=ω;have KB:=Qb h3;have fin:Step S h ((h.set lo ⟨.arr,g+1,1,(s.Jc cls).length+1,Kt (s.Jc cls).length off row λ_=>[u64 a]⟩).set cm (JZ .i64 c1 Zx cls (.ref lo (g+1) 0 ((s.Jc cls).length+1)))++[⟨.arr,0,1,1,λ_=>[u64 a]⟩]) /\
     YS (more S h) ((h.set lo ⟨.arr,g+1,1,(s.Jc cls).length+1,Kt (s.Jc cls).length off row λ_=>[u64 a]⟩).set cm (JZ .i64 c1 Zx cls (.ref lo (g+1) 0 ((s.Jc cls).length+1)))++[⟨.arr,0,1,1,λ_=>[u64 a]⟩]) p { s with Jc:=λk=>if k=cls then s.Jc cls++[a] else s.Jc k }:=by
    refine⟨⟨λl hl hn=>?_,σ⟩,T.put (d:=.ref lo (g+1) 0 ((s.Jc cls).length+1)) lo ?_ (λj o hj h1 h2=>?_) (.inr ⟨lo,g+1,0,Kt (s.Jc cls).length off row λ_=>[u64 a],σ,.inl hS,?_,λi hi=>?_⟩) (λj g off n e=>by cases e;rfl) (λk j g' vQ n' QA ZJ e=>?_) (Q3 n1) (Q3 n3)⟩
    .rw[QG (by simpa using hl),Qr (λe=>hn (by rw[<- e];exact T.sc)),Qr (λe=>hn (by rw[<- e];exact hS))]
    .rw[QG (by simpa using Zg),QE (by simpa using Zg)]
    .rw[QG (by simpa using Qb hj),Qr (Q3 h1),Qr (Q3 h2),hj]
    .rw[QG (by simpa using KB),Qr (Q3 n2),QE KB];simp
    .simp at hi;rw[JD];by_cases qh:i<(s.Jc cls).length
     .rw[Az qh,h4 i qh];simp[qh,JC qh]
     .have:i=(s.Jc cls).length:=ω;subst this;rw[xk (QB _)];simp
    .subst e;exact QA (T.sep _ _ _ _ _ _ _ _ _ ZJ hk)
   refine QQ func149 ntmps149 results149 λbase w pl hb=>?_;have Ql:=Qb ho;have Zg:=Qb hm;have KB:=Qb h3;simp only[go_sem];apply Vk [] hb [0,1,2,4,5,6,7,8,9,10,11] [3,12,13,14];simp only[go_sem,Qe,ho,Ql,hm,Zg,hk,Qr,h3,KB,n1,n2,CI];simp only[go_sem]at fin ⊢
   repeat' apply And.intro
   all_goals first|exact fin.1|exact fin.2
def EX.row{S}{h h'}{p cm rm c1}{Zx}{c2}{Z1}{s}(T:EX S h p cm rm c1 Zx c2 Z1 s){cls}{r}
  (hr:h'[rm]? = some (JZ .i64 c2 Z1 cls (.agg r.cells))) (ho:∀j o,h[j]? = some o->j≠rm->h'[j]? = some o) :
  ∃c2' Ep,EX S h' p cm rm c1 Zx c2' Ep { s with rows:=λk=>if k=cls then r else s.rows k }:=by
 obtain⟨c',es',h3,h4⟩:=Qaz .i64 c2 Z1 cls (.agg r.cells);have Db:p≠rm:=λe=>by have:=T.o;rw[e,T.ro]at this;cases this
 refine⟨c',es',ho _ _ T.o Db,ho _ _ T.co T.ne,by rw[hr,h3],T.ne,T.sp,T.sc,T.sr,λk=>?_,T.sep,λk=>?_⟩
 .rcases T.ca k with h1|⟨j,g,off,row,h1,h2,h5,h6⟩
  .exact .inl h1
  .refine .inr ⟨j,g,off,row,h1,h2,ho j _ h5 (λe=>?_),h6⟩;rw[e,T.ro]at h5;cases h5
 .rw[h4 k];dsimp only;by_cases hk:k=cls
  .rw[Qd hk,Qd hk];rfl
  .rw[Qc hk,Qc hk];exact T.rw_ k
def ji.Qzr{a b:ji}(h:a.cells=b.cells):a=b:=by
 obtain⟨a1,a2,a3,a4,a5⟩:=a;obtain⟨b1,b2,b3,b4,b5⟩:=b;simp only[ji.cells,u64,Hc,D.raw.injEq,Value.int.injEq,vO,and_true]at h;obtain⟨h1,h2,h3,h4,h5⟩:=h;congr 1<;>omega
def OJ(a b:Nat):IntKind.u64.wrap ((a:Int)+(b:Int))=(((a+b) % 18446744073709551616:Nat):Int):=by
 rw[IntKind.wrap_u64];omega
def Qzs{S}{h}{p}{s}(T:YS S h p s)(cls){done}(hd:done<18446744073709551616){bytes}(J5:1<=bytes)(ZB:bytes<=16384)(real):
  QH prog 190 h [.ptr p 0 0 0,Qa cls,u64 done,Qa bytes,QT real] (λd h'=>Step S h h'/\YS (more S h) h' p (YP s cls done bytes real)):=by
 obtain⟨cm,rm,c1,Zx,c2,Z1,T⟩:=T;have ho:=T.o;have hm:=T.co;have hr:=T.ro;have QA:=T.ne;have Ql:=Qb ho;have Zg:=Qb hm;have q4:=Qb hr;have hp:=T.ca cls;have Rh:p≠cm:=λe=>by rw[e,hm]at ho;cases ho
 have Db:p≠rm:=λe=>by rw[e,hr]at ho;cases ho
 have same:∀g:List Ob,YP s cls done bytes real=s->Step S h (h++g)/\YS (more S h) (h++g) p (YP s cls done bytes real):=λg e=>by
  rw[e];exact⟨Step.app S h g,YS.step (λj hj h1=>⟨.inl h1,QG hj⟩) ⟨cm,rm,c1,Zx,c2,Z1,T⟩⟩
 have gu:YP s cls done bytes real=s->Step S h h/\YS (more S h) h p (YP s cls done bytes real):=λe=>by
  have:=same [] e;rwa [JI]at this
 obtain⟨r,Av⟩:∃r,r=s.rows cls:=⟨_,rfl⟩;have ZG:=T.rw_ cls;rw[<- Av]at ZG;cases hk:ZL Zx cls with
 | none=>
  rw[hk]at hp;have h0:=hp.nil;have fin:=gu (by unfold YP;rw[h0]);refine QQ func190 ntmps190 results190 λbase w pl hb=>?_;have Ql:=Qb ho;have Zg:=Qb hm;simp only[go_sem,ho,hm,hk];exact fin
 | some d=>
  rw[hk]at hp;rcases hp with ⟨h2,h3⟩|⟨lo,g,off,row,h2,hS,h3,h4⟩
  .simp only[KR]at h2;subst h2;have fin:=gu (by unfold YP;rw[h3]);refine QQ func190 ntmps190 results190 λbase w pl hb=>?_;have Ql:=Qb ho;have Zg:=Qb hm;simp only[go_sem,ho,hm,hk];exact fin
  .simp only[KR]at h2;subst h2;have KB:=Qb h3;cases hc:s.Jc cls with
   | nil=>
    have fin:=gu (by unfold YP;rw[hc]);rw[hc]at hk;refine QQ func190 ntmps190 results190 λbase w pl hb=>?_;have Ql:=Qb ho;have Zg:=Qb hm;simp only[go_sem,ho,hm,hk];exact fin
   | cons a l=>
    rw[hc]at hk h3 h4;have ha:=h4 0 σ;simp only[go_sem,BP,List.getD_cons_zero]at ha;have d1:decide (bytes<1)=false:=QI ω;have d0:(((l.length+1:Nat):Int)==0)=false:=ξ;have g1:(0:Int)<((l.length+1:Nat):Int):=ω;have g2:off<off+(l.length+1):=ω;have n1:lo≠p:=λe=>by rw[e,ho]at h3;cases h3
    have n2:lo≠cm:=λe=>by rw[e,hm]at h3;cases h3
    have n3:rm≠lo:=λe=>by rw[<- e,hr]at h3;cases h3
    have PM:∀k j g off n,ZL Zx k=some (.ref j g off n)->j<h.length:=λk j g off n hk=>by
     rcases T.ca k with ⟨h1,_⟩|⟨j',_,_,_,h1,_,h3,_⟩
     .rw[hk]at h1;cases h1
     .rw[hk]at h1;cases h1;exact Qb h3
    have su:∀(R2:ji) (o:Ob),YP s cls done bytes real=⟨λk=>if k=cls then l else s.Jc k,λk=>if k=cls then R2 else s.rows k⟩ ->
      Step S h ((h.set rm (JZ .i64 c2 Z1 cls (.agg R2.cells))).set cm (JZ .i64 c1 Zx cls (.ref lo g (off+1) l.length))++[o])/\YS (more S h) ((h.set rm (JZ .i64 c2 Z1 cls (.agg R2.cells))).set cm (JZ .i64 c1 Zx cls (.ref lo g (off+1) l.length))++[o]) p (YP s cls done bytes real):=λR2 o e=>by
     rw[e];obtain⟨c2',Ep,T1⟩:=T.row (h':=h.set rm (JZ .i64 c2 Z1 cls (.agg R2.cells))) (r:=R2) (cls:=cls) (QE q4) (λj o hj h1=>by rw[Qr (Q3 h1)];exact hj);have hlen:(h.set rm (JZ .i64 c2 Z1 cls (.agg R2.cells))).length=h.length:=σ;have SQ:more S (h.set rm (JZ .i64 c2 Z1 cls (.agg R2.cells)))=more S h:=by unfold more;rw[hlen]
     refine⟨⟨λj hj hn=>?_,σ⟩,?_⟩
     .rw[QG (by simpa using hj),Qr (λe=>hn (by rw[<- e];exact T.sc)),Qr (λe=>hn (by rw[<- e];exact T.sr))]
     .rw[<- SQ];refine T1.put (d:=.ref lo g (off+1) l.length) lo ?_ (λj o hj h1 h2=>?_) (.inr ⟨lo,g,off+1,row,rfl,.inl hS,?_,λi hi=>?_⟩) (λj g off n e=>by cases e;rfl) (λk j g' vQ n' QA ZJ e=>?_) (Q3 n1) n3
      .rw[QG (by simpa using Zg),QE (by simpa using Zg)]
      .rw[QG (by have:=Qb hj;simpa using this),Qr (Q3 h1),hj]
      .rw[QG (by simpa using KB),Qr (Q3 n2),Qr n3,h3];simp only[Kv,QY,Ob.mk.injEq,vO,and_true];omega
      .rw[show off+1+i=off+(i+1) by omega,h4 (i+1) (by simpa using hi)];simp
      .subst e;exact QA (T.sep _ _ _ _ _ _ _ _ _ ZJ hk)
    by_cases h5:done<a
    .have d2:=QU h5;have fin:=gu (by unfold YP;rw[hc];dsimp only;rw[Qc ω,Qd h5]);refine QQ func190 ntmps190 results190 λbase w pl hb=>?_;have Ql:=Qb ho;have Zg:=Qb hm;have KB:=Qb h3;simp only[go_sem,ho,hm,h3,hk,d0,d1,d2,ha];exact⟨g1,g2,fin⟩
    .have d2:=QI h5;have e0:YP s cls done bytes real=⟨λk=>if k=cls then l else s.Jc k,λk=>if k=cls then ya r a done bytes real else s.rows k⟩:=by
      unfold YP;rw[hc];dsimp only;rw[Qc ω,Qc h5];congr 1;funext k;by_cases zj:k=cls
      .rw[Qd zj,Qd zj,zj,<- Av]
      .rw[Qc zj,Qc zj]
     have fin:∀(o:Ob) (R2:ji),R2=ya r a done bytes real->∀n,n=l.length->Step S h ((h.set rm (JZ .i64 c2 Z1 cls (.agg R2.cells))).set cm (JZ .i64 c1 Zx cls (.ref lo g (off+1) n))++[o])/\YS (more S h) ((h.set rm (JZ .i64 c2 Z1 cls (.agg R2.cells))).set cm (JZ .i64 c1 Zx cls (.ref lo g (off+1) n))++[o]) p (YP s cls done bytes real):=λo R2 sQ n hn=>by
      subst hn;exact su R2 o (by rw[e0,sQ])
     have w1:IntKind.u64.wrap ((r.p:Int)+1)=(((r.p+1) % 18446744073709551616:Nat):Int):=OJ r.p 1;have w2:IntKind.u64.wrap bytes=((bytes.toNat:Nat):Int):=η;have w3:=OJ r.b bytes.toNat
     have w4:IntKind.u64.wrap ((r.r:Int)+1)=(((r.r+1) % 18446744073709551616:Nat):Int):=OJ r.r 1;have w5:IntKind.u64.wrap ((done:Int) - (a:Int))=((done - a:Nat):Int):=η;have w6:=OJ r.w (done - a);have w7:max ((r.l:Nat):Int) ((done - a:Nat):Int)=((max r.l (done - a):Nat):Int):=ω;have w8:(((l.length+1:Nat):Int) - 1).toNat=l.length:=ω;have Jf:(ZL Z1 cls=some (.agg r.cells))\/(ZL Z1 cls=none/\r=default):=by
      cases hh:ZL Z1 cls with
      | some d=>rw[hh]at ZG;exact .inl (congrArg some ZG)
      | none=>
       rw[hh]at ZG;have ZG:D.agg (default:ji).cells=D.agg r.cells:=ZG;exact .inr ⟨rfl,(ji.Qzr (D.agg.inj ZG)).symm⟩
     rcases Jf with Jf|⟨Jf,WQ⟩
     .refine QQ func190 ntmps190 results190 λbase w pl hb=>?_;have Ql:=Qb ho;have Zg:=Qb hm;have KB:=Qb h3;have q4:=Qb hr;simp only[go_sem,Qe,ho,hm,h3,hr,hk,d0,d1,d2,ha,Jf,w1,w2,w3];cases real with
      | true=>
       have xZ:=fin ⟨.one,0,5,1,λ_=>(ya r a done bytes true).cells⟩ _ rfl _ w8;simp only[go_sem,ya,↓reduceIte,w8]at xZ;simp only[go_sem,Qe,w4];repeat (refine And.intro (by first|exact g1|exact g2|omega) ?_)
       apply QF hb Eq;simp only[go_sem,Qe,h3,KB,ha,w5,w6];repeat (refine And.intro (by first|exact g1|exact g2|omega) ?_)
       apply QF hb Eq;simp only[go_sem,Qe,h3,KB,ha,w5,w7];repeat (refine And.intro (by first|exact g1|exact g2|omega) ?_)
       apply QF hb i6;simp only[go_sem,Qe,ho,Ql,hr,q4];repeat (refine And.intro (by first|exact g1|exact g2|omega) ?_)
       apply QF hb ut;simp only[go_sem,Qe,ho,Ql,h3,KB,hm,Zg,Qr Db.symm,Qr QA.symm,Qr n3];repeat (refine And.intro (by first|exact g1|exact g2|omega) ?_)
       simp only[go_sem,w8];exact xZ
      | false=>
       have xZ:=fin ⟨.one,0,5,1,λ_=>(ya r a done bytes false).cells⟩ _ rfl _ w8;simp only[go_sem,ya,↓reduceIte,w8,q7]at xZ;simp only[go_sem];repeat (refine And.intro (by first|exact g1|exact g2|omega) ?_)
       apply QF hb Eq;simp only[go_sem,Qe,h3,KB,ha,w5,w6];repeat (refine And.intro (by first|exact g1|exact g2|omega) ?_)
       apply QF hb Eq;simp only[go_sem,Qe,h3,KB,ha,w5,w7];repeat (refine And.intro (by first|exact g1|exact g2|omega) ?_)
       apply QF hb i6;simp only[go_sem,Qe,ho,Ql,hr,q4];repeat (refine And.intro (by first|exact g1|exact g2|omega) ?_)
       apply QF hb ut;simp only[go_sem,Qe,ho,Ql,h3,KB,hm,Zg,Qr Db.symm,Qr QA.symm,Qr n3];repeat (refine And.intro (by first|exact g1|exact g2|omega) ?_)
       simp only[go_sem,w8];exact xZ
     .have WQ:r=⟨0,0,0,0,0⟩:=WQ;subst WQ;have v1:IntKind.u64.wrap 1=1:=rfl;have v3:IntKind.u64.wrap (0+((bytes.toNat:Nat):Int))=(((0+bytes.toNat) % 18446744073709551616:Nat):Int):=OJ 0 bytes.toNat
      have v6:IntKind.u64.wrap (0+((done - a:Nat):Int))=(((0+(done - a)) % 18446744073709551616:Nat):Int):=OJ 0 (done - a);have v7:max (0:Int) ((done - a:Nat):Int)=((max 0 (done - a):Nat):Int):=ω;refine QQ func190 ntmps190 results190 λbase w pl hb=>?_;have Ql:=Qb ho;have Zg:=Qb hm;have KB:=Qb h3;have q4:=Qb hr;simp only[go_sem,Qe,ho,hm,h3,hr,hk,d0,d1,d2,ha,Jf,w2,v1,v3];cases real with
      | true=>
       have xZ:=fin ⟨.one,0,5,1,λ_=>(ya ⟨0,0,0,0,0⟩ a done bytes true).cells⟩ _ rfl _ w8;simp only[go_sem,ya,↓reduceIte,w8]at xZ;simp only[go_sem,Qe,v1];repeat (refine And.intro (by first|exact g1|exact g2|omega) ?_)
       apply QF hb Eq;simp only[go_sem,Qe,h3,KB,ha,w5,v6];repeat (refine And.intro (by first|exact g1|exact g2|omega) ?_)
       apply QF hb Eq;simp only[go_sem,Qe,h3,KB,ha,w5,v7];repeat (refine And.intro (by first|exact g1|exact g2|omega) ?_)
       apply QF hb i6;simp only[go_sem,Qe,ho,Ql,hr,q4];repeat (refine And.intro (by first|exact g1|exact g2|omega) ?_)
       apply QF hb ut;simp only[go_sem,Qe,ho,Ql,h3,KB,hm,Zg,Qr Db.symm,Qr QA.symm,Qr n3];repeat (refine And.intro (by first|exact g1|exact g2|omega) ?_)
       simp only[go_sem,w8];exact xZ
      | false=>
       have xZ:=fin ⟨.one,0,5,1,λ_=>(ya ⟨0,0,0,0,0⟩ a done bytes false).cells⟩ _ rfl _ w8;simp only[go_sem,ya,↓reduceIte,w8,q7]at xZ;simp only[go_sem];repeat (refine And.intro (by first|exact g1|exact g2|omega) ?_)
       apply QF hb Eq;simp only[go_sem,Qe,h3,KB,ha,w5,v6];repeat (refine And.intro (by first|exact g1|exact g2|omega) ?_)
       apply QF hb Eq;simp only[go_sem,Qe,h3,KB,ha,w5,v7];repeat (refine And.intro (by first|exact g1|exact g2|omega) ?_)
       apply QF hb i6;simp only[go_sem,Qe,ho,Ql,hr,q4];repeat (refine And.intro (by first|exact g1|exact g2|omega) ?_)
       apply QF hb ut;simp only[go_sem,Qe,ho,Ql,h3,KB,hm,Zg,Qr Db.symm,Qr QA.symm,Qr n3];repeat (refine And.intro (by first|exact g1|exact g2|omega) ?_)
       simp only[go_sem,w8];exact xZ
@[go_sem] def QGl(k:List Int):List D:=k.map λn=>.raw (.int .u16 n)
def QiH:QW prog 138 [] (QN (.agg [.raw (.int .u16 65535),.raw (.int .u16 65535),.raw (.int .u16 65535),.raw (.int .u16 65535)])):=by
 refine xT 0 func138 ntmps138 results138 λbase w hb=>?_;simp only[go_sem]
def QiI(a0 a1 a2 a3 b0 b1 b2 b3):QW prog 137 [.agg [.raw (.int .u16 a0),.raw (.int .u16 a1),.raw (.int .u16 a2),.raw (.int .u16 a3)],.agg [.raw (.int .u16 b0),.raw (.int .u16 b1),.raw (.int .u16 b2),.raw (.int .u16 b3)]]
  (QN (.agg [.raw (.int .u16 (vz a0 b0)),.raw (.int .u16 (vz a1 b1)),.raw (.int .u16 (vz a2 b2)),.raw (.int .u16 (vz a3 b3))])):=by
 refine xT 0 func137 ntmps137 results137 λbase w hb=>?_;simp only[go_sem];have w1:IntKind.i64.wrap 1=1:=rfl;have w2:IntKind.i64.wrap 2=2:=rfl;have w3:IntKind.i64.wrap 3=3:=rfl;have w4:IntKind.i64.wrap 4=4:=rfl;refine wv 4 ?_;apply Qn hb;apply QF hb i7;simp only[go_sem];apply Qn hb;apply QF hb i7;simp only[go_sem];apply Qn hb;apply QF hb i7;simp only[go_sem];apply Qn hb;apply QF hb i7;simp only[go_sem];apply Qn hb;apply Qn hb;rfl
theorem Qzt(r:JT)(x:Pk):qY r (ZR x)=(vz x.wc r.yI==r.Ia&&(vz x.wg r.yJ==r.Ib&&(vz x.wh r.DV==r.Ic&&(vz x.wi r.Cg==r.DW&&true)))):=rfl
@[go_sem] def gv(x:Pk):List D:=[.raw (.int .u16 x.wc),.raw (.int .u16 x.wg),.raw (.int .u16 x.wh),.raw (.int .u16 x.wi)]
def QiJ(r:JT)(x):QW prog 184 [.agg r.cells,.agg (gv x)] (QN (QT (qY r (ZR x)))):=by
 rw[Qzt];refine xT 0 func184 ntmps184 results184 λbase w hb=>?_;simp only[go_sem];apply QF hb [0,1,2,4,5,1003,6,7];simp only[go_sem];apply Jb hb mO (QiI x.wc x.wg x.wh x.wi r.yI r.yJ r.DV r.Cg);exact Iq hb
structure QiK (h:List Ob) (p:Nat) (dr:D) (le:Nat) (dm:D) (c:Nat) (es:List Xi) (ms:List Nat) (R:List JT):Prop where
 o:(h.map Ob.ro)[p]? = some (LF dr le dm).ro
 eo:(h.map Ob.ro)[le]? = some (kQ c es).ro
 rs:(dr=.nil/\R=[])\/∃lo g row,dr=.ref lo g 0 R.length/\(h.map Ob.ro)[lo]? = some ⟨.yl,g,9,R.length,row⟩/\∀i,i<R.length->row i=(R.getD i default).cells
 mo:(dm=.nil/\ms=[])\/∃lo g row,dm=.ref lo g 0 ms.length/\(h.map Ob.ro)[lo]? = some ⟨.yl,g,1,ms.length,row⟩/\∀i,i<ms.length->row i=[Qa ((ms.getD i 0:Nat):Int)]
 I:Yr R R.length es ms
 ok:qy R=0
def tQ.toR{S}{h}{p}{dr}{le}{dm}{c}{es}{ms}{R}(T:tQ S h p dr le dm c es ms R):QiK h p dr le dm c es ms R:=
 ⟨ZC T.o,ZC T.eo,T.rs.imp id λ⟨lo,g,row,h1,_,h3,h4⟩=>⟨lo,g,row,h1,ZC h3,h4⟩,T.mo.imp id λ⟨lo,g,row,h1,_,h3,h4⟩=>⟨lo,g,row,h1,ZC h3,h4⟩,T.I,T.ok⟩
def tS{R}(h:qy R=0):∀r∈R,1<=r.cls:=λr hr=>by
 unfold qy at h;split at h
 .cases h
 .split at h
  .rename_i h2;have:=XK.1 h2 r hr;unfold yc at this;simp only[Zy,XL]at this;exact this.1.1
  .cases h
def inc_le:∀(ms:List Nat) (n b:Nat),ms.Pairwise (·<·)->(∀j∈ms,b<=j/\j<n)->ms.length<=n - b
 | [],n,b,_,_=>Jh _
 | a::ms,n,b,hi,h=>by
  rw[yj]at hi;have h1:=h a σ;have:=inc_le ms n (a+1) hi.2 λj hj=>⟨hi.1 j hj,(h j (by simp[hj])).2⟩;simp only[Kv];omega
def Qzu{h}{p}{dr}{le}{dm}{c}{es}{ms}{R}(T:QiK h p dr le dm c es ms R)(x)(hx:TI x):
  Q6 prog 147 h [.ptr p 0 0 0,.agg (gv x)] (λd=>d=.tup [Qa (Kr R (ZR x)),Qa (if Kr R (ZR x)=0 then 31 else 0)]):=by
 have ho:=T.o;have he:=T.eo;have h4:=T.I.four;obtain⟨q,hq⟩:∃q,q=WT es (ZR x):=⟨_,rfl⟩;have Dc:=hq;simp only[ZR]at Dc;have ms0:∀j,j<ms.length->ms.getD j 0∈ms:=λj hj=>qg ms 0 j hj;have TM:∀i∈ms,∃j,j<ms.length/\ms.getD j 0=i:=λi hi=>by
  obtain⟨j,hj,e⟩:=wZ hi;exact⟨j,hj,by rw[Q5,QP hj];exact e⟩
 have yv:ms.length<=32:=by
  have h1:=inc_le ms R.length 0 T.I.inc λj hj=>⟨Jh j,((T.I.mem j).1 hj).1⟩;have h2:R.length<=32:=by
   have:=T.ok;unfold qy at this;split at this
   .cases this
   .omega
  omega
 have Qzv:∀j k,j<k->k<ms.length->ms.getD j 0<ms.getD k 0:=λj k VY hk=>by
  have:=List.pairwise_iff_getElem.1 T.I.inc j k ω hk VY;rw[Q5,Q5,QP hk,QP (show j<ms.length from ω)];exact this
 have tT:∀j k,j<ms.length->ms.getD j 0<ms.getD k 0->j<k:=λj k hj h=>kC λhc=>by
  rcases Nat.lt_or_eq_of_le (Nat.le_of_not_lt hc) with h2|h2
  .have:=Qzv k j h2 hj;omega
  .rw[h2]at h;omega
 cases q with
 | none=>
  have out:(∀j∈ms,qY (JB R j) (ZR x)=false)->Kr R (ZR x)=0:=λZP=>by
   unfold Kr;rw[T.I.none hx hq.symm ZP]
  rcases T.mo with ⟨rfl,rfl⟩|⟨lm,gm,tU,rfl,hm,qm⟩
  .rw[out (λj hj=>by cases hj),Qd rfl];refine xD func147 ntmps147 results147 λbase w pl F hF Q7 hb=>?_;rw[<- hF]at ho he;have Ql:=Qb ho;have WK:=Qb he;simp only[go_sem];apply QF hb i5;simp only[go_sem,Qe,ho,Ql,he,WK,<- Dc];refine⟨h4,?_⟩;refine wv 0 ?_;apply Qn hb;apply Qn hb;all_goals exact cD
  .refine xD func147 ntmps147 results147 λbase w pl F hF Q7 hb=>?_;rw[<- hF]at ho he hm;have Ql:=Qb ho;have WK:=Qb he;have Zg:=Qb hm;simp only[go_sem];apply QF hb i5;simp only[go_sem,Qe,ho,Ql,he,WK,<- Dc];refine⟨h4,?_⟩;refine Z3 (λk s=>(∀j,j<k->qY (JB R (ms.getD j 0)) (ZR x)=false)/\s=⟨[(0,.ptr p 0 0 0),(3,.ptr F.length 0 0 0),(6,Qa 0),(7,QT false),(24,.ref lm gm 0 ms.length),(25,Qa ms.length),(26,Qa k)],F++[(⟨.one,0,4,1,λ_=>gv x⟩:Ob)]⟩) ms.length QM ⟨λj hj=>absurd hj (WZ j),rfl⟩ ?_;rintro k _ hk ⟨ZP,rfl⟩;by_cases Qj:k<ms.length
   .have dk:=QU Qj;have Zb:=J9 (show k<4611686018427387904 from ω);obtain⟨i,hi⟩:∃i,i=ms.getD k 0:=⟨_,rfl⟩;have Ir:=ms0 k Qj;rw[<- hi]at Ir;obtain⟨vC,tV⟩:=(T.I.mem i).1 Ir;have wm:=qm k Qj;rw[<- hi]at wm;rcases T.rs with ⟨h1,h2⟩|⟨lr,gr,gw,rfl,hr,Av⟩
    .rw[h2]at vC;simp at vC
    rw[<- hF]at hr;have q4:=Qb hr;have wJ:gw i=(JB R i).cells:=Av i vC;obtain⟨r,WQ⟩:∃r,r=JB R i:=⟨_,rfl⟩;rw[<- WQ]at wJ;have M:=QiJ r x;simp only[go_sem]at wJ wm;cases CG:qY r (ZR x) with
    | false=>
     rw[CG]at M;apply Qg hb;simp only[go_sem,Qe,Qj,hm,Zg,wm,Go.undef];apply QF hb i7;simp only[go_sem,Qe,ho,Ql,hr,q4,wJ,vC];apply Jb hb cE M;apply Cs hb;repeat (refine And.intro δ ?_)
     refine⟨_,Qz.frame (fr':=[(0,.ptr p 0 0 0),(3,.ptr F.length 0 0 0),(6,Qa 0),(7,QT false),(24,.ref lm gm 0 ms.length),(25,Qa ms.length),(26,Qa (k+1:Nat))]) (by simp only[go_sem,Zb]),λj hj=>?_,rfl⟩;rcases vM.1 hj with h5|rfl
     .exact ZP j h5
     .rw[<- hi,<- WQ];exact CG
    | true=>
     rw[CG]at M;have e0:Kr R (ZR x)=r.cls:=by
      unfold Kr;rw[T.I.Xh hx vC tV (by rw[<- WQ];exact CG) (λj hj kU=>?_) (λa' VI=>?_),<- WQ]
      .obtain⟨j2,e1,e2⟩:=TM j hj;rw[<- e2];exact ZP j2 (tT j2 k e1 ω)
      .rw[<- hq]at VI;cases VI
     have yu:=tS T.ok r (by rw[WQ];exact qg R default i vC);rw[e0,Qc ω];apply Qg hb;simp only[go_sem,Qe,Qj,hm,Zg,wm,Go.undef];apply QF hb i7;simp only[go_sem,Qe,ho,Ql,hr,q4,wJ,vC];apply Jb hb cE M;apply ZH hb;simp only[go_sem,Qe,ho,Ql,hr,q4,wJ,vC];all_goals exact cD
   .have Jf:k=ms.length:=ω;have dk:=QI Qj;subst Jf;have Kj:∀j∈ms,qY (JB R j) (ZR x)=false:=λj hj=>by
     obtain⟨j2,e1,e2⟩:=TM j hj;rw[<- e2];exact ZP j2 e1
    rw[out Kj,Qd rfl];apply Qg hb;simp only[go_sem,dk];apply Qn hb;all_goals exact cD
 | some d=>
  obtain⟨a,rfl,LH,ML,SV,han⟩:=T.I.yes _ _ hq.symm;rcases T.rs with ⟨h1,h2⟩|⟨lr,gr,gw,rfl,hr,Av⟩
  .rw[h2]at LH;simp at LH
  have TN:gw a=(JB R a).cells:=Av a LH;obtain⟨ra,tW⟩:∃r,r=JB R a:=⟨_,rfl⟩;rw[<- tW]at TN;have gy:=tS T.ok ra (by rw[tW];exact qg R default a LH);have out:(∀j∈ms,j<a->qY (JB R j) (ZR x)=false)->Kr R (ZR x)=ra.cls:=λZP=>by
   unfold Kr;rw[(T.I.whole hx hq.symm ZP).2,<- tW]
  simp only[go_sem]at TN;rcases T.mo with ⟨rfl,rfl⟩|⟨lm,gm,tU,rfl,hm,qm⟩
  .rw[out (λj hj=>by cases hj),Qc ω];refine xD func147 ntmps147 results147 λbase w pl F hF Q7 hb=>?_;rw[<- hF]at ho he hr;have Ql:=Qb ho;have WK:=Qb he;have q4:=Qb hr;simp only[go_sem];apply QF hb i5;simp only[go_sem,Qe,ho,Ql,he,WK,<- Dc];refine⟨h4,?_⟩;refine wv 0 ?_;apply Qn hb;apply Qg hb;simp only[go_sem,Qe,ho,Ql,hr,q4,TN,LH];all_goals exact cD
  .refine xD func147 ntmps147 results147 λbase w pl F hF Q7 hb=>?_;rw[<- hF]at ho he hr hm;have Ql:=Qb ho;have WK:=Qb he;have q4:=Qb hr;have Zg:=Qb hm;simp only[go_sem];apply QF hb i5;simp only[go_sem,Qe,ho,Ql,he,WK,<- Dc];refine⟨h4,?_⟩;refine Z3 (λk s=>(∀j,j<k->qY (JB R (ms.getD j 0)) (ZR x)=false)/\s=⟨[(0,.ptr p 0 0 0),(3,.ptr F.length 0 0 0),(6,Qa a),(7,QT true),(24,.ref lm gm 0 ms.length),(25,Qa ms.length),(26,Qa k)],F++[(⟨.one,0,4,1,λ_=>gv x⟩:Ob)]⟩) ms.length QM ⟨λj hj=>absurd hj (WZ j),rfl⟩ ?_;rintro k _ hk ⟨ZP,rfl⟩;by_cases Qj:k<ms.length
   .have dk:=QU Qj;have Zb:=J9 (show k<4611686018427387904 from ω);obtain⟨i,hi⟩:∃i,i=ms.getD k 0:=⟨_,rfl⟩;have Ir:=ms0 k Qj;rw[<- hi]at Ir;obtain⟨vC,tV⟩:=(T.I.mem i).1 Ir;have wm:=qm k Qj;rw[<- hi]at wm;have wJ:gw i=(JB R i).cells:=Av i vC;obtain⟨r,WQ⟩:∃r,r=JB R i:=⟨_,rfl⟩;rw[<- WQ]at wJ;have M:=QiJ r x;simp only[go_sem]at wJ wm;by_cases NW:a<i
    .have da:=QU NW;rw[out (λj hj hja=>by
      obtain⟨j2,e1,e2⟩:=TM j hj;rw[<- e2];exact ZP j2 (tT j2 k e1 ω)),Qc ω]
     apply Qg hb;simp only[go_sem,Qe,Qj,hm,Zg,wm,da];apply Qg hb;simp only[go_sem,Qe,ho,Ql,hr,q4,TN,LH];all_goals exact cD
    .have da:=QI NW;cases CG:qY r (ZR x) with
     | false=>
      rw[CG]at M;apply Qg hb;simp only[go_sem,Qe,Qj,hm,Zg,wm,da];apply QF hb i7;simp only[go_sem,Qe,ho,Ql,hr,q4,wJ,vC];apply Jb hb cE M;apply Cs hb;repeat (refine And.intro δ ?_)
      refine⟨_,Qz.frame (fr':=[(0,.ptr p 0 0 0),(3,.ptr F.length 0 0 0),(6,Qa a),(7,QT true),(24,.ref lm gm 0 ms.length),(25,Qa ms.length),(26,Qa (k+1:Nat))]) (by simp only[go_sem,Zb]),λj hj=>?_,rfl⟩;rcases vM.1 hj with h5|rfl
      .exact ZP j h5
      .rw[<- hi,<- WQ];exact CG
     | true=>
      rw[CG]at M;have e0:Kr R (ZR x)=r.cls:=by
       unfold Kr;rw[T.I.Xh hx vC tV (by rw[<- WQ];exact CG) (λj hj kU=>?_) (λa' VI=>?_),<- WQ]
       .obtain⟨j2,e1,e2⟩:=TM j hj;rw[<- e2];exact ZP j2 (tT j2 k e1 ω)
       .rw[<- hq]at VI;have:=Mf VI;simp only[Qa,D.raw.injEq,Value.int.injEq,vO]at this;omega
      have yu:=tS T.ok r (by rw[WQ];exact qg R default i vC);rw[e0,Qc ω];apply Qg hb;simp only[go_sem,Qe,Qj,hm,Zg,wm,da];apply QF hb i7;simp only[go_sem,Qe,ho,Ql,hr,q4,wJ,vC];apply Jb hb cE M;apply ZH hb;simp only[go_sem,Qe,ho,Ql,hr,q4,wJ,vC];all_goals exact cD
   .have Jf:k=ms.length:=ω;have dk:=QI Qj;subst Jf;rw[out (λj hj _=>by
     obtain⟨j2,e1,e2⟩:=TM j hj;rw[<- e2];exact ZP j2 e1),Qc ω]
    apply Qg hb;simp only[go_sem,dk];apply Qg hb;simp only[go_sem,Qe,ho,Ql,hr,q4,TN,LH];all_goals exact cD
end Go.Fg.X
namespace Go.Fg
open Go.RowKit (Below)
variable {Z:Nat->Prop}
section
variable {P:Program}{L:Z8}{base nt:Nat}{s:St}{o:Oper}
end
section
variable {P:Program}{L:Z8}{base nt:Nat}{w0:Start}{Q:Exit->St->Prop}
end
def gz:D->Bool
 | .imm _ _ _=>true
 | .ref _ _ _ _=>true
 | .nil=>true
 | _=>false
section
variable {P:Program}{L:Z8}{base nt:Nat}{s:St}{o:Oper}
end
section
variable {P:Program}{L:Z8}{base nt:Nat}{w0:Start}{Q:Exit->St->Prop}
end
def TO:D->Nat
 | .imm _ n _=>n
 | _=>0
def Qzw{h}{pl}{w}{d}{v}(r:QC Z h pl w d v)(hd:gz d=true):∃a n cap,v=.slice a n cap/\(a.isNone=true->TO d=0):=by
 cases d<;>simp only[gz,q7]at hd;all_goals first
  | (obtain⟨a,e⟩:=Dp r;exact⟨_,_,_,e,λ_=>rfl⟩)
  | (obtain⟨a,cap,_,_,_,e,h0,_⟩:=PF r;refine⟨_,_,_,e,λhn=>Nat.eq_zero_of_not_pos λhp=>?_⟩;have hq:0<_:=hp;simp only[TO]at hq;rw[h0 hq]at hn;cases hn)
  | (obtain⟨_,_,a,cap,e,_⟩:=Dq r;exact⟨_,_,_,e,λ_=>rfl⟩)
section
variable {P:Program}{L:Z8}{base nt:Nat}{w0:Start}{Q:Exit->St->Prop}
def Qzx(hL:Z5 P L){Q:Exit->St->Prop}{o:Oper}{rest:List (Oper × G)}{s:St}{t t' e a b:Nat}{x:Operand}{zt:List Value}(ho:o.op=.binOp .eql t x (.const (.slice none 0 0)) t')(hx:gz (Qo s.fr x)=true)(ht:ty L t=some ⟨.slice e,a,b,zt⟩)(hd:Zk nt o.dst=true)
  (hk:∀b:Bool,(b=true->TO (Qo s.fr x)=0)->AG P base nt w0 rest Q ⟨Za s.fr o.dst (.raw (.bool b)),s.h⟩):AG P base nt w0 ((o,none)::rest) Q s:=by
 intro Z z pl ac w r b;obtain⟨ad,n,cap,hv,hb⟩:=Qzw (r.eval x) hx;have hc:ac.eval (.const (.slice none 0 0))=.slice none 0 0:=rfl;have Ze:(execOp ac.eval o).run P w=.ok (.value (.bool ad.isNone)) w:=by
  have hu:=xi (hL _ _ ht) rfl;have he:(Op.equal t (.slice ad n cap) (.slice none 0 0)).run P w=.ok ad.isNone w:=iG λm=>by
   cases ad<;>simp[Op.equalIn,run_underlying hu]
  have hq:(eqGuard .eql t x (.const (.slice none 0 0)) (.slice ad n cap) (.slice none 0 0)).run P w=.ok () w:=by simp[eqGuard]
  simp[execOp,ho,hv,hc,Go.binOp,he,hq]
 simp only[Yx,W3,Vs];unfold Oper.wp;rw[Ze];simp only[Oper.upon_value];refine hk _ hb Z z pl _ w ?_ b;cases hdd:o.dst with
 | none=>exact r
 | some t=>rw[hdd]at hd;exact r.to (Tr.ext r.o λ_ _=>rfl) r.o (jE hd) (.cl _ _ (.raw _))
def Qzz(hL:Z5 P L){k:List Item}{dst:Option Nat}{Ei:TypeId}{pos:String}{after:Array Edge}{gd:Option (Nat × Bool)}{r:List (Oper × G)}{s:St}{t t' e a b:Nat}{x:Operand}{zt:List Value}
  (hx:gz (Qo s.fr x)=true) (ht:ty L t=some ⟨.slice e,a,b,zt⟩) (hd:Zk nt dst=true) (h1:∀b:Bool,(b=true->TO (Qo s.fr x)=0)->Qv P base nt w0 Q (.ops r::k) .normal ⟨Za s.fr dst (.raw (.bool b)),s.h⟩) :
  Qv P base nt w0 Q (.ops ((⟨dst,.binOp .eql t x (.const (.slice none 0 0)) t',Ei,pos,after,gd⟩,none)::r)::k) .normal s:=by
 simp only[Qv]at h1 ⊢;exact Qzx hL rfl hx ht hd h1
end
end Go.Fg
namespace Go.Fg.X
open Go.Proofs Go.Fg
open Go.Proofs.Tryz
@[go_sem] def EY(l:List JT):D:=.imm 9 l.length (JT.rows l)
def QzA(h:List Ob)(l:List JT)(hl:l.length<1000000):QH prog 136 h [EY l] (λd h'=>∃g,h'=h++g/\zF (λj=>h.length<=j) (h++g) 9 JT.cells d l):=by
 refine QQ func136 ntmps136 results136 λbase w pl hb=>?_;simp only[go_sem];refine Qzz yG (by simp only[go_sem];rfl) rfl rfl λb Zp=>?_;cases b with
 | true=>
  have h0:=Zp rfl;simp only[go_sem,TO]at h0;apply Qn hb;exact⟨[],(JI h).symm,.inl ⟨rfl,Di.1 h0⟩⟩
 | false=>
  apply JH hb;refine⟨ω,_,rfl,.inr ⟨h.length,_,_,rfl,QB _,KV rfl,λi hi=>?_⟩⟩;rw[xk (Jh _)];rfl
def QzB(r:JT):(TG r.want r.mask==r.want)=(vz r.Ia r.yI==r.Ia&&(vz r.Ib r.yJ==r.Ib&&(vz r.Ic r.DV==r.Ic&&vz r.DW r.Cg==r.DW))):=by
 rw[<- Bool.and_true (vz r.DW r.Cg==r.DW)];rfl
structure zG (h H:List Ob) (l:List JT) (k p:Nat) (dr:D) (le:Nat) (dm:D) (c:Nat) (es:List Xi) (ms:List Nat):Prop where
 ex:Vj h H
 o:H[p]? = some (LF dr le dm)
 eo:H[le]? = some (kQ c es)
 rs:zF (λj=>h.length<=j) H 9 JT.cells dr l
 mo:zF (λj=>h.length<=j) H 1 (λi:Nat=>[Qa i]) dm ms
 hp:h.length<=p
 he:h.length<=le
 I:Yr l k es ms
 ok:∀j,j<k->yc (JB l j)=true
def zG.app{h H}{l}{k p}{dr}{le}{dm}{c}{es}{ms}(N:zG h H l k p dr le dm c es ms)(g):zG h (H++g) l k p dr le dm c es ms:=
 ⟨N.ex.app g,(QG (Qb N.o)).trans N.o,(QG (Qb N.eo)).trans N.eo,N.rs.step λj hj h1=>⟨h1,QG hj⟩,N.mo.step λj hj h1=>⟨h1,QG hj⟩,N.hp,N.he,N.I,N.ok⟩
def zG.next{h H}{l}{k p}{dr}{le}{dm}{c}{es}{ms}(N:zG h H l k p dr le dm c es ms){H':List Ob}{tX}{c'}{es'}{tY}(hx:Vj h H')(ho:H'[p]? = some (LF dr le tX))(he:H'[le]? = some (kQ c' es'))
  (hk:∀(j:Nat) (o:Ob),H[j]? = some o->o.kd=.arr->o.sz=9->H'[j]? = some o) (hm:zF (λj=>h.length<=j) H' 1 (λi:Nat=>[Qa i]) tX tY) (I:Yr l (k+1) es' tY) (ZM:∀j,j<k+1->yc (JB l j)=true):zG h H' l (k+1) p dr le tX c' es' tY:=
 ⟨hx,ho,he,N.rs.imp id λ⟨lo,g,row,h1,h2,h3,h4⟩=>⟨lo,g,row,h1,h2,hk lo _ h3 rfl rfl,h4⟩,hm,N.hp,N.he,I,ZM⟩
def yd{H:List Ob}{a b:Nat}{o o':Ob}(h1:H[a]? = some o)(h2:H[b]? = some o')(h:o.kd≠o'.kd\/o.sz≠o'.sz):a≠b:=λe=>by
 rw[e,h2]at h1;cases h1;rcases h with h|h<;>exact h rfl
def zG.yI{h H}{l}{k p}{dr}{le}{c}{es}(N:zG h H l k p dr le .nil c es [])(hw:qz (JB l k)=false)(ZM:∀j,j<k+1->yc (JB l j)=true)(o):
  zG h (H.set p (LF dr le (.ref (H.length+2) 0 0 1))++[o,⟨.arr,0,1,1,λ_=>[Qa k]⟩,⟨.arr,0,1,1,λ_=>[Qa k]⟩]) l (k+1) p dr le (.ref (H.length+2) 0 0 1) c es ([]++[k]):=by
 have hp:=Qb N.o;have QA:p≠le:=yd N.o N.eo (.inl nofun);refine N.next ((N.ex.set N.hp _).app _) ?_ ?_ (λj o hj h1 h2=>?_) (.inr ⟨H.length+2,0,λ_=>[Qa k],rfl,by have:=N.ex.len;omega,VD (k:=2) σ,λi hi=>?_⟩) (N.I.mask hw) ZM
 .rw[QG (by simpa using hp),QE hp]
 .rw[QG (by simpa using Qb N.eo),Qr QA];exact N.eo
 .rw[QG (by simpa using Qb hj),Qr (yd N.o hj (.inl (by rw[h1];nofun)))];exact hj
 .simp at hi;subst hi;rfl
def zG.yJ{h H:List Ob}{l}{k p}{dr}{le}{c}{es}{ms:List Nat}{lo g}{row}(N:zG h H l k p dr le (.ref lo g 0 ms.length) c es ms)(Zq:h.length<=lo)(hl:H[lo]? = some ⟨.arr,g,1,ms.length,row⟩)(ZG:∀i,i<ms.length->row i=[Qa ((ms.getD i default:Nat):Int)])
  (hw:qz (JB l k)=false) (ZM:∀j,j<k+1->yc (JB l j)=true) (o o':Ob) :
  zG h ((H.set lo ⟨.arr,g+1,1,ms.length+1,Kt ms.length 0 row λ_=>[Qa k]⟩).set p (LF dr le (.ref lo (g+1) 0 (ms.length+1)))++[o,o']) l (k+1) p dr le (.ref lo (g+1) 0 (ms.length+1)) c es (ms++[k]):=by
 have hp:=Qb N.o;have Xy:=Qb hl;have QA:p≠le:=yd N.o N.eo (.inl nofun);have KJ:lo≠p:=yd hl N.o (.inl nofun);have KO:lo≠le:=yd hl N.eo (.inl nofun);refine N.next (((N.ex.set Zq _).set N.hp _).app _) ?_ ?_ (λj o hj h1 h2=>?_) (.inr ⟨lo,g+1,Kt ms.length 0 row λ_=>[Qa k],σ,Zq,?_,λi hi=>?_⟩) (N.I.mask hw) ZM
 .rw[QG (by simpa using hp),QE (by simpa using hp)]
 .rw[QG (by simpa using Qb N.eo),Qr QA,Qr KO];exact N.eo
 .rw[QG (by simpa using Qb hj),Qr (yd N.o hj (.inl (by rw[h1];nofun))),Qr (yd hl hj (.inr (by rw[h2];show (1:Nat)≠9;decide)))];exact hj
 .rw[QG (by simpa using Xy),Qr (Q3 KJ),QE Xy];simp
 .simp at hi;by_cases qh:i<ms.length
  .rw[Az qh,JD,ZG i qh];simp[qh,JC qh]
  .have:i=ms.length:=ω;subst this;rw[xk (QB _)];simp
def zG.new{h H}{l}{k p:Nat}{dr}{le}{dm}{c}{es}{ms}(N:zG h H l k p dr le dm c es ms)(hw:qz (JB l k)=true)(hn:WT es (JB l k).want=none)(ZM:∀j,j<k+1->yc (JB l j)=true)(o):
  zG h (H.set le (kQ (c+1) (es++[⟨(JB l k).want,Qa k,c⟩]))++[o]) l (k+1) p dr le dm (c+1) (es++[⟨(JB l k).want,Qa k,c⟩]) ms:=by
 have hl:=Qb N.eo;have keep:∀(j:Nat) (o':Ob),H[j]? = some o'->o'.kd≠.map->(H.set le (kQ (c+1) (es++[⟨(JB l k).want,Qa k,c⟩]))++[o])[j]? = some o':=λj o' hj h1=>by
  rw[QG (by simpa using Qb hj),Qr (yd N.eo hj (.inl (Q3 h1)))];exact hj
 refine N.next ((N.ex.set N.he _).app _) (keep _ _ N.o nofun) ?_ (λj o' hj h1 h2=>keep j o' hj (by rw[h1];nofun)) (N.mo.imp id λ⟨lo,g,row,h1,h2,h3,h4⟩=>⟨lo,g,row,h1,h2,keep _ _ h3 nofun,h4⟩) (N.I.new hw hn c) ZM;rw[QG (by simpa using hl),QE hl]
def QiM(h)(l:List JT)(hl:l.length<1000000):
  QH prog 81 h [EY l] (λd h'=>∃g,h'=h++g/\(qy l=0->∃p,d=.tup [.ptr p 0 0 0,Qa 0]/\G1 (λj=>h.length<=j) (h++g) p l)/\(qy l≠0->d=.tup [.raw (.pointer none),Qa (qy l)])):=by
 by_cases GG:32<l.length
 .have d0:decide ((32:Int)<(l.length:Int))=true:=QU ω;have e:qy l=2:=by unfold qy;rw[Qd GG]
  rw[e];refine QQ func81 ntmps81 results81 λbase w pl hb=>?_;simp only[go_sem,d0];exact⟨[],(JI h).symm⟩
 .have d0:decide ((32:Int)<(l.length:Int))=false:=QI ω;refine QQ func81 ntmps81 results81 λbase w pl hb=>?_;simp only[go_sem,d0];refine Zw hb Qp6 (QzA h l hl) λd h1 hR=>?_;obtain⟨g1,rfl,XR⟩:=hR;have e0:=QaJ .i64;simp only[QK]at e0;have hcd:XP d=some [d]:=by rcases XR with ⟨rfl,_⟩|⟨_,_,_,rfl,_⟩<;>rfl
  have hod:d.Vn=true:=by rcases XR with ⟨rfl,_⟩|⟨_,_,_,rfl,_⟩<;>rfl
  apply Qg hb;simp only[go_sem,Qe,hcd,hod];obtain⟨H,hH⟩:∃H,H=h++(g1++[QK .i64 0 [],LF d (h.length+g1.length) .nil]):=⟨_,rfl⟩;have N0:zG h H l 0 (h.length+(g1.length+1)) d (h.length+g1.length) .nil 0 [] []:=by
   rw[<- V9]at hH;subst hH;refine⟨((Vj.refl h).app g1).app _,?_,?_,XR.step λj hj h1=>⟨h1,QG hj⟩,.inl ⟨rfl,rfl⟩,ω,ω,Yr.nil l,λj hj=>absurd hj (WZ j)⟩
   .rw[show h.length+(g1.length+1)=(h++g1).length+1 by simp;omega];exact VD (k:=1) rfl
   .rw[<- QaJ .i64,show h.length+g1.length=(h++g1).length by simp];exact KV rfl
  simp only[go_sem]at hH;rw[<- hH];obtain⟨p,hp⟩:∃p,p=h.length+(g1.length+1):=⟨_,rfl⟩;rw[<- hp]at N0 ⊢;clear hH;refine Z3 (λk s=>∃H dr le dm c es ms,zG h H l k p dr le dm c es ms/\s=⟨[(4,.ptr p 0 0 0),(17,EY l),(18,Qa l.length),(19,Qa k)],H⟩) l.length QM ⟨H,_,_,_,_,_,_,N0,rfl⟩ ?_;clear N0 XR hcd hod e0 H hp d g1;rintro k _ hk ⟨H,dr,le,dm,c,es,ms,N,rfl⟩;by_cases Qj:k<l.length
  .have dk:=QU Qj;obtain⟨r,hr⟩:∃r,r=JB l k:=⟨_,rfl⟩;have Jy:l.getD k default=r:=hr.symm;have WH:r∈l:=by rw[hr];exact qg l default k Qj
   have Zb:=J9 (show k<4611686018427387904 from ω);have ho:=N.o;have Ql:=Qb ho;have he:=N.eo;have WK:=Qb he;have h4:=N.I.four;have hu:=QzB r;have bad:yc r=false->qy l=1:=λhb=>by
    unfold qy;rw[Qc GG,Qc];intro Kj;have:=XK.1 Kj r WH;rw[hb]at this;cases this
   have U:=QiI r.Ia r.Ib r.Ic r.DW r.yI r.yJ r.DV r.Cg;by_cases c1:r.cls<1
   .have d1:=QU c1;rw[bad (by unfold yc;rw[QI (show ¬1<=r.cls from ω)];rfl)];apply Qg hb;simp only[go_sem,Qe,Qj,Jy];apply QF hb o06;simp only[go_sem,Qe,d1,Go.undef];exact N.ex.app _
   have d1:=QI c1;by_cases c2:65536<r.cls
   .have d2:=QU c2;rw[bad (by unfold yc;rw[QI (show ¬r.cls<=65536 from ω),Bool.and_false];rfl)];apply Qg hb;simp only[go_sem,Qe,Qj,Jy];apply QF hb o06;simp only[go_sem,Qe,d1,d2,Go.undef];exact N.ex.app _
   have d2:=QI c2;cases AT:TG r.want r.mask==r.want with
   | false=>
    rw[bad (by unfold yc;rw[AT,Bool.and_false])];rw[AT]at hu;apply Qg hb;simp only[go_sem,Qe,Qj,Jy];apply QF hb o06;simp only[go_sem,Qe,d1,d2];apply Jb hb mO U;apply ZH hb;simp only[go_sem,Qe,<- hu];exact N.ex.app _
   | true=>
    rw[AT]at hu;have ZM:∀j,j<k+1->yc (JB l j)=true:=λj hj=>by
     rcases vM.1 hj with h5|rfl
     .exact N.ok j h5
     .rw[<- hr];unfold yc;rw[AT,QU (show 1<=r.cls from ω),QU (show r.cls<=65536 from ω)];rfl
    obtain⟨q,hq⟩:∃q,q=WT es r.want:=⟨_,rfl⟩;have Dc:=hq;simp only[JT.want]at Dc;have hw:qz r=(r.yI==65535&&(r.yJ==65535&&(r.DV==65535&&r.Cg==65535))):=rfl;obtain⟨b,ZB⟩:∃b,b=qz r:=⟨_,rfl⟩;rw[<- ZB]at hw;apply Qg hb;simp only[go_sem,Qe,Qj,Jy];apply QF hb o06;simp only[go_sem,Qe,d1,d2];apply Jb hb mO U;apply ZH hb;simp only[go_sem,Qe,<- hu];cases q with
    | none=>
     apply QF hb [0,1,2,3,4,5,6,7,8,9,10,11];simp only[go_sem,Qe,ho,Ql,he,WK,<- Dc];refine⟨h4,?_⟩;apply QF hb [0,1,1002,3,4];simp only[go_sem,Qe];apply Jb hb Qdj QiH;apply ZH hb;simp only[go_sem,Qe,<- hw];cases b with
     | false=>
      rcases N.mo with ⟨rfl,rfl⟩|⟨lm,gm,tU,rfl,XF,hm,qm⟩
      .have N2:=N.yI (by rw[<- hr,<- ZB]) ZM ⟨.one,0,9,1,λ_=>r.cells⟩;simp only[go_sem,Qe,ho,Ql];refine⟨Qj,_,Qz.frame (fr':=[(4,.ptr p 0 0 0),(17,EY l),(18,Qa l.length),(19,Qa (k+1:Nat))]) (by simp only[go_sem,Zb]),_,_,_,_,_,_,_,N2,rfl⟩
      .have N2:=N.yJ XF hm qm (by rw[<- hr,<- ZB]) ZM ⟨.one,0,9,1,λ_=>r.cells⟩ ⟨.arr,0,1,1,λ_=>[Qa k]⟩;have Zg:=Qb hm;have Es:lm≠p:=yd hm ho (.inl nofun);have tZ:ms.length<=4294967295:=by
        have:=inc_le ms k 0 N.I.inc λj hj=>⟨Jh j,((N.I.mem j).1 hj).1⟩;omega
       have QzC:ms.length+1<=4294967295:=by
        have:=inc_le ms k 0 N.I.inc λj hj=>⟨Jh j,((N.I.mem j).1 hj).1⟩;omega
       simp only[go_sem,Qe,ho,Ql,hm,Zg,Qr Es,tZ];repeat (refine And.intro δ ?_)
       refine⟨_,Qz.frame (fr':=[(4,.ptr p 0 0 0),(17,EY l),(18,Qa l.length),(19,Qa (k+1:Nat))]) (by simp only[go_sem,Zb]),_,_,_,_,_,_,_,N2,rfl⟩
     | true=>
      simp only[go_sem];apply QF hb ut;simp only[go_sem,Qe,ho,Ql,he,WK,<- Dc];have N2:=N.new (by rw[<- hr,<- ZB]) (by rw[<- hr];exact hq.symm) ZM ⟨.one,0,9,1,λ_=>r.cells⟩;rw[<- hr]at N2;refine⟨h4,Qj,_,Qz.frame (fr':=[(4,.ptr p 0 0 0),(17,EY l),(18,Qa l.length),(19,Qa (k+1:Nat))]) (by simp only[go_sem,Zb]),_,_,_,_,_,_,_,N2,rfl⟩
    | some d=>
     apply QF hb [0,1,2,3,4,5,6,7,8,9,10,11];simp only[go_sem,Qe,ho,Ql,he,WK,<- Dc];refine⟨h4,?_⟩;apply QF hb [0,1,1002,3,4];simp only[go_sem,Qe];apply Jb hb Qdj QiH;apply ZH hb;simp only[go_sem,Qe,<- hw];cases b with
     | false=>
      rcases N.mo with ⟨rfl,rfl⟩|⟨lm,gm,tU,rfl,XF,hm,qm⟩
      .have N2:=N.yI (by rw[<- hr,<- ZB]) ZM ⟨.one,0,9,1,λ_=>r.cells⟩;simp only[go_sem,Qe,ho,Ql];refine⟨Qj,_,Qz.frame (fr':=[(4,.ptr p 0 0 0),(17,EY l),(18,Qa l.length),(19,Qa (k+1:Nat))]) (by simp only[go_sem,Zb]),_,_,_,_,_,_,_,N2,rfl⟩
      .have N2:=N.yJ XF hm qm (by rw[<- hr,<- ZB]) ZM ⟨.one,0,9,1,λ_=>r.cells⟩ ⟨.arr,0,1,1,λ_=>[Qa k]⟩;have Zg:=Qb hm;have Es:lm≠p:=yd hm ho (.inl nofun);have tZ:ms.length<=4294967295:=by
        have:=inc_le ms k 0 N.I.inc λj hj=>⟨Jh j,((N.I.mem j).1 hj).1⟩;omega
       have QzC:ms.length+1<=4294967295:=by
        have:=inc_le ms k 0 N.I.inc λj hj=>⟨Jh j,((N.I.mem j).1 hj).1⟩;omega
       simp only[go_sem,Qe,ho,Ql,hm,Zg,Qr Es,tZ];repeat (refine And.intro δ ?_)
       refine⟨_,Qz.frame (fr':=[(4,.ptr p 0 0 0),(17,EY l),(18,Qa l.length),(19,Qa (k+1:Nat))]) (by simp only[go_sem,Zb]),_,_,_,_,_,_,_,N2,rfl⟩
     | true=>
      simp only[go_sem];have N1:=N.app [⟨.one,0,9,1,λ_=>r.cells⟩];have N2:zG h (H++[⟨.one,0,9,1,λ_=>r.cells⟩]) l (k+1) p dr le dm c es ms:=⟨N1.ex,N1.o,N1.eo,N1.rs,N1.mo,N1.hp,N1.he,N.I.there (by rw[<- hr,<- ZB]) (by rw[<- hr,<- hq];rfl),ZM⟩;refine⟨Qj,_,Qz.frame (fr':=[(4,.ptr p 0 0 0),(17,EY l),(18,Qa l.length),(19,Qa (k+1:Nat))]) (by simp only[go_sem,Zb]),_,_,_,_,_,_,_,N2,rfl⟩
  .have Jf:k=l.length:=ω;have dk:=QI Qj;subst Jf;have e0:qy l=0:=by
    unfold qy;rw[Qc GG,Qd];rw[XK];intro r hr;obtain⟨j,hj,e⟩:=wZ hr;have:=N.ok j hj;unfold JB at this;rw[Q5,QP hj]at this;rw[<- e];exact this
   apply Qg hb;simp only[go_sem,dk];apply Qn hb;obtain⟨g,rfl⟩:=N.ex;refine⟨g,rfl,λ_=>⟨p,rfl,dr,le,dm,c,es,ms,N.o,N.eo,N.rs,N.mo,N.hp,N.he,N.I,e0⟩,λh=>absurd e0 h⟩
@[go_sem] def Ag(d:D):Ob:=⟨.one,0,1,1,λ_=>[d]⟩
structure q5 (n:Nat) (own:Nat->Tag) (tw:Nat->TT) (h:List Ob) (bp bo op:Nat) (L:List Ev):Prop where
 hp:h[bp]? = some (Ag (Qa op))
 ho:∃d,h[bo]? = some (Ag d)/\zF (λl=>n<=l/\own l=.no/\tw l=.no/\l≠bp/\l≠bo) h 12 Ev.cells d L
 np:n<=bp
 no:n<=bo
 op:own bp=.no
 oo:own bo=.no
 tp:tw bp=.no
 to:tw bo=.no
 ne:bp≠bo
def q5.yf{n}{own own'}{tw Jg}{h h':List Ob}{bp bo op}{L}(E:q5 n own tw h bp bo op L)(D:Jo h.length own tw h own' Jg h'):q5 n own' Jg h' bp bo op L:=by
 obtain⟨d,h1,h2⟩:=E.ho;have lp:=Qb E.hp;have lo:=Qb h1;exact⟨(D.keep _ lp E.op E.tp).trans E.hp,⟨d,(D.keep _ lo E.oo E.to).trans h1,h2.step λj hj ⟨a,b,c,e,f⟩=>⟨⟨a,(D.s1 j hj).trans b,(D.s2 j hj).trans c,e,f⟩,D.keep j hj b c⟩⟩,E.np,E.no,(D.s1 _ lp).trans E.op,(D.s1 _ lo).trans E.oo,(D.s2 _ lp).trans E.tp,(D.s2 _ lo).trans E.to,E.ne⟩
def Jo.Yd{m n}{own own'}{tw Jg}{h h'}(hm:m<=n)(D:Jo n own tw h own' Jg h'):Jo m own tw h own' Jg h':=⟨D.s1,D.s2,λl hl=>D.keep l (kG hl hm),D.my,D.len⟩
def QzD{n}{own}{tw}{h h':List Ob}{bo lo}(hn:n<=bo)(h1:own bo=.no)(h2:tw bo=.no)(hl:lo<h.length->n<=lo/\own lo=.no/\tw lo=.no)(hh:n<=h.length)(len:h.length<=h'.length)
  (k:∀j,j<h.length->j≠bo->j≠lo->h'[j]? = h[j]?):Jo n own tw h (QV own h .no) (Z4 tw h .no) h'/\gp own tw h (QV own h .no) (Z4 tw h .no) h':=by
 refine⟨⟨λl hl=>Kg hl,λl hl=>Vh hl,λl Jp _ _=>k l ω ω λe=>?_,λl Qb hm=>k l Qb (λe=>by rw[e,h2]at hm;cases hm) λe=>?_,len⟩,λl Qb=>⟨λhv=>⟨Kg Qb,k l Qb (λe=>hv.1 (by rw[e,h1])) λe=>?_⟩,λhv _=>⟨Vh Qb,k l Qb (λe=>hv (by rw[e,h2])) λe=>?_⟩⟩⟩
 .have:=(hl ω).1;omega
 .rw[e,(hl ω).2.2]at hm;cases hm
 .exact hv.1 (by rw[e];exact(hl ω).2.1)
 .exact hv (by rw[e];exact(hl ω).2.2)
def gA{own}{tw}{h}(ap:∀l,tw l≠.no->own l=.no):∀l,Z4 tw h .no l≠.no->QV own h .no l=.no:=λl hl=>by
 by_cases h1:l<h.length
 .rw[Vh h1]at hl;rw[Kg h1];exact ap l hl
 .exact jj ω
def QiP{n}{own}{tw}{h:List Ob}{bp bo op}{L:List Ev}(E:q5 n own tw h bp bo op L)(hn:n<=h.length)(hL:L.length<1000000000)(e:Ev):
  QH prog 83 h [.agg e.cells,.ptr bp 0 0 0,.ptr bo 0 0 0] (λd h'=>d=.tup []/\q5 n (QV own h .no) (Z4 tw h .no) h' bp bo op (L++[{ e with op:=op }])/\Jo n own tw h (QV own h .no) (Z4 tw h .no) h'/\gp own tw h (QV own h .no) (Z4 tw h .no) h'):=by
 have hp:=E.hp;obtain⟨d,ho,hd⟩:=E.ho;have QA:=E.ne;have lp:=Qb hp;have lo:=Qb ho;have fin:∀(h':List Ob) (d':D) (sl:Nat),h'[bp]? = some (Ag (Qa op))->h'[bo]? = some (Ag d')->zF (λl=>n<=l/\QV own h .no l=.no/\Z4 tw h .no l=.no/\l≠bp/\l≠bo) h' 12 Ev.cells d' (L++[{ e with op:=op }])->(sl<h.length->n<=sl/\own sl=.no/\tw sl=.no)->h.length<=h'.length ->
   (∀j,j<h.length->j≠bo->j≠sl->h'[j]? = h[j]?)->q5 n (QV own h .no) (Z4 tw h .no) h' bp bo op (L++[{ e with op:=op }])/\Jo n own tw h (QV own h .no) (Z4 tw h .no) h'/\gp own tw h (QV own h .no) (Z4 tw h .no) h':=λh' d' sl a1 a2 a3 a4 a5 a6=>
  ⟨⟨a1,⟨d',a2,a3⟩,E.np,E.no,(Kg lp).trans E.op,(Kg lo).trans E.oo,(Vh lp).trans E.tp,(Vh lo).trans E.to,E.ne⟩,QzD E.no E.oo E.to a4 hn a5 a6⟩
 rcases hd with ⟨rfl,rfl⟩|⟨sl,g,row,rfl,⟨s1,s2,s3,s4,s5⟩,hs,hr⟩
 .have fin:=fin (h.set bo (Ag (.ref (h.length+2) 0 0 1))++[⟨.one,0,12,1,λ_=>({ e with op:=op }:Ev).cells⟩,⟨.arr,0,12,1,λ_=>({ e with op:=op }:Ev).cells⟩,⟨.arr,0,12,1,λ_=>({ e with op:=op }:Ev).cells⟩]) (.ref (h.length+2) 0 0 1) h.length
   (by rw[QG (by simpa using lp),Qr QA.symm];exact hp) (by rw[QG (by simpa using lo),QE lo])
   (.inr ⟨h.length+2,0,λ_=>({ e with op:=op }:Ev).cells,rfl,⟨ω,jj ω,EW ω,ω,ω⟩,VD (k:=2) σ,λi hi=>by
    simp at hi;subst hi;rfl⟩) (λh=>absurd h (Mb _)) σ (λj hj h1 h2=>by rw[QG (by simpa using hj),Qr (Q3 h1)])
  refine QQ func83 ntmps83 results83 λbase w pl hb=>?_;have OK:=Qb hp;have Ql:=Qb ho;simp only[go_sem,Qe,hp,OK,ho,Ql];simp only[go_sem]at fin ⊢;exact fin
 .have GQ:=Qb hs;have TA:L.length<=4294967295:=ω;have fR:L.length+1<=4294967295:=ω;have fin:=fin ((h.set sl ⟨.arr,g+1,12,L.length+1,Kt L.length 0 row λ_=>({ e with op:=op }:Ev).cells⟩).set bo (Ag (.ref sl (g+1) 0 (L.length+1)))++[⟨.one,0,12,1,λ_=>({ e with op:=op }:Ev).cells⟩,⟨.arr,0,12,1,λ_=>({ e with op:=op }:Ev).cells⟩]) (.ref sl (g+1) 0 (L.length+1)) sl
   (by rw[QG (by simpa using lp),Qr QA.symm,Qr s4];exact hp) (by rw[QG (by simpa using lo),QE (by simpa using lo)])
   (.inr ⟨sl,g+1,Kt L.length 0 row λ_=>({ e with op:=op }:Ev).cells,σ,⟨s1,(Kg GQ).trans s2,(Vh GQ).trans s3,s4,s5⟩,by rw[QG (by simpa using GQ),Qr s5.symm,QE GQ];simp,λi hi=>by
    simp at hi;by_cases qh:i<L.length
    .rw[Az qh,JD,hr i qh];simp[qh,JC qh]
    .have:i=L.length:=ω;subst this;rw[xk (QB _)];simp⟩) (λ_=>⟨s1,s2,s3⟩) σ (λj hj h1 h2=>by rw[QG (by simpa using hj),Qr (Q3 h1),Qr (Q3 h2)])
  refine QQ func83 ntmps83 results83 λbase w pl hb=>?_;have OK:=Qb hp;have Ql:=Qb ho;have GQ:=Qb hs;simp only[go_sem,Qe,hp,OK,ho,Ql,hs,GQ,Qr s5,TA];simp only[go_sem]at fin ⊢;repeat (refine And.intro δ ?_)
  exact fin
def QzE{own}{tw}{h}{p}{S}(T:Wr own tw h p S):Q6 prog 151 h [.ptr p 0 0 0] (λd=>d=u64 (Zs S)):=by
 obtain⟨ps,pl,pr,pt,T⟩:=T;have ho:=ZC T.o;obtain⟨a,b,c,hl⟩:=T.ln;have hl:=ZC hl;obtain⟨L,C⟩:=T.co.ex;have hD:=QhI C.ro T.co.I;have hU:=λ(F:List Ob) (hF:F=h.map Ob.ro)=>Qzg (h:=F) (KC hF _ _ hl);have hD:=λ(F:List Ob) (hF:F=h.map Ob.ro)=>QhI (C.ro.more (KC hF)) T.co.I;clear T C;unfold Zs;obtain⟨v,hv⟩:∃v,v=zB S.M:=⟨_,rfl⟩;rw[<- hv]at hD ⊢;refine xD func151 ntmps151 results151 λbase w pl F hF Q7 hb=>?_;rw[<- hF]at ho hl;have Ql:=Qb ho;have df:=Qb hl;simp only[go_sem];apply QF hb [0,1,2,3,4,5,6,7,9,10,11,12,1008,1013,1014,15];simp only[go_sem,ho];apply Wz hb Qqt (hU F hF);apply ZA hb;apply Wz hb Qqu (hD F hF);apply ZA hb;apply Jb hb Qqs (Qzo S.Qf S.XI v);apply ZA hb;all_goals exact cD
def QiQ{n}{own}{tw}{h:List Ob}{p}{S}(T:Wr own tw h p S)(V:Jd S){bp bo op}{L:List Ev}(E:q5 n own tw h bp bo op L)(hn:n<=h.length)(hL:L.length<100000000):
  QH prog 150 h [.ptr p 0 0 0,u64 S.Qf,.clo 83 0 [.ptr bp 0 0 0,.ptr bo 0 0 0]] (λd h'=>d=.tup []/\∃own' Jg,Wr own' Jg h' p (Js S op S.Qf).1/\q5 n own' Jg h' bp bo op (L++(Js S op S.Qf).2)/\Jo n own tw h own' Jg h'):=by
 obtain⟨ps,lp,pr,pt,T⟩:=T;have ho:=T.o;obtain⟨a,b,c,hl⟩:=T.ln;have gB:=tR (ZC hl) S.Qf;by_cases hu:S.XI<=S.Qf
 .have du:=QU hu;rw[du]at gB;refine QQ func150 ntmps150 results150 λbase w pl hb=>?_;have Ql:=Qb ho;simp only[go_sem,ho];apply ZQ hb Qgz gB;apply Qg hb;simp only[go_sem,ho];refine Zw hb Qqp (QyH T.co S.Qf) λd h1 hR=>?_;obtain⟨rfl,Jl,C1,D1⟩:=hR;have T1:=T.core D1 C1 (LD S.M S.Qf);have K1:Jo h.length own tw h Jl (Z4 tw h .no) h1:=Jo.core T.ap (QB _) D1;obtain⟨Vr,QzF⟩:∃t,t=Z4 tw h .no:=⟨_,rfl⟩;rw[<- QzF]at T1 K1;have E1:=E.yf K1;have fA:=K1.len;obtain⟨j,hj⟩:∃j,j=Kq S.M S.Qf:=⟨_,rfl⟩;obtain⟨k,hk⟩:∃k,k=Kh S.M S.Qf:=⟨_,rfl⟩;obtain⟨b,Xf⟩:∃b,b=Yq S.M S.Qf:=⟨_,rfl⟩;cases ht:Xt S.M S.Qf with
  | false=>
   have e:Js S op S.Qf=({ S with M:=takeN S.M S.Qf },[]):=by unfold Js;rw[Qc ω,Qc (by rw[ht];exact Ao)]
   rw[e,<- hj,<- hk,<- Xf];apply JH hb;have T2:=T1.BG [⟨.one,0,8,1,λ_=>qu j k b⟩];have K2:=Jo.app (n:=h1.length) Jl Vr h1 [⟨.one,0,8,1,λ_=>qu j k b⟩] .my (QB _);exact⟨_,_,⟨_,_,_,_,T2⟩,E1.yf K2,(K1.Yd hn).trans hn (K2.Yd ω)⟩
  | true=>
   have hlen:=V.take_len ht;have vS:=gh V.K hlen;rw[<- hk]at hlen vS;have XF:=V.K.l2;have Z7:=V.cl;obtain⟨done,QiR⟩:∃d,d=S.Qf+YQ S.M.lk k.len:=⟨_,rfl⟩;have e:Js S op S.Qf=({ S with M:=takeN S.M S.Qf,XI:=done,st:=YP S.st j done k.len b },[vA op b S.Qf done j k]):=by
    unfold Js;rw[Qc ω,Qd ht,<- hk,<- QiR,<- hj,<- Xf]
   rw[e,<- hj,<- hk,<- Xf];have T2:=T1.BG [⟨.one,0,8,1,λ_=>qu j k b⟩];have K2:=K1.trans (QB _) ((Jo.app (n:=h1.length) Jl Vr h1 [⟨.one,0,8,1,λ_=>qu j k b⟩] .my (QB _)).Yd fA);have E2:=E.yf K2;have ZB:(h1++[(⟨.one,0,8,1,λ_=>qu j k b⟩:Ob)])[h1.length]? = some ⟨.one,0,8,1,λ_=>qu j k b⟩:=KV rfl;have n2:QV Jl h1 .no h1.length=.no:=jj (QB _);have m2:Z4 Vr h1 .my h1.length=.my:=EW (QB _);apply JH hb;obtain⟨h2,OL⟩:∃h2,h2=h1++[(⟨.one,0,8,1,λ_=>qu j k b⟩:Ob)]:=⟨_,rfl⟩;rw[<- OL]at T2 K2 E2 ZB;simp only[go_sem,qu]at OL;rw[<- OL];clear OL;generalize QV Jl h1 .no=JW at T2 K2 E2 n2;generalize Z4 Vr h1 .my=Xd at T2 K2 E2 m2;have K6:=T2.o;have EL:=Qb K6;have CQ:=Qb ZB;obtain⟨a2,b2,c2,Jp⟩:=T2.ln;have YL:(takeN S.M S.Qf).lk=S.M.lk:=LD S.M S.Qf;have gC:=Qzk h2 Jp (by show 1<=(takeN S.M S.Qf).lk.t;rw[YL];exact V.K.t1) (by show (takeN S.M S.Qf).lk.t<=65536;rw[YL];exact V.K.t2) Z7 hu k ⟨hlen.1,ω⟩;have QzG:S.Qf+k.len.toNat*(takeN S.M S.Qf).lk.t.toNat=done:=by rw[YL,QiR];rfl
   have gC:QH prog 189 h2 [.ptr lp 0 0 0,u64 S.Qf,.agg k.cells] (λd h'=>d=.tup [u64 done,Qa 0]/\∃a' b' c' g,h'=h2.set lp (zE a' b' c' (takeN S.M S.Qf).lk.t done)++g):=by
    rw[<- QzG];exact gC
   simp only[go_sem,qu]at ZB;apply Vk [7] hb [0,1,2,3,4,5,6,1007,8,9,10,11,12] [];simp only[go_sem,K6,ZB];refine jZ hb Qqq gC λd h3 hR=>?_;obtain⟨rfl,a3,b3,c3,g3,TP⟩:=hR;have t2l:=T2.tl;have s3:Step (λl=>Xd l=.ln) h2 h3:=by
    rw[TP];exact⟨λl hl QA=>by rw[QG (by simpa using hl),Qr (λe=>QA (by rw[<- e];exact t2l))],σ⟩
   have Cz:h3[lp]? = some (zE a3 b3 c3 (takeN S.M S.Qf).lk.t done):=by rw[TP,QG (by simpa using Qb Jp),QE (Qb Jp)]
   have T3:=T2.link s3 Cz;have K3:=K2.trans (QB _) ((Jo.part (n:=h2.length) (own:=JW) (t:=.ln) ⟨σ,σ⟩ (QB _) s3).Yd K2.len);have E3:=E.yf K3;have qn:h3[h1.length]? = some _:=(s3.keep _ CQ (by rw[m2];simp)).trans ZB;have n3:QV JW h2 .no h1.length=.no:=(Kg CQ).trans n2;have m3:Z4 Xd h2 .ln h1.length=.my:=(Vh CQ).trans m2;clear TP gC;generalize QV JW h2 .no=y9 at T3 K3 E3 n3;generalize Z4 Xd h2 .ln=gD at T3 K3 E3 m3;have X1:=T3.o;have Li:=Qb X1;have S5:=Qb qn;apply ZA hb;have QzI:=Qzs T3.st j (done:=done) ω (bytes:=k.len) hlen.1 ω b;apply Vk [12] hb [0,1,2,3,4,5,6,7,8,9,10,11,1012] [];simp only[go_sem,X1,qn];refine jZ hb Qqr QzI λd h4 hR=>?_;obtain⟨s4,ua⟩:=hR;have T4:=T3.stat s4 ua;have K4:=K3.trans (QB _) ((Jo.part (n:=h3.length) (own:=y9) (t:=.st) ⟨σ,σ⟩ (QB _) s4).Yd K3.len);have E4:=E.yf K4;have CI:h4[h1.length]? = some _:=(s4.keep _ S5 (by rw[m3];simp)).trans qn;generalize QV y9 h3 .no=CS at T4 K4 E4;generalize Z4 gD h3 .st=G3 at T4 K4 E4;have QGo:=Qb CI;apply ZH hb;simp only[go_sem,CI];have TC:n<=h4.length:=Ki hn K4.len;refine YB hb Qdd rfl ?_ (QiP E4 TC ω (vA 0 b S.Qf done j k)) rfl λd h5 hR=>?_
   .simp only[go_sem,vA]
   obtain⟨rfl,E5,K5,st5⟩:=hR;have T5:=T4.step st5 (gA T4.ap);have AD:({ vA 0 b S.Qf done j k with op:=(op:Int) }:Ev)=vA op b S.Qf done j k:=rfl;rw[AD]at E5;apply Qn hb;exact⟨_,_,⟨_,_,_,_,T5⟩,E5,(K4.Yd hn).trans hn K5⟩
 .have du:=QI hu;rw[du]at gB;have e:Js S op S.Qf=(S,[]):=by unfold Js;rw[Qd ω]
  rw[e];refine QQ func150 ntmps150 results150 λbase w pl hb=>?_;have Ql:=Qb ho;simp only[go_sem,ho];apply ZQ hb Qgz gB;apply Qn hb;exact⟨own,tw,⟨_,_,_,_,T⟩,E,Jo.refl n own tw h⟩
@[go_sem] def kv.cells(r:kv):List D:=[Qa r.err,Qa r.place,Qa r.cls]
def q5.loc{n}{own}{tw}{h:List Ob}{bp bo op}{L}(E:q5 n own tw h bp bo op L){l}{o1:Ob}(hl:h[l]? = some o1)(hk:o1.kd≠.arr)(h1:l≠bp)(h2:l≠bo)(o):q5 n own tw (h.set l o) bp bo op L:=by
 obtain⟨d,a1,a2⟩:=E.ho;exact⟨by rw[Qr h1];exact E.hp,⟨d,by rw[Qr h2];exact a1,a2.imp id λ⟨lo,g,row,b1,b2,b3,b4⟩=>⟨lo,g,row,b1,b2,by rw[Qr (yd hl b3 (.inl hk))];exact b3,b4⟩⟩,E.np,E.no,E.op,E.oo,E.tp,E.to,E.ne⟩
def Jo.CK{n}{own own'}{tw Jg}{h H:List Ob}(D:Jo n own tw h own' Jg H){l}(hl:n<=l)(hm:h.length<=l)(o):Jo n own tw h own' Jg (H.set l o):=⟨D.s1,D.s2,λj h1 h2 h3=>by rw[Qr ω];exact D.keep j h1 h2 h3,λj h1 h2=>by rw[Qr ω];exact D.my j h1 h2,by simpa using D.len⟩
def QzK{n}{own}{tw}{h:List Ob}{p}{S:ZF}(T:Wr own tw h p S)(V:Jd S){bp bo op}{L:List Ev}(E:q5 n own tw h bp bo op L)(hn:n<=h.length)(hL:L.length<10000000)(gy:∀k,(S.st.Jc k).length<1000000)(x)(hx:TI x):
  QH prog 86 h [.ptr p 0 0 0,.agg x.cells,.clo 83 0 [.ptr bp 0 0 0,.ptr bo 0 0 0]] (λd h'=>d=.agg (YR S op x).r.cells/\∃own' Jg,Wr own' Jg h' p (YR S op x).S/\q5 n own' Jg h' bp bo op (L++(YR S op x).l)/\Jo n own tw h own' Jg h'):=by
 obtain⟨ps,lp,pr,pt,T⟩:=T;have Z7:=V.cl;have T1:=T.BG [⟨.one,0,6,1,λ_=>x.cells⟩,⟨.one,0,3,1,λ_=>[Qa 0,Qa 0,Qa 0]⟩];have K1:=Jo.app (n:=h.length) own tw h [⟨.one,0,6,1,λ_=>x.cells⟩,⟨.one,0,3,1,λ_=>[Qa 0,Qa 0,Qa 0]⟩] .my (QB _);have E1:=E.yf K1;have Xz:(h++[(⟨.one,0,6,1,λ_=>x.cells⟩:Ob),⟨.one,0,3,1,λ_=>[Qa 0,Qa 0,Qa 0]⟩])[h.length]? = some ⟨.one,0,6,1,λ_=>x.cells⟩:=KV rfl;have We:(h++[(⟨.one,0,6,1,λ_=>x.cells⟩:Ob),⟨.one,0,3,1,λ_=>[Qa 0,Qa 0,Qa 0]⟩])[h.length+1]? = some ⟨.one,0,3,1,λ_=>[Qa 0,Qa 0,Qa 0]⟩:=VD (k:=1) rfl;have n1:∀i,h.length<=i->QV own h .no i=.no:=λi hi=>jj hi;have m1:∀i,h.length<=i->Z4 tw h .my i=.my:=λi hi=>EW hi;have fA:h.length+2=(h++[(⟨.one,0,6,1,λ_=>x.cells⟩:Ob),⟨.one,0,3,1,λ_=>[Qa 0,Qa 0,Qa 0]⟩]).length:=σ;refine QQ func86 ntmps86 results86 λbase w pl hb=>?_;simp only[go_sem,Qe];obtain⟨h1,BH⟩:∃h1,h1=h++[(⟨.one,0,6,1,λ_=>x.cells⟩:Ob),⟨.one,0,3,1,λ_=>[Qa 0,Qa 0,Qa 0]⟩]:=⟨_,rfl⟩;rw[<- BH]at T1 K1 E1 Xz We fA;simp only[go_sem]at BH;rw[<- BH];clear BH;generalize QV own h .no=Jl at T1 K1 E1 n1;generalize Z4 tw h .my=Vr at T1 K1 E1 m1;have ZN:=T1.o;have Lf:=Qb ZN;have LI:=Qb Xz;have OM:=Qb We;obtain⟨dr,le,dm,cc,es,ms,Tb⟩:=T1.tb;have F:=Qzu Tb.toR x hx;obtain⟨cls,G4⟩:∃c,c=Kr S.R (ZR x):=⟨_,rfl⟩;rw[<- G4]at F;by_cases h0:cls=0
 .have e:YR S op x=⟨S,⟨31,0,0⟩,[]⟩:=by unfold YR;rw[Qd (by rw[<- G4];exact h0)]
  rw[e];rw[Qd h0,h0]at F;simp only[go_sem]at Xz;apply QF hb [0,1,2,3,4,5,1006,7,8,9,10,11];simp only[go_sem,ZN,Xz];apply Wz hb Qdl F;apply ZH hb;simp only[go_sem,We,QE OM];exact⟨Jl,Vr,⟨_,_,_,_,T1.loc (n1 _ ω) (.inr (m1 _ ω)) _⟩,E1.loc We nofun (by have:=Qb E.hp;omega) (by obtain⟨d,h1,_⟩:=E.ho;have:=Qb h1;omega) _,(K1.Yd hn).CK ω ω _⟩
 .have nb:h.length+1≠bp/\h.length+1≠bo:=by
   obtain⟨d,h1,_⟩:=E.ho;have:=Qb h1;have:=Qb E.hp;omega
  rw[Qc h0]at F;have P:=QyG T1.co S.Qf ω cls x;simp only[go_sem]at Xz;obtain⟨err,QgI⟩:∃e,e=km S.M S.Qf cls x:=⟨_,rfl⟩;rw[<- QgI]at P;apply QF hb [0,1,2,3,4,5,1006,7,8,9,10,11];simp only[go_sem,ZN,Xz];apply Wz hb Qdl F;apply ZA hb;apply Vk [10] hb [0,1,2,3,4,5,6,7,8,9,1010,11] [];simp only[go_sem,ZN,Xz];refine jZ hb Qqa P λd h2 hR=>?_;obtain⟨rfl,JW,C2,D2⟩:=hR;have T2:=T1.core D2 C2 (LC S.M S.Qf cls x);have K2':Jo h1.length Jl Vr h1 JW (Z4 Vr h1 .no) h2:=Jo.core T1.ap (QB _) D2;have K2:=K1.trans (QB _) (K2'.Yd K1.len);have E2:=E1.yf K2';have Wf:h2[h.length]? = some _:=(D2.keep _ LI (n1 _ (QB _))).trans Xz;have Jy:h2[h.length+1]? = some _:=(D2.keep _ OM (n1 _ ω)).trans We;have n2:JW (h.length+1)=.no:=(D2.same _ OM).trans (n1 _ ω);have n2x:JW h.length=.no:=(D2.same _ LI).trans (n1 _ ω);have m2:Z4 Vr h1 .no (h.length+1)=.my:=(Vh OM).trans (m1 _ ω);have m2x:Z4 Vr h1 .no h.length=.my:=(Vh LI).trans (m1 _ ω);generalize Z4 Vr h1 .no=Xd at T2 K2 E2 m2 m2x;have K6:=T2.o;have EL:=Qb K6;have QzL:=Qb Wf;have vD:=Qb Jy;apply ZA hb;by_cases he:err=0
  .have Of:(err != 0)=false:=by simpa using he
   have hS':Jd { S with M:=Jx S.M S.Qf cls x,st:=vw S.st cls S.Qf }:=(V.put cls x).Jc cls S.Qf (by show S.Qf<_;omega);have e:YR S op x=⟨(Js { S with M:=Jx S.M S.Qf cls x,st:=vw S.st cls S.Qf } op S.Qf).1,⟨0,0,cls⟩,ku op S.Qf cls x::(Js { S with M:=Jx S.M S.Qf cls x,st:=vw S.st cls S.Qf } op S.Qf).2⟩:=by
    unfold YR;rw[Qc (by rw[<- G4];exact h0),Qd (by rw[<- G4,<- QgI];exact he),<- G4]
   rw[e];have QzN:=Qzq T2.st cls S.Qf (gy cls);simp only[go_sem,Of];apply Vk [9] hb [0,1,2,3,4,5,6,7,8,1009] [];simp only[go_sem,K6];refine jZ hb Qqb QzN λd h3 hR=>?_;obtain⟨rfl,s3,st3⟩:=hR;have T3:=T2.stat s3 st3;have K3':Jo h2.length JW Xd h2 (QV JW h2 .no) (Z4 Xd h2 .st) h3:=Jo.part ⟨σ,σ⟩ (QB _) s3;have K3:=K2.trans (QB _) (K3'.Yd K2.len);have E3:=E2.yf K3';have IB:h3[h.length]? = some _:=(s3.keep _ QzL (by rw[m2x];simp)).trans Wf;have zw:h3[h.length+1]? = some _:=(s3.keep _ vD (by rw[m2];simp)).trans Jy;have n3:QV JW h2 .no (h.length+1)=.no:=(Kg vD).trans n2;have m3:Z4 Xd h2 .st (h.length+1)=.my:=(Vh vD).trans m2;generalize QV JW h2 .no=y9 at T3 K3 E3 n3;generalize Z4 Xd h2 .st=gD at T3 K3 E3 m3;have X1:=T3.o;have Li:=Qb X1;have QGq:=Qb IB;have LJ:=Qb zw;have yP:n<=h3.length:=Ki hn K3.len;apply ZA hb;apply Vk [8] hb [0,1,2,3,4,5,6,7,1008] [];simp only[go_sem,X1,IB];refine xI hb Qdd rfl ?_ (QiP E3 yP ω (ku 0 S.Qf cls x)) rfl λd h4 hR=>?_
   .simp only[go_sem,ku]
   obtain⟨rfl,E4,gF,ua⟩:=hR;have T4:=T3.step ua (gA T3.ap);have K4:=(K3.Yd hn).trans hn gF;have NV:h4[h.length+1]? = some _:=(gF.my _ LJ m3).trans zw;have n4:QV y9 h3 .no (h.length+1)=.no:=(Kg LJ).trans n3;have m4:Z4 gD h3 .no (h.length+1)=.my:=(Vh LJ).trans m3;have AD:({ ku 0 S.Qf cls x with op:=(op:Int) }:Ev)=ku op S.Qf cls x:=rfl;rw[AD]at E4;generalize QV y9 h3 .no=CS at T4 E4 K4 gF n4;generalize Z4 gD h3 .no=G3 at T4 E4 K4 gF m4;have Oh:=T4.o;have Qwv:=Qb Oh;have ub:=Qb NV;have TC:n<=h4.length:=Ki hn K4.len;apply ZH hb;simp only[go_sem,Oh];have QzP:=QiQ (T:=⟨_,_,_,_,T4⟩) hS' E4 TC ξ;refine Zw hb Qdm QzP λd h5 hR=>?_;obtain⟨rfl,wN,TQ,⟨_,_,_,_,T5⟩,E5,K5⟩:=hR;have uc:h5[h.length+1]? = some _:=(K5.my _ ub m4).trans NV;have n5:=(K5.s1 _ ub).trans n4;have m5:=(K5.s2 _ ub).trans m4;have QzQ:=Qb uc;rw[V9]at E5;apply Qg hb;simp only[go_sem,uc,QE QzQ];exact⟨wN,TQ,⟨_,_,_,_,T5.loc n5 (.inr m5) _⟩,E5.loc uc nofun nb.1 nb.2 _,(K4.trans hn K5).CK ω ω _⟩
  .have e:YR S op x=⟨{ S with M:=Jx S.M S.Qf cls x },⟨err,0,cls⟩,[]⟩:=by unfold YR;rw[Qc (by rw[<- G4];exact h0),Qc (by rw[<- G4,<- QgI];exact he),<- G4,<- QgI]
   have Of:(err != 0)=true:=by simpa using he
   rw[e];simp only[go_sem,Of,Jy,QE vD];exact⟨JW,Xd,⟨_,_,_,_,T2.loc n2 (.inr m2) _⟩,E2.loc Jy nofun nb.1 nb.2 _,(K2.Yd hn).CK ω ω _⟩
def zC.q64{own}{h}{p}{M}(C:zC own h p M)(j:Int):(Zj M j).length<=64:=by
 unfold Zj Qw;cases hn:Qh M.N j with
 | none=>exact Jh _
 | some n=>
  show n.q.l.length<=64;cases hl:n.c.leaf with
  | true=>
   obtain⟨L,c⟩:=C.ex;obtain⟨k,hk,r,Q⟩:=c.WX j n hn hl;have:=Q.ring.pF;omega
  | false=>rw[C.V.x7 j n hn hl];exact Jh _
def ud(f:Qq->Nat)(b):∀l:List Qq,(∀c∈l,f c<=b)->(l.map f).sum<=l.length*b
 | [],_=>σ
 | c::l,h=>by
  have h1:=h c σ;have h2:=ud f b l λd hd=>h d (by simp[hd]);simp only[JQ,List.sum_cons,Kv,Vz,Me];omega
def zC.gG{own}{h}{p}{M}(C:zC own h p M):VR M<=4096:=by
 have h1:=ud (λc=>(Zj M c.iD).length) 64 M.T λc _=>C.q64 c.iD;have h2:=C.I.tree.len;unfold VR;have h3:M.T.length*64<=64*64:=X7 64 h2;omega
def TR(S:ZF)(op now:Nat):(Js S op now).2.length<=1:=by
 unfold Js;split
 .exact Jh _
 .split
  .exact QB _
  .exact Jh _
def Jo.ue{n}{own own'}{tw Jg}{h H:List Ob}(D:Jo n own tw h own' Jg H){p}(hp:tw p=.sys)(o):Jo n own tw h own' Jg (H.set p o):=
 ⟨D.s1,D.s2,λj h1 h2 h3=>by rw[Qr (λe=>by rw[<- e,hp]at h3;cases h3)];exact D.keep j h1 h2 h3,λj h1 h2=>by rw[Qr (λe=>by rw[<- e,hp]at h2;cases h2)];exact D.my j h1 h2,by simpa using D.len⟩
structure QiV (n:Nat) (own:Nat->Tag) (tw:Nat->TT) (h:List Ob) (p:Nat) (S:ZF) (bp bo op e:Nat) (L:List Ev) (r k:Nat) (own':Nat->Tag) (Jg:Nat->TT) (H:List Ob) (S':ZF) (L':List Ev):Prop where
 T:Wr own' Jg H p S'
 V:Jd S'
 E:q5 n own' Jg H bp bo op (L++L')
 K:Jo n own tw h own' Jg H
 hr:H[r]? = some ⟨.one,0,3,1,λ_=>[Qa 0,Qa 0,Qa 0]⟩
 nr:own' r=.no
 mr:Jg r=.my
 hk:VR S'.M+k=VR S.M
 cl:S'.Qf<=e
 go:Vg op e (VR S.M+1) S=((Vg op e (VR S'.M+1) S').1,L'++(Vg op e (VR S'.M+1) S').2)
 ln:L'.length<=k
def QzS{n}{own}{tw}{h:List Ob}{p}{S}(T:Wr own tw h p S)(V:Jd S){bp bo op}{L:List Ev}(E:q5 n own tw h bp bo op L)(hn:n<=h.length)(hL:L.length<10000000)(Wi)(vS:Wi<18446744073709551616):
  QH prog 87 h [.ptr p 0 0 0,u64 Wi,.clo 83 0 [.ptr bp 0 0 0,.ptr bo 0 0 0]] (λd h'=>d=.agg (qZ S op Wi).r.cells/\∃own' Jg,Wr own' Jg h' p (qZ S op Wi).S/\q5 n own' Jg h' bp bo op (L++(qZ S op Wi).l)/\Jo n own tw h own' Jg h'):=by
 obtain⟨ps,lp,pr,pt,T⟩:=T;have Z7:=V.cl;have nb:h.length≠bp/\h.length≠bo:=by
  obtain⟨d,h1,_⟩:=E.ho;have:=Qb h1;have:=Qb E.hp;omega
 have T1:=T.BG [⟨.one,0,3,1,λ_=>[Qa 0,Qa 0,Qa 0]⟩];have K1:=Jo.app (n:=h.length) own tw h [⟨.one,0,3,1,λ_=>[Qa 0,Qa 0,Qa 0]⟩] .my (QB _);have E1:=E.yf K1;have We:(h++[(⟨.one,0,3,1,λ_=>[Qa 0,Qa 0,Qa 0]⟩:Ob)])[h.length]? = some ⟨.one,0,3,1,λ_=>[Qa 0,Qa 0,Qa 0]⟩:=KV rfl;have n1:QV own h .no h.length=.no:=jj (QB _);have m1:Z4 tw h .my h.length=.my:=EW (QB _);have ho:=T.o;have Ql:=Qb ho;have w1:IntKind.u64.wrap ((4611686018427387904:Int) - (S.Qf:Int))=((4611686018427387904 - S.Qf:Nat):Int):=η;by_cases h0:4611686018427387904 - S.Qf<Wi
 .have e:qZ S op Wi=⟨S,⟨27,0,0⟩,[]⟩:=by unfold qZ;rw[Qd h0]
  rw[e];have d0:=QU h0;refine QQ func87 ntmps87 results87 λbase w pl hb=>?_;have Ql:=Qb ho;simp only[go_sem,Qe,ho,Ql,w1,d0];exact⟨_,_,⟨_,_,_,_,T.BG _⟩,E.yf (Jo.app own tw h _ .my (QB _)),(Jo.app own tw h _ .my (QB _)).Yd hn⟩
 .have d0:=QI h0;obtain⟨e,he⟩:∃e,e=S.Qf+Wi:=⟨_,rfl⟩;have w2:IntKind.u64.wrap ((S.Qf:Int)+(Wi:Int))=((e:Nat):Int):=η;have hA:qZ S op Wi=⟨(Vg op e (VR S.M+1) S).1,⟨0,0,0⟩,(Vg op e (VR S.M+1) S).2⟩:=by unfold qZ;rw[Qc h0,<- he]
  rw[hA];refine QQ func87 ntmps87 results87 λbase w pl hb=>?_;have Ql:=Qb ho;simp only[go_sem,Qe,ho,Ql,w1,d0,w2];have A0:QiV n own tw h p S bp bo op e L h.length 0 (QV own h .no) (Z4 tw h .my) (h++[(⟨.one,0,3,1,λ_=>[Qa 0,Qa 0,Qa 0]⟩:Ob)]) S []:=
   ⟨⟨_,_,_,_,T1⟩,V,by rw[JI];exact E1,K1.Yd hn,We,n1,m1,ω,ω,rfl,QB _⟩
  have QGr:=T.co.gG;refine Z3 (λk s=>∃own' Jg H S' L',QiV n own tw h p S bp bo op e L h.length k own' Jg H S' L'/\s=⟨[(0,.ptr p 0 0 0),(2,.clo 83 0 [.ptr bp 0 0 0,.ptr bo 0 0 0]),(6,.ptr h.length 0 0 0),(7,u64 e)],H⟩) (VR S.M) QM ⟨_,_,_,S,[],A0,rfl⟩ ?_;clear A0 T1 K1 E1 We n1 m1;rintro k _ hk ⟨JW,Xd,H,S2,L2,A,rfl⟩;obtain⟨ON,OO,OP,OQ,T2⟩:=A.T;have K6:=T2.o;have EL:=Qb K6;have N:=QzE ⟨ON,OO,OP,OQ,T2⟩;obtain⟨nx,zy⟩:∃nx,nx=Zs S2:=⟨_,rfl⟩;rw[<- zy]at N;have Jy:=A.hr;have vD:=Qb Jy;have pb:p≠bp/\p≠bo:=⟨λe=>(by have h1:=T2.tp;rw[e,A.E.tp]at h1;cases h1),λe=>(by have h1:=T2.tp;rw[e,A.E.to]at h1;cases h1)⟩;have Db:p≠h.length:=λe=>by have:=T.o;have:=Qb this;omega
  apply Qn hb;apply ZQ hb Qqc N;apply Qn hb;by_cases QA:e<nx
  .have d1:=QU QA;have vX:Vg op e (VR S2.M+1) S2=({ S2 with Qf:=e },[]):=by
    unfold Vg;rw[Qd (by rw[<- zy];exact QA)]
   have hg:=A.go;rw[vX,JI]at hg;rw[hg];simp only[go_sem,Qe,d1,K6,Qr Db,Jy,vD,QE];have hr9:(H.set p (zD ON OO OP OQ e S2.ops))[h.length]? = some ⟨.one,0,3,1,λ_=>[Qa 0,Qa 0,Qa 0]⟩:=(Qr Db).trans Jy;exact⟨JW,Xd,⟨_,_,_,_,(T2.clock e S2.ops).loc A.nr (.inr A.mr) _⟩,(A.E.loc K6 nofun pb.1 pb.2 _).loc hr9 nofun nb.1 nb.2 _,(A.K.ue T.tp _).CK hn (QB _) _⟩
  .have d1:=QI QA;have hle:Zs S2<=e:=ω;obtain⟨V3,c1,c2,c3⟩:=Qzb A.V op ω hle;have vX:Vg op e (VR S2.M+1) S2=((Vg op e (VR S2.M) (Js { S2 with Qf:=Zs S2 } op (Zs S2)).1).1,(Js { S2 with Qf:=Zs S2 } op (Zs S2)).2++(Vg op e (VR S2.M) (Js { S2 with Qf:=Zs S2 } op (Zs S2)).1).2):=by
    conv=>lhs;unfold Vg
    rw[Qc (by rw[<- zy];exact QA)]
   have hg:=A.go;rw[vX,<- c1,<- V9]at hg;have Zh:=TR { S2 with Qf:=Zs S2 } op (Zs S2);subst zy;have T3:=T2.clock (Zs S2) S2.ops;have V2:Jd { S2 with Qf:=Zs S2,ops:=S2.ops }:=A.V.at_ c2 ω;have E3:=A.E.loc K6 nofun pb.1 pb.2 (zD ON OO OP OQ (Zs S2) S2.ops);have zw:(H.set p (zD ON OO OP OQ (Zs S2) S2.ops))[h.length]? = some _:=(Qr Db).trans Jy;have K3:=A.K.ue T.tp (zD ON OO OP OQ (Zs S2) S2.ops);have yP:n<=(H.set p (zD ON OO OP OQ (Zs S2) S2.ops)).length:=Ki hn K3.len;have DL:=A.ln;have jC:=A.hk;have P:=QiQ (T:=⟨_,_,_,_,T3⟩) V2 E3 yP (by rw[ZW];omega);simp only[go_sem,d1,K6];refine Zw hb Qdm P λd h5 hR=>?_;obtain⟨rfl,wN,TQ,T5,E5,K5⟩:=hR;have LJ:=Qb zw;apply Qn hb;have QzU:VR (Js { S2 with Qf:=Zs S2 } op (Zs S2)).1.M+(k+1)=VR S.M:=ω;have QzV:(L2++(Js { S2 with Qf:=Zs S2 } op (Zs S2)).2).length<=k+1:=by rw[ZW];omega
   refine⟨ω,_,Qz.frame (fr':=[(0,.ptr p 0 0 0),(2,.clo 83 0 [.ptr bp 0 0 0,.ptr bo 0 0 0]),(6,.ptr h.length 0 0 0),(7,u64 e)]) (by simp only[go_sem]),wN,TQ,h5,_,L2++(Js { S2 with Qf:=Zs S2 } op (Zs S2)).2,⟨T5,V3,by rw[<- V9];exact E5,K3.trans hn K5,(K5.my _ LJ A.mr).trans zw,(K5.s1 _ LJ).trans A.nr,(K5.s2 _ LJ).trans A.mr,QzU,by rw[c3];exact hle,hg,QzV⟩,rfl⟩
def Ah(tw:Nat->TT)(n:Nat):Nat->TT:=λl=>if l=n+2\/l=n+3 then .no else if n<=l then .my else tw l
def gH{tw}{n l}(h:l<n):Ah tw n l=tw l:=by unfold Ah;rw[Qc ω,Qc ω]
def QiW{tw}{n l}(h:l=n+2\/l=n+3):Ah tw n l=.no:=by unfold Ah;rw[Qd h]
def QzW{tw}{n l}(h:n<=l)(h2:l≠n+2)(h3:l≠n+3):Ah tw n l=.my:=by unfold Ah;rw[Qc ω,Qd h]
structure OR (S:ZF):Prop where
 ca:∀k,(S.st.Jc k).length<=S.ops
structure EZ (own:Nat->Tag) (tw:Nat->TT) (h:List Ob) (p:Nat) (op:Nat) (S':ZF) (L:List Ev) (r:kv) (own':Nat->Tag) (Jg:Nat->TT) (H:List Ob) (d:D):Prop where
 T:Wr own' Jg H p S'
 E:q5 h.length own' Jg H (h.length+3) (h.length+2) op L
 K:Jo h.length own tw h own' Jg H
 AP:H[h.length+1]? = some ⟨.one,0,3,1,λ_=>[Qa 0,Qa 0,Qa 0]⟩
 hr:H[h.length+4]? = some ⟨.one,0,3,1,λ_=>r.cells⟩
 ho:H[h.length+2]? = some (Ag d)
 hs:zF (λl=>h.length<=l/\own' l=.no/\Jg l=.no/\l≠h.length+3/\l≠h.length+2) H 12 Ev.cells d L
 n1:own' (h.length+1)=.no
 m1:Jg (h.length+1)=.my
 n4:own' (h.length+4)=.no
 m4:Jg (h.length+4)=.my
def DoR(own:Nat->Tag)(tw:Nat->TT)(h:List Ob)(p:Nat)(Y:OG)(d:D)(h':List Ob):Prop:=
 ∃dl own' Jg,d=.tup [.agg Y.r.cells,dl]/\Wr own' Jg h' p Y.S/\zF (λl=>h.length<=l/\own' l=.no/\Jg l=.no) h' 12 Ev.cells dl Y.l/\Jo h.length own tw h own' Jg h'
def EZ.done{own}{tw}{h}{p op}{S'}{L}{r}{own'}{Jg}{H}{d}(I:EZ own tw h p op S' L r own' Jg H d)(o):
  DoR own tw h p ⟨S',r,L⟩ (.tup [.agg r.cells,d]) (H.set (h.length+1) o):=by
 obtain⟨ps,lp,pr,pt,T⟩:=I.T;refine⟨d,own',Jg,rfl,⟨_,_,_,_,T.loc I.n1 (.inr I.m1) o⟩,I.hs.imp id λ⟨lo,g,row,h1,h2,h3,h4⟩=>⟨lo,g,row,h1,⟨h2.1,h2.2.1,h2.2.2.1⟩,by rw[Qr (yd I.AP h3 (.inl nofun))];exact h3,h4⟩,I.K.CK ω ω o⟩
def EZ.next{own}{tw}{h}{p op}{S'}{L}{r}{Jl}{Vr}{H}{d}(I:EZ own tw h p op S' L r Jl Vr H d){S2}{L2}{JW}{Xd}{H2}
  (T2:Wr JW Xd H2 p S2) (E2:q5 h.length JW Xd H2 (h.length+3) (h.length+2) op L2) (K2:Jo h.length Jl Vr H JW Xd H2):∃d2,EZ own tw h p op S2 L2 r JW Xd H2 d2:=by
 obtain⟨d2,a1,a2⟩:=E2.ho;have l1:=Qb I.AP;have l4:=Qb I.hr;exact⟨d2,T2,E2,I.K.trans (QB _) K2,(K2.my _ l1 I.m1).trans I.AP,(K2.my _ l4 I.m4).trans I.hr,a1,a2,(K2.s1 _ l1).trans I.n1,(K2.s2 _ l1).trans I.m1,(K2.s1 _ l4).trans I.n4,(K2.s2 _ l4).trans I.m4⟩
def EZ.TS{own}{tw}{h:List Ob}{p op}{S'}{L}{r}{Jl}{Vr}{H:List Ob}{d}(I:EZ own tw h p op S' L r Jl Vr H d)(r2:kv):EZ own tw h p op S' L r2 Jl Vr (H.set (h.length+4) ⟨.one,0,3,1,λ_=>r2.cells⟩) d:=by
 obtain⟨ps,lp,pr,pt,T⟩:=I.T;exact⟨⟨_,_,_,_,T.loc I.n4 (.inr I.m4) _⟩,I.E.loc I.hr nofun ω ω _,I.K.CK ω ω _,by rw[Qr ω];exact I.AP,QE (Qb I.hr),by rw[Qr ω];exact I.ho,
  I.hs.imp id λ⟨lo,g,row,h1,h2,h3,h4⟩=>⟨lo,g,row,h1,h2,by rw[Qr (yd I.hr h3 (.inl nofun))];exact h3,h4⟩,I.n1,I.m1,I.n4,I.m4⟩
def QzX{own}{tw}{h}{p}{S:ZF}(T:Wr own tw h p S)(V:Jd S)(hC:OR S)(gI:S.ops<1000000)(o:ZV)(ho:ZV.Ok o)(hc:o.changes.length<1000000)(Kc:o.rules.length<1000000):
  QH prog 33 h [.ptr p 0 0 0,.agg o.cells] (λd h'=>DoR own tw h p (JM S o) d h'):=by
 obtain⟨ps,lp,pr,pt,T⟩:=T;have hp:=T.o;have OK:=Qb hp;have Zb:=J9 (show S.ops<4611686018427387904 from ω);have eS:JM S o=VX { S with ops:=S.ops+1 } S.ops o:=rfl;rw[eS];obtain⟨S1,NZ⟩:∃S1,S1={ S with ops:=S.ops+1 }:=⟨_,rfl⟩;have T0:Wq own tw (h.set p (zD ps lp pr pt S.Qf (S.ops+1))) p ps lp pr pt { S with ops:=S.ops+1 }:=T.clock S.Qf (S.ops+1);rw[<- NZ]at T0 ⊢;obtain⟨H,hH⟩:∃H,H=h.set p (zD ps lp pr pt S.Qf (S.ops+1))++[(⟨.one,0,10,1,λ_=>o.cells⟩:Ob),⟨.one,0,3,1,λ_=>[Qa 0,Qa 0,Qa 0]⟩,Ag .nil,Ag (Qa S.ops),⟨.one,0,3,1,λ_=>[Qa 1,Qa 0,Qa 0]⟩]:=⟨_,rfl⟩;have ql:(h.set p (zD ps lp pr pt S.Qf (S.ops+1))).length=h.length:=σ;have ne:∀l,l<h.length->(Ah tw h.length l)=tw l:=λl hl=>gH hl;have T1:Wq (QV own h .no) (Ah tw h.length) H p ps lp pr pt S1:=by
  rw[hH];refine T0.step (λl hl=>⟨λ_=>⟨Kg (by rw[<- ql];exact hl),QG hl⟩,λ_ _=>⟨gH (by rw[<- ql];exact hl),QG hl⟩⟩) λl hl=>?_;by_cases h1:l<h.length
  .rw[gH h1]at hl;rw[Kg h1];exact T.ap l hl
  .exact jj ω
 have K1:Jo h.length own tw h (QV own h .no) (Ah tw h.length) H:=by
  rw[hH];refine⟨λl hl=>Kg hl,λl hl=>gH hl,λl hl h1 h2=>?_,λl hl h1=>?_,σ⟩
  .rw[QG (by rw[ql];exact hl),Qr (λe=>by rw[<- e,T.tp]at h2;cases h2)]
  .rw[QG (by rw[ql];exact hl),Qr (λe=>by rw[<- e,T.tp]at h1;cases h1)]
 have at_:∀k x,[(⟨.one,0,10,1,λ_=>o.cells⟩:Ob),⟨.one,0,3,1,λ_=>[Qa 0,Qa 0,Qa 0]⟩,Ag .nil,Ag (Qa S.ops),⟨.one,0,3,1,λ_=>[Qa 1,Qa 0,Qa 0]⟩][k]? = some x->H[h.length+k]? = some x:=λk x hk=>by
  rw[hH,VD (k:=k) ql];exact hk
 have E1:q5 h.length (QV own h .no) (Ah tw h.length) H (h.length+3) (h.length+2) S.ops []:=
  ⟨at_ 3 _ rfl,⟨.nil,at_ 2 _ rfl,.inl ⟨rfl,rfl⟩⟩,ω,ω,jj ω,jj ω,QiW (.inr rfl),QiW (.inl rfl),ω⟩
 have ZN:H[h.length]? = some ⟨.one,0,10,1,λ_=>o.cells⟩:=at_ 0 _ rfl;have TU:=at_ 1 _ rfl;have TV:=at_ 2 _ rfl;have We:=at_ 4 _ rfl;have n1:∀i,h.length<=i->QV own h .no i=.no:=λi hi=>jj hi;have m1:∀i,h.length<=i->i≠h.length+2->i≠h.length+3->Ah tw h.length i=.my:=λi hi h2 h3=>QzW hi h2 h3;clear at_ ne ql;generalize DQ:QV own h .no=Jl at T1 K1 E1 n1;generalize OS:Ah tw h.length=Vr at T1 K1 E1 m1;have XN:=T1.o;have QzY:=Qb XN;have Lf:=Qb ZN;have QiY:=Qb TU;have QzZ:=Qb TV;have OM:=Qb We;have QGs:S1.Qf=S.Qf:=by rw[NZ]
 have V1:Jd S1:=by rw[NZ];exact V.ops _
 have KJ:h.length<=H.length:=K1.len;refine QQ func33 ntmps33 results33 λbase w pl hb=>?_;have OK:=Qb hp;simp only[go_sem,Qe,hp,OK,Zb];simp only[go_sem]at hH ZN We TU TV;rw[<- hH];clear hH;have OT:h.length+1≠h.length+2:=ω;have TW:h.length+4≠h.length+2:=ω;have TX:h.length+4≠h.length+1:=ω;have I0:EZ own tw h p S.ops S1 [] ⟨1,0,0⟩ Jl Vr H .nil:=⟨⟨_,_,_,_,T1⟩,E1,K1,TU,We,TV,.inl ⟨rfl,rfl⟩,n1 _ ω,m1 _ ω ω ω,n1 _ ω,m1 _ ω ω ω⟩;obtain⟨B3,⟨_,y8⟩,⟨_,hru⟩,hpk,vS,_⟩:=ho;by_cases k1:o.kind=1
 .have b1:(o.kind==1)=true:=by simpa using k1
  obtain⟨la,lb,lc,Jj⟩:=T1.ln;have F:=tR (ZC Jj) S1.Qf;obtain⟨bf,hbf⟩:∃b,b=decide (S1.XI<=S1.Qf):=⟨_,rfl⟩;have e:VX S1 S.ops o=⟨{ S1 with M:=K0 S1.M bf o.changes },⟨jh S1.M bf o.changes,x6 S1.M o.changes,0⟩,[]⟩:=by unfold VX;rw[Qd k1,<- hbf]
  rw[e];rw[<- hbf]at F;have C:=QyI T1.co bf o.changes y8 hc;obtain⟨ce,hce⟩:∃x,x=jh S1.M bf o.changes:=⟨_,rfl⟩;obtain⟨ca,gy⟩:∃x,x=x6 S1.M o.changes:=⟨_,rfl⟩;rw[<- hce,<- gy]at C ⊢;simp only[go_sem,b1];apply Vk [15] hb [0,1,2,3,4,5,6,7,8,9,10,11,13,14,1012,1015,16,17,18,19,20] [];simp only[go_sem,XN,ZN];apply Wz hb Qgz F;apply ZA hb;refine jZ hb QpY C λd h2 hR=>?_;obtain⟨rfl,JW,C2,D2⟩:=hR;have T2:=T1.core D2 C2 (OE S1.M bf o.changes);have K2:Jo H.length Jl Vr H JW (Z4 Vr H .no) h2:=Jo.core T1.ap (QB _) D2;obtain⟨d2,I2⟩:=I0.next ⟨_,_,_,_,T2⟩ (E1.yf K2) (K2.Yd KJ);have I:=I2.TS ⟨ce,ca,0⟩;have Jy:=I2.hr;have vD:=Qb Jy;have ZB:=I2.ho;have CQ:=Qb ZB;have Jv:=I2.AP;have CU:=Qb Jv;apply ZH hb;simp only[go_sem,Jy];apply Vk [] hb [0] [1,2,3];simp only[go_sem,Qe,vD,ZB,Jv,CU,QE,Qr OT,Qr TW,Qr TX];exact⟨I.done _,I.done _⟩
 have b1:(o.kind==1)=false:=by simpa using k1
 by_cases k2:o.kind=2
 .have b2:(o.kind==2)=true:=by simpa using k2
  have R:=QiM H o.rules Kc;by_cases GH:qy o.rules=0
  .have e:VX S1 S.ops o=⟨{ S1 with R:=o.rules },⟨0,0,0⟩,[]⟩:=by unfold VX;rw[Qc k1,Qd k2,Qd GH]
   rw[e];simp only[go_sem,b1,b2,ZN];refine Zw hb mK R λd h2 hR=>?_;obtain⟨g,rfl,uf,_⟩:=hR;obtain⟨p2,rfl,hT⟩:=uf GH;have T2:=T1.rules hT;have ug:(H++g)[p]? = some _:=(QG QzY).trans XN;have QGu:=Qb ug;have K2:Jo H.length Jl Vr H (QV Jl H .no) (Z4 Vr H .G0) (H++g):=Jo.app Jl Vr H g .G0 (QB _);have E2:=(E1.yf K2).loc ug nofun (by have:=Qb T.o;omega) (by have:=Qb T.o;omega) (zD ps lp p2 pt S1.Qf S1.ops);obtain⟨d2,I2⟩:=I0.next ⟨_,_,_,_,T2⟩ E2 ((K2.Yd KJ).ue T1.tp _);have I:=I2.TS ⟨0,0,0⟩;have Jy:=I2.hr;have vD:=Qb Jy;have ZB:=I2.ho;have CQ:=Qb ZB;have Jv:=I2.AP;have CU:=Qb Jv;have Zh:=Qb T.o;have p4:p≠h.length+4:=ω;have p2':p≠h.length+2:=ω;have p1':p≠h.length+1:=ω;have hrg:(H++g)[h.length+4]? = some _:=(QG OM).trans We;have uh:(H++g)[h.length+2]? = some _:=(QG QzZ).trans TV;have hsg:(H++g)[h.length+1]? = some _:=(QG QiY).trans TU;have Qz3:=Qb hrg;have Qz4:=Qb uh;have Qz5:=Qb hsg;have KI:d2=.nil:=by
    have h5:=I2.ho;rw[Qr p2',uh]at h5;simp only[Ag,QY,Ob.mk.injEq,vO]at h5;have:=congrFun h5 0;simp only[Hc,and_true]at this;exact this.symm
   rw[KI]at I;have x4:h.length+4<H.length+g.length:=by have:=Qz3;simpa using this
   have x2:h.length+2<H.length+g.length:=by have:=Qz4;simpa using this
   have x1:h.length+1<H.length+g.length:=by have:=Qz5;simpa using this
   apply Qg hb;simp only[go_sem,ug,Qr p4,hrg];apply Vk [] hb [0] [1,2,3];simp only[go_sem,Qe,x4,x1,Qr p2',Qr p1',uh,hsg,QE,Qr OT,Qr TW,Qr TX];exact⟨I.done _,I.done _⟩
  .have e:VX S1 S.ops o=⟨S1,⟨qy o.rules,0,0⟩,[]⟩:=by unfold VX;rw[Qc k1,Qd k2,Qc GH]
   have Qi3:(qy o.rules==0)=false:=by simpa using GH
   rw[e];obtain⟨re,Qz6⟩:∃x,x=qy o.rules:=⟨_,rfl⟩;rw[<- Qz6]at R Qi3 GH ⊢;simp only[go_sem,b1,b2,ZN];refine Zw hb mK R λd h2 hR=>?_;obtain⟨g,rfl,_,uf⟩:=hR;have hd:=uf GH;subst hd;have K2:Jo H.length Jl Vr H (QV Jl H .no) (Z4 Vr H .my) (H++g):=Jo.app Jl Vr H g .my (QB _);obtain⟨d2,I2⟩:=I0.next ⟨_,_,_,_,T1.BG g⟩ (E1.yf K2) (K2.Yd KJ);have I:=I2.TS ⟨re,0,0⟩;have Jy:=I2.hr;have vD:=Qb Jy;have ZB:=I2.ho;have CQ:=Qb ZB;have Jv:=I2.AP;have CU:=Qb Jv;have x4:h.length+4<H.length+g.length:=by have:=vD;simpa using this
   have x2:h.length+2<H.length+g.length:=by have:=CQ;simpa using this
   have x1:h.length+1<H.length+g.length:=by have:=CU;simpa using this
   apply Qg hb;simp only[go_sem,Qi3,Jy];apply Vk [] hb [0] [1,2,3];simp only[go_sem,Qe,x4,x1,ZB,Jv,QE,Qr OT,Qr TW,Qr TX];exact⟨I.done _,I.done _⟩
 have b2:(o.kind==2)=false:=by simpa using k2
 by_cases k3:o.kind=3
 .have b3:(o.kind==3)=true:=by simpa using k3
  have e:VX S1 S.ops o=YR S1 S.ops o.ZI:=by unfold VX;rw[Qc k1,Qc k2,Qd k3]
  rw[e];obtain⟨BH,OL,TP,G5⟩:TI o.ZI:=by
   obtain⟨_,_,a0,a1,a2,a3,_⟩:=hpk;have:=wf_u16 a0;have:=wf_u16 a1;have:=wf_u16 a2;have:=wf_u16 a3;exact⟨⟨ω,ω⟩,⟨ω,ω⟩,⟨ω,ω⟩,⟨ω,ω⟩⟩
  have P:=QzK ⟨_,_,_,_,T1⟩ V1 E1 KJ σ (λk=>by rw[NZ];have:=hC.ca k;show (S.st.Jc k).length<1000000;omega) o.ZI ⟨BH,OL,TP,G5⟩;obtain⟨Y,hY⟩:∃Y,Y=YR S1 S.ops o.ZI:=⟨_,rfl⟩;rw[<- hY]at P ⊢;simp only[go_sem,b1,b2,b3,ZN];refine Zw hb QpZ P λd h2 hR=>?_;obtain⟨rfl,JW,Xd,T2,E2,K2⟩:=hR;rw[zK]at E2;obtain⟨d2,I2⟩:=I0.next T2 E2 K2;have I:=I2.TS Y.r;have Jy:=I2.hr;have vD:=Qb Jy;have ZB:=I2.ho;have CQ:=Qb ZB;have Jv:=I2.AP;have CU:=Qb Jv;apply Qg hb;simp only[go_sem,Jy];apply Vk [] hb [0] [1,2,3];simp only[go_sem,Qe,vD,ZB,Jv,CU,QE,Qr OT,Qr TW,Qr TX];exact⟨I.done _,I.done _⟩
 have b3:(o.kind==3)=false:=by simpa using k3
 by_cases k4:o.kind=4
 .have b4:(o.kind==4)=true:=by simpa using k4
  have e:VX S1 S.ops o=qZ S1 S.ops o.Wi.toNat:=by unfold VX;rw[Qc k1,Qc k2,Qc k3,Qd k4]
  rw[e];have hw:=wf_u64 vS;have P:=QzS ⟨_,_,_,_,T1⟩ V1 E1 KJ σ o.Wi.toNat ω;obtain⟨Y,hY⟩:∃Y,Y=qZ S1 S.ops o.Wi.toNat:=⟨_,rfl⟩;rw[<- hY,show u64 o.Wi.toNat=.raw (.int .u64 o.Wi) by show D.raw (.int .u64 (o.Wi.toNat:Int))=_;rw[Dh hw.1]]at P;rw[<- hY];simp only[go_sem,b1,b2,b3,b4,ZN];refine Zw hb Qp0 P λd h2 hR=>?_;obtain⟨rfl,JW,Xd,T2,E2,K2⟩:=hR;rw[zK]at E2;obtain⟨d2,I2⟩:=I0.next T2 E2 K2;have I:=I2.TS Y.r;have Jy:=I2.hr;have vD:=Qb Jy;have ZB:=I2.ho;have CQ:=Qb ZB;have Jv:=I2.AP;have CU:=Qb Jv;apply Qg hb;simp only[go_sem,Jy];apply Vk [] hb [0] [1,2,3];simp only[go_sem,Qe,vD,ZB,Jv,CU,QE,Qr OT,Qr TW,Qr TX];exact⟨I.done _,I.done _⟩
 have b4:(o.kind==4)=false:=by simpa using k4
 have e:VX S1 S.ops o=⟨S1,⟨1,0,0⟩,[]⟩:=by unfold VX;rw[Qc k1,Qc k2,Qc k3,Qc k4]
 rw[e];simp only[go_sem,b1,b2,b3,b4];apply Vk [] hb [0] [1,2,3];simp only[go_sem,We,TV,TU,QiY,QE,Qr OT];exact⟨I0.done _,I0.done _⟩
def Qz7(h:List Ob):QH prog 81 h [.nil] (λd h'=>∃g p,h'=h++g/\d=.tup [.ptr p 0 0 0,Qa 0]/\G1 (λj=>h.length<=j) (h++g) p []):=
 (QH.QbQ (cs':=[.nil]) (QiM h [] π) ⟨rfl,trivial⟩).mono λd h' ⟨g,h1,h2,_⟩=>by
  obtain⟨p,h3,h4⟩:=h2 rfl;exact⟨g,p,h1,h3,h4⟩
def YS.fresh(h:List Ob)(S)(hS:∀j,h.length<=j->S j):YS S (h++[QK .i64 0 [],QK .i64 0 [],tP h.length (h.length+1)]) (h.length+2) ⟨λ_=>[],λ_=>default⟩:=
 ⟨h.length,h.length+1,0,[],0,[],VD (k:=2) rfl,KV rfl,VD (k:=1) rfl,ω,hS _ ω,hS _ ω,hS _ ω,λk=>.inl ⟨rfl,rfl⟩,λk k' lo g off n g' vQ n' h1=>(by cases h1),λk=>rfl⟩
def Qz8{own}{tw}(ap:∀l,tw l≠.no->own l=.no)(h){c}(K:WM c):
  QH prog 32 h [.agg c.cells] (λd h'=>∃own' Jg p,d=.tup [.ptr p 0 0 0,Qa 0]/\Wr own' Jg h' p (S0 c)/\Jo h.length own tw h own' Jg h'):=by
 have ZN:(h++[(⟨.one,0,2,1,λ_=>c.cells⟩:Ob)])[h.length]? = some ⟨.one,0,2,1,λ_=>c.cells⟩:=KV rfl;have hN:=QyJ (QV own h .no) (h++[(⟨.one,0,2,1,λ_=>c.cells⟩:Ob)]) K;have K1:=Jo.app own tw h [(⟨.one,0,2,1,λ_=>c.cells⟩:Ob)] .no (QB _);have gJ:=gA (h:=h) ap;have n1:QV own h .no h.length=.no:=jj (QB _);refine QQ func32 ntmps32 results32 λbase w pl hb=>?_;simp only[go_sem,Qe];obtain⟨h1,BH⟩:∃x,x=h++[(⟨.one,0,2,1,λ_=>c.cells⟩:Ob)]:=⟨_,rfl⟩;rw[<- BH]at ZN hN K1;simp only[go_sem]at BH;rw[<- BH];clear BH;have Lf:=Qb ZN;generalize QV own h .no=Jl at hN K1 gJ n1;generalize Z4 tw h .no=Vr at K1 gJ;refine Zw hb QpV hN λd h2 hR=>?_;obtain⟨JW,ps,rfl,C2,D2⟩:=hR;have K2:=K1.trans (QB _) ((Jo.core gJ (QB _) D2).Yd K1.len);have K6:h2[h.length]? = some _:=(D2.keep _ Lf n1).trans ZN;have EL:=Qb K6;apply Qg hb;simp only[go_sem,K6];refine Zw hb QpW (Qzf h2 K.t1 K.t2) λd h hR=>?_;obtain⟨rfl,rfl⟩:=hR;apply Qn hb;refine Zw hb mK (Qz7 _) λd h4 hR=>?_;obtain⟨g,pr,G5,rfl,Tb⟩:=hR;apply Qn hb;refine Zw hb QpX (Qzp h4) λd h5 hR=>?_;obtain⟨rfl,ui⟩:=hR;apply Qn hb;have G5:h4=(h2++[zE 0 0 0 c.t 0])++g:=G5;have Tb:G1 (λj=>(h2++[zE 0 0 0 c.t 0]).length<=j) ((h2++[zE 0 0 0 c.t 0])++g) pr []:=Tb;rw[<- G5]at Tb;have l3:(h2++[zE 0 0 0 c.t 0]).length=h2.length+1:=σ;rw[l3]at Tb;have l4:h2.length+1<=h4.length:=by rw[G5,ZW,l3];omega
 have l5:h5.length=h4.length+3:=by rw[ui];simp
 have e4:∀l,l<h2.length->h4[l]? = h2[l]? := λl hl=>by rw[G5,V9,QG hl]
 have e5:∀l,l<h4.length->h5[l]? = h4[l]? := λl hl=>by rw[ui,QG hl]
 have DL:h4[h2.length]? = some (zE 0 0 0 c.t 0):=by rw[G5,V9];exact KV rfl
 have ZO:YS (λl=>h4.length<=l) h5 (h4.length+2) ⟨λ_=>[],λ_=>default⟩:=by rw[ui];exact YS.fresh h4 _ λ_ h=>h
 obtain⟨H,hH⟩:∃H,H=h5++[zD ps h2.length pr (h4.length+2) 0 0]:=⟨_,rfl⟩;have e6:∀l,l<h5.length->H[l]? = h5[l]? := λl hl=>by rw[hH,QG hl]
 have hp:H[h5.length]? = some (zD ps h2.length pr (h4.length+2) 0 0):=by rw[hH];exact KV rfl
 obtain⟨G6,OS⟩:∃t:Nat->TT,t=λl=>if l<h2.length then Z4 Vr h1 .no l else if l=h2.length then .ln else if l<h4.length then .G0 else if l<h5.length then .st else if l=h5.length then .sys else .no:=⟨_,rfl⟩;have t0:∀l,l<h2.length->G6 l=Z4 Vr h1 .no l:=λl hl=>by rw[OS];dsimp only;rw[Qd hl]
 have t1:G6 h2.length=.ln:=by rw[OS];dsimp only;rw[Qc ω,Qd rfl]
 have t2:∀l,h2.length+1<=l->l<h4.length->G6 l=.G0:=λl h1 h2=>by rw[OS];dsimp only;rw[Qc ω,Qc ω,Qd h2]
 have t3:∀l,h4.length<=l->l<h5.length->G6 l=.st:=λl h1 h2=>by rw[OS];dsimp only;rw[Qc ω,Qc ω,Qc ω,Qd h2]
 have t4:G6 h5.length=.sys:=by rw[OS];dsimp only;rw[Qc ω,Qc ω,Qc ω,Qc ω,Qd rfl]
 have X:Wq (QV JW h2 .no) G6 H h5.length ps h2.length pr (h4.length+2) (S0 c):=by
  refine⟨hp,t4,C2.step λl hl _=>⟨Kg hl,by rw[e6 l ω,e5 l ω,e4 l hl]⟩,⟨0,0,0,?_⟩,t1,Tb.step λj hj h1=>⟨t2 j h1 hj,by rw[e6 j ω,e5 j hj]⟩,ZO.step λj hj h1=>⟨t3 j h1 hj,e6 j hj⟩,λl hl=>?_⟩
  .rw[e6 _ ω,e5 _ ω];exact DL
  .by_cases h6:l<h2.length
   .rw[t0 l h6]at hl;rw[Kg h6];by_cases h7:l<h1.length
    .rw[Vh h7]at hl;rw[D2.same l h7];exact gJ l hl
    .rw[EW ω]at hl;exact absurd rfl hl
   .exact jj ω
 have KH:Jo h.length own tw h (QV JW h2 .no) G6 H:=by
  have hle:=K2.len;exact⟨λl hl=>by rw[Kg ω];exact K2.s1 l hl,λl hl=>by rw[t0 l ω];exact K2.s2 l hl,λl hl h1 h2=>by rw[e6 l ω,e5 l ω,e4 l ω];exact K2.keep l hl h1 h2,λl hl h1=>by rw[e6 l ω,e5 l ω,e4 l ω];exact K2.my l hl h1,by rw[hH];simp;omega⟩
 subst hH;exact⟨_,G6,_,rfl,⟨_,_,_,_,X⟩,KH⟩
end Go.Fg.X
namespace Go.Fg.X
open Go.Proofs Go.Fg
open Go.RowKit (Below)
open Go.Proofs.Tryz
def Qi4{P}{f}{args}{R}(d2:D)(hu:d2.upto 0=true)
  (hd:∀d hh,R d hh->Ke 6 d d2\/(∃lo g sz n row,hh[lo]? = some ⟨.arr,g,sz,n,row⟩/\(∀i,i<n->(row i).all D.qI=true)/\Ke 6 (D.fz lo g n sz row d) d2) \/
   ∃lo g sz n row LK g' gK n' JU,hh[lo]? = some ⟨.arr,g,sz,n,row⟩/\hh[LK]? = some ⟨.arr,g',gK,n',JU⟩/\LK≠lo/\(∀i,i<n->(row i).all D.qI=true)/\(∀i,i<n'->(JU i).all D.qI=true)/\Ke 6 (D.fz LK g' n' gK JU (D.fz lo g n sz row d)) d2) (h:QW P f args R):QW P f args (QN d2):=by
 intro Z base w pl vs h1 h2 h3 hl hc;have Zh:pl=[]:=by have:=h3.len;simpa using this
 subst Zh;refine(h Z base w [] vs h1 h2 h3 hl hc).mono λe w' he=>?_;obtain⟨v,d,hh,Qi,rfl,hR,hO,hV,hT,hB⟩:=he;suffices fin:QC Z [] [] w' d2 v by
  exact⟨v,_,[],[],rfl,⟨rfl,rfl⟩,Zi.nil,fin,⟨λb hb Qb=>⟨hb,(hT.J3 b hb Qb).2⟩,λl o p e=>by simp at e,λl o o' b q e=>by simp at e⟩,hB⟩
 rcases hd _ _ hR with hle|⟨lo,g,sz,n,row,Zq,Z7,hle⟩|⟨lo,g,sz,n,row,LK,g',gK,n',JU,Zq,uj,Qz9,Z7,Qi5,hle⟩
 .exact(v8 6 hle hV).take hu
 .have Qb:lo<Qi.length:=by rw[hO.len];exact(WC.1 Zq).1
  obtain⟨p,hp⟩:∃p,Qi[lo]? = some p:=⟨_,QP Qb⟩;have Cu:=hV.fz (l:=lo) (o:=⟨.arr,g,sz,n,row⟩) (p:=p) Zq hp rfl (λb q e=>by
   subst e;refine⟨h2 b ?_,λl' q' e'=>?_,(hO.at_ lo _ b q Zq hp).2.cells rfl⟩
   .rcases w9 b w.heap.size with Qb|Yb
    .exact absurd hp ((hT.J3 b (λi q e=>by simp at e) Qb).1 lo q)
    .exact Yb
   .exact hO.inj _ _ _ _ _ e' hp) Z7 (h':=hh.set lo (Ob.gone ⟨.arr,g,sz,n,row⟩)) (λl' o' QA e=>by
   exact⟨o',by rw[Jw (Q3 QA)];exact e,rfl,rfl,rfl⟩)
  exact(v8 6 hle Cu).take hu
 .have pos:∀{lo:Nat} {o:Ob},hh[lo]? = some o->∃p,Qi[lo]? = some p:=λ{lo o} Zq=>by
   have Qb:lo<Qi.length:=by rw[hO.len];exact(WC.1 Zq).1
   exact⟨_,QP Qb⟩
  have zb:∀{lo b q:Nat},Qi[lo]? = some (some (b,q))->Z b:=λ{lo b q} hp=>h2 b (by
   rcases w9 b w.heap.size with Qb|Yb
   .exact absurd hp ((hT.J3 b (λi q e=>by simp at e) Qb).1 lo q)
   .exact Yb)
  obtain⟨p,hp⟩:=pos Zq;obtain⟨p',ZS⟩:=pos uj;have r1:=hV.fz (l:=lo) (o:=⟨.arr,g,sz,n,row⟩) (p:=p) Zq hp rfl (λb q e=>by
   subst e;exact⟨zb hp,λl' q' e'=>hO.inj _ _ _ _ _ e' hp,(hO.at_ lo _ b q Zq hp).2.cells rfl⟩) Z7 (h':=hh) (λl' o' QA e=>⟨o',e,rfl,rfl,rfl⟩)
  have Zh:∀(l':Nat),l'≠lo->(Qi.set lo none)[l']? = Qi[l']? := λl' YY=>by rw[Jw (Q3 YY)]
  have QA:LK≠lo:=Qz9;have r2:=r1.fz (l:=LK) (o:=⟨.arr,g',gK,n',JU⟩) (p:=p') uj ((Zh _ QA).trans ZS) rfl (λb q e=>by
   subst e;refine⟨zb ZS,λl' q' e'=>?_,?_⟩
   .by_cases e1:l'=lo
    .subst e1;rw[Wt (Wc hp)]at e';cases e'
    .rw[Zh _ e1]at e';exact hO.inj _ _ _ _ _ e' ZS
   .obtain⟨c,el,c1,c2,c3,c4⟩:=(hO.at_ LK _ b q uj ZS).2.cells rfl;refine⟨c,el,c1,c2,c3,λi j hi hj=>?_⟩;obtain⟨v,hv,hr⟩:=c4 i j hi hj;have h5:=Qi5 i hi;rw[XK]at h5;have h6:j<(JU i).length:=by rw[c3 i hi];exact hj
    have h7:(nth (JU i) j).qI=true:=h5 _ (by
     simp only[nth,Q5,QP h6,KR];exact YU h6)
    exact⟨v,hv,.cl _ _ ((FO hr h7).mono (N':=free Z (Qi.set lo none)) (w':=w') λb hb _=>⟨⟨hb.1,λl q e=>by
     by_cases e1:l=lo
     .subst e1;rw[Wt (Wc hp)]at e;cases e
     .rw[Zh _ e1]at e;exact hb.2 l q e⟩,rfl⟩)⟩) Qi5 (h':=hh) (λl' o' QA e=>⟨o',e,rfl,rfl,rfl⟩)
  exact(v8 6 hle r2).take hu
end Go.Fg.X
namespace Go.Fg.X
open Go.Proofs Go.Fg
open Go.Proofs.Tryz
def Qi6(u)(a b):∀fr:List (Nat × D),put (put fr u a) u b=put fr u b
 | []=>by simp[put]
 | (t,e)::r=>by
  cases h:Nat.beq t u with
  | true=>simp[put,h]
  | false=>simp[put,h,Qi6 u a b r]
def QAa{α:Type}[Inhabited α]{w0:Start}(hF:w0.F=[])(hp:w0.pl=[]){S:Nat->Prop}{sz:Nat}{f:α->List D}(hf:∀a,(f a).all D.qI=true){fr:List (Nat × D)}{h:List Ob}{d:D}{L:List α}(t:Nat)(ht:get fr t=d)(hS:zF S h sz f d L):
  ∃row h',Qz w0 ⟨fr,h⟩ ⟨put fr t (.imm sz L.length row),h'⟩/\(∀i,i<L.length->row i=f (L.getD i default))/\h.length<=h'.length/\∀l,l<h.length->¬S l->h'[l]? = h[l]? := by
 have ql:w0.pl.length=w0.F.length:=by rw[hF,hp];rfl
 have hg:∀h:List Ob,oq w0.F h:=λh l o e=>by rw[hF]at e;simp at e
 have hz:∀n,w0.F.length<=n:=λn=>by rw[hF];exact Jh _
 rcases hS with ⟨rfl,rfl⟩|⟨lo,g,row,rfl,QAb,cZ,NN⟩
 .refine⟨rowFrom 0 (λ_=>[]),h++[(⟨.arr,0,sz,0,λ_=>[]⟩:Ob).gone],?_,λi hi=>absurd hi (WZ i),σ,λl hl QA=>QG hl⟩;have W1:=Qz.Qir (w0:=w0) (h:=h) t sz ht;have W2:=Qz.ot ql (hg _) t h.length (hz _) (fr:=put fr t (.ref h.length 0 0 0)) (h:=h++[(⟨.arr,0,sz,0,λ_=>[]⟩:Ob)]) (o:=⟨.arr,0,sz,0,λ_=>[]⟩) (off:=0) (len:=0) (by rw[Fs,Qd rfl]) (KV rfl) (QB 0) rfl (λi hi=>absurd hi (WZ i));rw[Qi6,bF rfl]at W2;exact Qz.trans W1 W2
 .refine⟨rowFrom 0 row,_,Qz.ot ql (hg _) t lo (hz _) ht cZ (by show 0+L.length<=L.length;omega) rfl (λi hi=>?_),λi hi=>?_,σ,λl hl QA=>?_⟩
  .show (row i).all D.qI=true;rw[NN i hi];exact hf _
  .rw[Rt,JD,NN i hi]
  .exact Qr λe=>QA (by rw[<- e];exact QAb)
def Wr.far{own}{tw}{h h':List Ob}{p}{S}(T:Wr own tw h p S)(hl:h.length<=h'.length)(e:∀l,l<h.length->¬(own l=.no/\tw l=.no)->h'[l]? = h[l]?):Wr (QV own h .no) (Z4 tw h .no) h' p S:=by
 obtain⟨ps,lp,pr,pt,T⟩:=T;exact⟨_,_,_,_,T.step (λl Qb=>⟨λhv=>⟨Kg Qb,e l Qb λh1=>hv.1 h1.1⟩,λhv _=>⟨Vh Qb,e l Qb λh1=>hv h1.2⟩⟩) (gA T.ap)⟩
structure ZV.Small (o:ZV):Prop where
 c:o.changes.length<1000000
 r:o.rules.length<1000000
def Qi7(S:ZF)(op now:Nat)(k:Int):((Js S op now).1.st.Jc k).length<=(S.st.Jc k).length:=by
 have hw:∀(s:Da) (cls:Int) (done:Nat) (bytes:Int) (real:Bool),((YP s cls done bytes real).Jc k).length<=(s.Jc k).length:=λs cls done bytes real=>by
  unfold YP;cases hc:s.Jc cls with
  | nil=>exact QB _
  | cons a l=>
   dsimp only;split
   .exact QB _
   .split
    .exact QB _
    .dsimp only;split
     .rename_i e;rw[e,hc];simp
     .exact QB _
 unfold Js;split
 .exact QB _
 .split
  .exact hw _ _ _ _ _
  .exact QB _
def Qi8(op e)(k:Int):∀(n:Nat) (S:ZF),((Vg op e n S).1.st.Jc k).length<=(S.st.Jc k).length
 | 0,S=>QB _
 | n+1,S=>by
  unfold Vg;split
  .exact QB _
  .exact Ki (Qi8 op e k n _) (Qi7 { S with Qf:=Zs S } op (Zs S) k)
def OR.do{S}(C:OR S)(o:ZV):OR (JM S o).S:=by
 refine⟨λk=>?_⟩;rw[QiC];have hk:=C.ca k;show ((VX { S with ops:=S.ops+1 } S.ops o).S.st.Jc k).length<=S.ops+1;unfold VX;split
 .show (S.st.Jc k).length<=_;omega
 .split
  .split<;>(show (S.st.Jc k).length<=_;omega)
  .split
   .unfold YR;split
    .show (S.st.Jc k).length<=_;omega
    .split
     .refine Ki (Qi7 _ _ _ k) ?_;show (if k=_ then S.st.Jc k++[S.Qf] else S.st.Jc k).length<=_;split
      .rw[ZW];show _+1<=_;omega
      .omega
     .show (S.st.Jc k).length<=_;omega
   .split
    .unfold qZ;split
     .show (S.st.Jc k).length<=_;omega
     .exact Ki (Qi8 _ _ k _ _) (by show (S.st.Jc k).length<=_;omega)
    .show (S.st.Jc k).length<=_;omega
def Wr.Qi9{own}{tw}{h h':List Ob}{p}{S}(T:Wr own tw h p S)(e:∀l,l<h.length->¬(own l=.no/\(tw l=.no\/tw l=.my))->h'[l]? = h[l]?):Wr (QV own h .no) (Z4 tw h .my) h' p S:=by
 obtain⟨ps,lp,pr,pt,T⟩:=T;refine⟨_,_,_,_,T.step (λl Qb=>⟨λhv=>⟨Kg Qb,e l Qb λh1=>hv.1 h1.1⟩,λhv hm=>⟨Vh Qb,e l Qb λh1=>h1.2.elim hv hm⟩⟩) λl hl=>?_⟩;by_cases h1:l<h.length
 .rw[Vh h1]at hl;rw[Kg h1];exact T.ap l hl
 .exact jj ω
def kv.rows(l:List kv):Nat->List D:=λi=>(l.getD i default).cells
@[go_sem] theorem kv.xA(l:List kv)(i):kv.rows l i=(l.getD i default).cells:=rfl
@[go_sem] def QGv(l:List kv):D:=.imm 3 l.length (kv.rows l)
structure QGw (x:YD) (p q k:Nat) (own:Nat->Tag) (tw:Nat->TT) (H:List Ob) (S:ZF) (R:List kv) (E:List Ev) (dR dE:D):Prop where
 T:Wr own tw H p S
 V:Jd S
 C:OR S
 ops:S.ops=k
 hx:H[0]? = some ⟨.one,0,3,1,λ_=>x.cells⟩
 hr:H[1]? = some ⟨.one,0,2,1,λ_=>[.nil,.nil]⟩
 hq:H[q]? = some ⟨.one,0,2,1,λ_=>[dR,dE]⟩
 q2:2<=q
 my:∀l,l=0\/l=1\/l=q->own l=.no/\tw l=.my
 sR:zF (λl=>own l=.no/\tw l=.my) H 3 kv.cells dR R
 sE:zF (λl=>own l=.no/\tw l=.my) H 12 Ev.cells dE E
 run:Zn (S0 x.config) (x.ops.take k)=(S,R,E)
 lR:R.length=k
 lE:E.length<=5000*k
def QAd(S:ZF)(o:ZV)(h:VR S.M<=4096):(JM S o).l.length<=5000:=by
 have hg:∀(op e n:Nat) (S:ZF),(Vg op e n S).2.length<=n:=by
  intro op e n;induction n with
  | zero=>exact λS=>QB _
  | succ n ih=>
   intro S;unfold Vg;split
   .exact Jh _
   .have h1:=ih (Js { S with Qf:=Zs S } op (Zs S)).1;have h2:=TR { S with Qf:=Zs S } op (Zs S);dsimp only;rw[ZW];omega
 show (VX { S with ops:=S.ops+1 } S.ops o).l.length<=5000;unfold VX;split
 .exact Jh _
 .split
  .split<;>exact Jh _
  .split
   .unfold YR;split
    .exact Jh _
    .split
     .have h2:=TR { { S with ops:=S.ops+1 } with M:=Jx S.M S.Qf (Kr S.R (ZR o.ZI)) o.ZI,st:=vw S.st (Kr S.R (ZR o.ZI)) S.Qf } S.ops S.Qf;show (_::_:List Ev).length<=5000;rw[Kv];exact Ki (Nat.succ_le_succ h2) π
     .exact Jh _
   .split
    .unfold qZ;split
     .exact Jh _
     .have:=hg S.ops (S.Qf+o.Wi.toNat) (VR S.M+1) { S with ops:=S.ops+1 };exact Ki this ω
    .exact Jh _
def Jd.start{own}{tw}{h}{p}{c}(T:Wr own tw h p (S0 c)):Jd (S0 c):=by
 obtain⟨_,_,_,_,T⟩:=T;exact⟨T.co.I,T.co.V,T.co.K,λj x hx=>(by cases hx),QB _,Jh _,Jh _,λk=>⟨BQ _,BQ _,BQ _,BQ _,BQ _⟩,λk a ha=>(by cases ha)⟩
def QAe{α:Type}[Inhabited α]{f:α->List D}{L M:List α}{r1 r2:Nat->List D}(h1:∀i,i<L.length->r1 i=f (L.getD i default))(h2:∀i,i<M.length->r2 i=f (M.getD i default)):∀i,i<(L++M).length->Kt L.length 0 r1 r2 i=f ((L++M).getD i default):=by
 intro i hi;rw[ZW]at hi;rw[Q5];by_cases hl:i<L.length
 .rw[Az hl,JD,h1 i hl,JC hl,Q5]
 .rw[xk ω,h2 _ ω,Kb ω,Q5]
def LL(o:ZV):Bool:=decide (o.changes.length<=40)&&decide (o.rules.length<=40)
def yg(x:YD)(m:Nat):Bool:=decide (x.ops.length<=m)&&x.ops.all LL
def Qja{α:Type}(l:List α)(d:α)(f):l.all f=true↔∀j,j<l.length->f (l.getD j d)=true:=by
 rw[XK];constructor
 .intro h j hj;exact h _ (qg l d j hj)
 .intro h a ha;obtain⟨i,hi,rfl⟩:=wZ ha;have:=h i hi;simpa[Q5,hi] using this
def Qjb(x:YD)(m:Nat)(hm:m<1000000):QW prog 12 [.agg x.cells,Qa m] (QN (QT (yg x m))):=by
 refine xT 0 func12 ntmps12 results12 λbase w hb=>?_;simp only[go_sem];by_cases h1:m<x.ops.length
 .simp only[go_sem,h1,decide_true];have:yg x m=false:=by simp[yg];omega
  rw[this]
 .have Ji:decide (m<x.ops.length)=false:=ξ;simp only[go_sem,Ji];refine MW (G:=Nat) [13,14] (λk=>∀j,j<k->LL (x.ops.getD j default)=true) (λk γ=>[(15,Qa k)]) (λk γ=>[]) (x.ops.length) (0) rfl (Qz.to 0 (by (simp only[go_sem])<;>simp)) ?_ ?_
  .intro j hj;omega
  intro k γ hk Kj;apply Qn hb;have Zb:=J9 (show k<4611686018427387904 from ω);first|refine jO hk (λQj=>?_) (λQj=>?_)|refine jP hk (λQj=>?_) (λQj=>?_)
  .simp only[go_sem,Qj];have ff:¬ (∀j,j<x.ops.length->LL (x.ops.getD j default)=true)->yg x m=false:=λhn=>by
    rw[Xe];intro hf;simp only[yg,Zy]at hf;exact hn ((Qja _ default _).1 hf.2)
   first|refine F0 (λh2=>?_) (λh2=>?_)|refine F1 (λh2=>?_) (λh2=>?_)|refine F2 (λh2=>?_) (λh2=>?_)|refine YA (λh2=>?_) (λh2=>?_)|refine F3 (λh2=>?_) (λh2=>?_)|refine F4 (λh2=>?_) (λh2=>?_)|refine F5 (λh2=>?_) (λh2=>?_)|refine FW (λh2=>?_) (λh2=>?_)
   .simp only[go_sem];rw[ff (λhn=>by have:=hn k Qj;simp only[LL,Zy,XL]at this;omega)]
   .simp only[go_sem];first|refine F0 (λh3=>?_) (λh3=>?_)|refine F1 (λh3=>?_) (λh3=>?_)|refine F2 (λh3=>?_) (λh3=>?_)|refine YA (λh3=>?_) (λh3=>?_)|refine F3 (λh3=>?_) (λh3=>?_)|refine F4 (λh3=>?_) (λh3=>?_)|refine F5 (λh3=>?_) (λh3=>?_)|refine FW (λh3=>?_) (λh3=>?_)
    .simp only[go_sem];rw[ff (λhn=>by have:=hn k Qj;simp only[LL,Zy,XL]at this;omega)]
    .simp only[go_sem];repeat (refine And.intro δ ?_)
     refine⟨_,Qz.to 0 (by (simp only[go_sem,Zb])<;>simp),XT.mk (0) (?_)⟩;intro j hj;rcases vM.1 hj with h|rfl
     .exact Kj j h
     .simp only[LL,Zy,XL];omega
  .simp only[go_sem];apply Qn hb;subst Qj;have:yg x m=true:=by
    simp only[yg,Zy];exact⟨ξ,(Qja _ default _).2 Kj⟩
   rw[this]
def ky(n:Nd)(a:Bool)(f:Nat):List D:=n.c.cells++(QT a::u64 n.QO::(n.du.cells++(n.sh.cells++(n.cp.cells++(u64 f::n.q.Sr)))))
theorem QAf(M)(id)(n):QhJ M id n=ky n (JV M id) (Wm M id n):=rfl
section
variable (n:Nd)(a:Bool)(f:Nat)
@[go_sem] theorem QGx:(ky n a f).length=67:=rfl
@[go_sem] theorem QGy:(ky n a f).all D.Vn=true:=rfl
@[go_sem] theorem QGz:(List.drop 15 (ky n a f)).getD 0 D.undef=u64 n.QO:=rfl
@[go_sem] theorem QGA:(List.drop 2 (ky n a f)).getD 0 D.undef=QT n.c.leaf:=rfl
@[go_sem] theorem QGB:(List.drop 63 (ky n a f)).getD 0 D.undef=u64 n.q.cd:=rfl
@[go_sem] theorem QGC:(List.drop 65 (ky n a f)).getD 0 D.undef=u64 n.q.bo:=rfl
@[go_sem] theorem QGD:(List.drop 66 (ky n a f)).getD 0 D.undef=u64 n.q.bd:=rfl
@[go_sem] theorem QGE(v):List.take 63 (ky n a f)++(.raw (.int .u64 ((v:Nat):Int))::List.drop 64 (ky n a f))=ky { n with q:={ n.q with cd:=v } } a f:=rfl
@[go_sem] theorem QGF(v):List.take 66 (ky n a f)++[.raw (.int .u64 ((v:Nat):Int))]=ky { n with q:={ n.q with bd:=v } } a f:=rfl
end
@[go_sem] def QAg(n:Nd)(a:Bool)(f:Nat):Ob:=⟨.one,0,67,1,λ_=>ky n a f⟩
def QAh{own}{tw}{h}{p}{S:ZF}(T:Wr own tw h p S){id}{n}(hn:Qh S.M.N id=some n):Q6 prog 35 h [.ptr p 0 0 0,Qa id] (λd=>d=.tup [.agg (ky n (JV S.M id) (Wm S.M id n)),Qa 0]):=by
 obtain⟨ps,pl,pr,pt,T⟩:=T;have ho:=ZC T.o;obtain⟨L,C⟩:=T.co.ex;have hP:=λ(F:List Ob) (hF:F=h.map Ob.ro) (G:List Ob)=>Qx7 ((C.ro.more (KC hF)).more (zZ (g:=G))) T.co.I hn (T.co.V.x7 id n hn);clear C T;rw[QAf]at hP;refine xD func35 ntmps35 results35 λbase w pl F hF Q7 hb=>?_;rw[<- hF]at ho;have Ql:=Qb ho;simp only[go_sem,Qe,ho,Ql];apply ZQ hb Qp2 (hP F hF _);apply JH hb;exact⟨_,rfl,rfl,rfl⟩
def QAi{own}{tw}{h}{p}{S:ZF}(T:Wr own tw h p S):QH prog 34 h [.ptr p 0 0 0] (λd h'=>d=ints (S.M.T.map (·.iD))/\∃g,h'=h++g):=by
 obtain⟨ps,pl,pr,pt,T⟩:=T;have ho:=T.o;obtain⟨L,C⟩:=T.co.ex;have hT:=Qx4 C;have hl:=T.co.I.tree.len;refine QQ func34 ntmps34 results34 λbase w pl hb=>?_;have Ql:=Qb ho;simp only[go_sem,ho];refine Zw hb Qp1 hT λd h2 hR=>?_;obtain⟨rfl,hS,g,rfl,hg⟩:=hR;apply Qn hb;apply ZQ hb Rw (R5 hS.toR ω);apply Qn hb;exact⟨_,rfl⟩
end Go.Fg.X
namespace Go.Fg.X
open Go.Proofs Go.Fg
open Go.Proofs.Tryz
def QAj(l:List ZV){k}(hk:k<l.length):l.take (k+1)=l.take k++[l.getD k default]:=by
 rw[Fo,QP hk,Q5,QP hk];rfl
def QAk(S:ZF)(l:List ZV){k}(hk:k<l.length):(Zn S (l.take (k+1))).1=(JM (Zn S (l.take k)).1 (l.getD k default)).S/\(Zn S (l.take (k+1))).2.2=(Zn S (l.take k)).2.2++(JM (Zn S (l.take k)).1 (l.getD k default)).l:=by
 rw[QAj l hk,Qix];exact⟨rfl,by simp only[Zn,JI]⟩
structure E0 (c:Cf) (ops:List ZV) (p k lo g:Nat) (h0:List Ob) (Kp:Nat->Prop) (own:Nat->Tag) (tw:Nat->TT) (H:List Ob) (S:ZF) (E:List Ev) (row:Nat->List D):Prop where
 T:Wr own tw H p S
 V:Jd S
 C:OR S
 gI:S.ops=k
 kp:∀l,l<h0.length->Kp l->H[l]? = h0[l]?/\own l=.no/\tw l=.my
 Zq:H[lo]? = some ⟨.arr,g,12,E.length,row⟩
 rw_:∀i,i<E.length->row i=Ev.cells (E.getD i default)
 my:own lo=.no/\tw lo=.my
 nk:lo<h0.length->¬Kp lo
 S_:S=(Zn (S0 c) (ops.take k)).1
 E_:E=(Zn (S0 c) (ops.take k)).2.2
 lE:E.length<=5000*k
section
variable {c:Cf}{ops:List ZV}{p k lo g:Nat}{h0:List Ob}{Kp:Nat->Prop}{own:Nat->Tag}{tw:Nat->TT}{H:List Ob}{S:ZF}{E:List Ev}{row:Nat->List D}
def E0.start{Jl}{Vr}{h1:List Ob}(T:Wr Jl Vr h1 p (S0 c))(kp:∀l,l<h0.length->Kp l->l<h1.length/\h1[l]? = h0[l]?/\Jl l=.no/\Vr l=.my)(hl:h0.length<=h1.length):
  E0 c ops p 0 h1.length 0 h0 Kp (QV Jl h1 .no) (Z4 Vr h1 .my) (h1++[(⟨.arr,0,12,0,λ_=>[]⟩:Ob)]) (S0 c) [] (λ_=>[]):=by
 have T':=T;obtain⟨_,_,_,_,Tx⟩:=T';refine⟨⟨_,_,_,_,Tx.BG _⟩,Jd.start T,⟨λk=>Jh _⟩,rfl,λl hl hk=>?_,KV rfl,λi hi=>absurd hi (WZ i),⟨jj (QB _),EW (QB _)⟩,λh=>absurd h ω,rfl,rfl,Jh _⟩;obtain⟨a,b,d,e⟩:=kp l hl hk;exact⟨(QG a).trans b,(Kg a).trans d,(Vh a).trans e⟩
def E0.close(I:E0 c ops p k lo g h0 Kp own tw H S E row){w0:Start}(hF:w0.F=[])(hp:w0.pl=[]){fr}(t)(ht:get fr t=.ref lo g 0 E.length):
  ∃h' own' Jg,Qz w0 ⟨fr,H⟩ ⟨put fr t (V0 E),h'⟩/\Wr own' Jg h' p S/\∀l,l<h0.length->Kp l->h'[l]? = h0[l]?/\own' l=.no/\Jg l=.my:=by
 have ql:w0.pl.length=w0.F.length:=by rw[hF,hp];rfl
 have hg:∀h:List Ob,oq w0.F h:=λh l o e=>by rw[hF]at e;simp at e
 have hz:∀n,w0.F.length<=n:=λn=>by rw[hF];exact Jh _
 have W1:=Qz.rows (w0:=w0) (fr:=fr) lo (Ev.rows E) I.Zq λi hi=>I.rw_ i hi;have h1:(H.set lo ⟨.arr,g,12,E.length,Ev.rows E⟩)[lo]? = some ⟨.arr,g,12,E.length,Ev.rows E⟩:=QE (Qb I.Zq);have W2:=Qz.ot ql (hg _) t lo (hz _) ht h1 (by show 0+E.length<=E.length;omega) rfl (λi hi=>rfl);rw[QbO]at W2;refine⟨_,_,_,Qz.trans W1 W2,I.T.Qi9 λl hl hn=>?_,λl hl hk=>?_⟩
 .have QA:lo≠l:=λe=>hn (by rw[<- e];exact⟨I.my.1,.inr I.my.2⟩);rw[Qr QA,Qr QA]
 .obtain⟨a,b,d⟩:=I.kp l hl hk;have QA:lo≠l:=λe=>I.nk (by rw[e];exact hl) (by rw[e];exact hk);have gL:l<H.length:=by
   have:(H[l]?).isSome=true:=by rw[a,QP hl];rfl
   exact Nat.lt_of_not_le λhle=>by rw[Ar hle]at this;cases this
  exact⟨by rw[Qr QA,Qr QA];exact a,(Kg gL).trans b,(Vh gL).trans d⟩
def E0.step(I:E0 c ops p k lo g h0 Kp own tw H S E row)(hk:k<ops.length)(ho:∀q∈(ops.getD k default).changes,JN.Ok q){G}{JW}{Xd}{h2}{dl}(T2:Wr JW Xd h2 p (JM S (ops.getD k default)).S)
  (s2:zF (λl=>(H++G).length<=l/\JW l=.no/\Xd l=.no) h2 12 Ev.cells dl (JM S (ops.getD k default)).l) (K2:Jo (H++G).length (QV own H .no) (Z4 tw H .my) (H++G) JW Xd h2) (G2:List Ob) {w0:Start} (hF:w0.F=[]) (hp:w0.pl=[]) {fr:List (Nat × D)} (t:Nat) (ht:get fr t=dl) :
  ∃G7 h4 CS G3,Qz w0 ⟨fr,h2++G2⟩ ⟨put fr t (.imm 12 (JM S (ops.getD k default)).l.length G7),h4⟩/\(∀i,i<(JM S (ops.getD k default)).l.length->G7 i=Ev.cells ((JM S (ops.getD k default)).l.getD i default))/\h4[lo]? = some ⟨.arr,g,12,E.length,row⟩ /\
   E0 c ops p (k+1) lo (g+1) h0 Kp CS G3 (h4.set lo ⟨.arr,g+1,12,E.length+(JM S (ops.getD k default)).l.length,Kt E.length 0 row G7⟩) (JM S (ops.getD k default)).S (E++(JM S (ops.getD k default)).l) (Kt E.length 0 row G7):=by
 have hV:=I.V.do ho;have hC:=I.C.do (ops.getD k default);have hO:=QiC S (ops.getD k default);obtain⟨nS,nE⟩:=QAk (S0 c) ops hk;rw[<- I.S_]at nS nE;rw[<- I.E_]at nE;obtain⟨_,_,_,_,Tc⟩:=I.T;have hlY:=QAd S (ops.getD k default) Tc.co.gG;generalize JM S (ops.getD k default)=Y at *;obtain⟨_,_,_,_,T2x⟩:=T2;have T3:=T2x.BG G2;have FH:H.length<=h2.length:=by have:=K2.len;rw[ZW]at this;omega
 have s3:zF (λl=>l<h2.length/\JW l=.no/\Xd l=.no) (h2++G2) 12 Ev.cells dl Y.l:=s2.step λj hj h1=>⟨⟨hj,h1.2⟩,QG hj⟩;have my2:∀l,l<H.length->own l=.no->tw l=.my->JW l=.no/\Xd l=.my/\h2[l]? = H[l]? := λl hl h1 h2=>by
  have Jj:l<(H++G).length:=by rw[ZW];omega
  have a1:QV own H .no l=.no:=(Kg hl).trans h1;have a2:Z4 tw H .my l=.my:=(Vh hl).trans h2;exact⟨(K2.s1 l Jj).trans a1,(K2.s2 l Jj).trans a2,(K2.my l Jj a2).trans (QG hl)⟩
 obtain⟨G7,h4,W4,ZG,dS,k4⟩:=QAa hF hp (λa=>rfl) (h:=h2++G2) t ht s3;have Cz:(h2++G2).length<=h4.length:=dS;obtain⟨CS,Qjc⟩:∃f,f=QV (QV JW h2 .no) (h2++G2) .no:=⟨_,rfl⟩;obtain⟨G3,Qjd⟩:∃f,f=Z4 (Z4 Xd h2 .my) (h2++G2) .no:=⟨_,rfl⟩;have T4:Wr CS G3 h4 p Y.S:=by
  rw[Qjc,Qjd];refine Wr.far ⟨_,_,_,_,T3⟩ dS λl hl hn=>k4 l hl λhh=>hn ?_;exact⟨(Kg hh.1).trans hh.2.1,(Vh hh.1).trans hh.2.2⟩
 have my4:∀l,l<H.length->own l=.no->tw l=.my->CS l=.no/\G3 l=.my/\h4[l]? = H[l]? := λl hl h1 Yu=>by
  obtain⟨b1,b2,b3⟩:=my2 l hl h1 Yu;have Jp:l<h2.length:=ω;have Cz:l<(h2++G2).length:=by rw[ZW];omega
  refine⟨by rw[Qjc,Kg Cz,Kg Jp];exact b1,by rw[Qjd,Vh Cz,Vh Jp];exact b2,?_⟩;rw[k4 l Cz λh=>(by rw[b2]at h;cases h.2.2),QG Jp];exact b3
 have Zq:=Qb I.Zq;obtain⟨m1,m2,m3⟩:=my4 lo Zq I.my.1 I.my.2;have TY:h4[lo]? = some ⟨.arr,g,12,E.length,row⟩:=m3.trans I.Zq;refine⟨G7,h4,CS,G3,W4,ZG,TY,?_⟩;obtain⟨_,_,_,_,T4x⟩:=T4;refine⟨⟨_,_,_,_,T4x.loc m1 (.inr m2) _⟩,hV,hC,by rw[hO,I.gI],λl hl hkp=>?_,?_,QAe I.rw_ ZG,⟨m1,m2⟩,I.nk,nS.symm,nE.symm,?_⟩
 .obtain⟨a,b,d⟩:=I.kp l hl hkp;have gL:l<H.length:=by
   have:(H[l]?).isSome=true:=by rw[a,QP hl];rfl
   exact Nat.lt_of_not_le λhle=>by rw[Ar hle]at this;cases this
  obtain⟨b1,b2,b3⟩:=my4 l gL b d;exact⟨by rw[Qr (λe=>I.nk (by rw[e];exact hl) (by rw[e];exact hkp)),b3,a],b1,b2⟩
 .rw[QE (Qb TY),ZW]
 .have:=I.lE;rw[ZW];omega
end
def QAo(S:ZF)(op now:Nat):∀e∈(Js S op now).2,e.op=op:=by
 unfold Js;split
 .intro e he;cases he
 .split
  .intro e he;simp only[q8]at he;rw[he];rfl
  .intro e he;cases he
def QL(S:ZF)(n:Nat):Prop:=∀j,(Zj S.M j).length<=n
def QL.take{S:ZF}{n}(h:QL S n)(now)(j:Int):(Zj (takeN S.M now) j).length<=n:=by
 rw[EV];have:=h j;split
 .rw[List.length_tail];omega
 .exact this
def QL.put{S:ZF}{n}(h:QL S n)(now)(cls)(x)(j:Int):(Zj (Jx S.M now cls x) j).length<=n+1:=by
 rw[OF];have:=h j;split
 .rw[ZW,kE];omega
 .omega
def QL.GZ{S}{n}(h:QL S n)(op now:Nat):QL (Js S op now).1 n:=by
 unfold Js;split
 .exact h
 .split
  .exact h.take now
  .exact h.take now
def QL.go{op e n}:∀(k:Nat) {S:ZF},QL S n->QL (Vg op e k S).1 n
 | 0,S,h=>h
 | k+1,S,h=>by
  unfold Vg;split
  .exact h
  .exact QL.go k (QL.GZ (S:={ S with Qf:=Zs S }) h op (Zs S))
def QL.do{S}{n}(h:QL S n)(o:ZV):QL (JM S o).S (n+1):=by
 have h1:QL S (n+1):=λj=>Nat.le_succ_of_le (h j);show QL (VX { S with ops:=S.ops+1 } S.ops o).S (n+1);unfold VX;split
 .exact λj=>Qiz (P:=λq=>q.length<=n+1) (Jh _) _ _ (h1 j)
 .split
  .split<;>exact h1
  .split
   .unfold YR;split
    .exact h1
    .split
     .exact QL.GZ (S:={ { S with ops:=S.ops+1 } with M:=Jx S.M S.Qf (Kr S.R (ZR o.ZI)) o.ZI,st:=vw S.st (Kr S.R (ZR o.ZI)) S.Qf }) (λj=>h.put _ _ _ j) _ _
     .exact λj=>h.put _ _ _ j
   .split
    .unfold qZ;split
     .exact h1
     .exact QL.go _ h1
    .exact h1
def Jd.gM{c}(K:WM c):Jd (S0 c):=⟨Qhn c,QhM c,K,λj x hx=>(by cases hx),QB _,Jh _,Jh _,λk=>⟨BQ _,BQ _,BQ _,BQ _,BQ _⟩,λk a ha=>(by cases ha)⟩
def QL.gG{S:ZF}{n}(h:QL S n)(I:Qy S.M):VR S.M<=64*n:=by
 have h1:=ud (λc=>(Zj S.M c.iD).length) n S.M.T λc _=>h c.iD;have h2:=I.tree.len;unfold VR;have h3:S.M.T.length*n<=64*n:=X7 n h2;omega
def Qjg(op e):∀(n:Nat) (S:ZF),(Vg op e n S).2.length<=n
 | 0,S=>QB _
 | n+1,S=>by
  unfold Vg;split
  .exact Jh _
  .have h1:=Qjg op e n (Js { S with Qf:=Zs S } op (Zs S)).1;have h2:=TR { S with Qf:=Zs S } op (Zs S);dsimp only;rw[ZW];omega
def QAp(S:ZF)(o:ZV):(JM S o).l.length<=VR S.M+2:=by
 show (VX { S with ops:=S.ops+1 } S.ops o).l.length<=_;unfold VX;split
 .exact Jh _
 .split
  .split<;>exact Jh _
  .split
   .unfold YR;split
    .exact Jh _
    .split
     .have h2:=TR { { S with ops:=S.ops+1 } with M:=Jx S.M S.Qf (Kr S.R (ZR o.ZI)) o.ZI,st:=vw S.st (Kr S.R (ZR o.ZI)) S.Qf } S.ops S.Qf;show (_::_:List Ev).length<=_;rw[Kv];exact Ki (Nat.succ_le_succ h2) (Nat.le_add_left 2 _)
     .exact Jh _
   .split
    .unfold qZ;split
     .exact Jh _
     .exact Ki (Qjg S.ops (S.Qf+o.Wi.toNat) (VR S.M+1) { S with ops:=S.ops+1 }) (Ma _)
    .exact Jh _
def Qjh:∀(l:List ZV) {S:ZF} {n:Nat},Jd S->QL S n->(∀o∈l,ZV.Ok o)->(Zn S l).2.2.length<=l.length*(64*(n+l.length)+2)
 | [],S,n,T,h,hl=>Jh _
 | o::l,S,n,T,h,hl=>by
  have ho:=(hl o J2).2.1.2;have h1:=Qjh l (T.do ho) (h.do o) λa ha=>hl a (JR _ ha);have h2:=QAp S o;have h3:=h.gG T.I;show ((JM S o).l++(Zn (JM S o).S l).2.2).length<=_;rw[ZW,Kv];have e:n+1+l.length=n+(l.length+1):=ω;rw[e]at h1;rw[Vz,Me];have h4:64*n<=64*(n+(l.length+1)):=Md 64 (Nat.le_add_right _ _);omega
def gN{x:YD}{m}(K:WM x.config)(hl:x.ops.length<=m)(hm:m<=1000)(ZM:∀o∈x.ops,ZV.Ok o):(Zn (S0 x.config) x.ops).2.2.length<100000000:=by
 have h:=Qjh x.ops (Jd.gM K) (n:=0) (λj=>Jh _) ZM;have h1:x.ops.length*(64*(0+x.ops.length)+2)<=1000*(64*1000+2):=qC ω ω;omega
def uk(t:Int):Int->List Ev->Prop
 | _,[]=>True
 | u,v::l=>if v.J8=true then uk t u l else u<=v.at_/\1<=v.len/\v.len<=16384/\0<=v.at_/\v.at_<=4611686018427387904/\v.done=v.at_+v.len*t/\uk t v.done l
def um:Int->List Ev->Int
 | u,[]=>u
 | u,v::l=>if v.J8=true then um u l else um v.done l
structure PkR (c:Cf) (S S':ZF) (l:List Ev):Prop where
 ok:uk c.t S.XI l
 un:um S.XI l=S'.XI
 lk:S'.M.lk=c
def QAq(n:Nd):Prop:=n.c.ul.Nn/\(¬1<QR n.c.ul->n.cp.has=false/\n.cp.fit=0)
def Qji(M:Qk):Prop:=∀n∈M.N,QAq n
def uo(M:Qk)(now)(cls)(x:Pk):(Jx M now cls x).T=M.T:=by
 have h:=(wQ M now).2.1;unfold Jx;split
 .unfold Vy;split
  .exact h
  .split
   .split
    .rw[QyS];exact h
    .exact h
   .exact h
 .rfl
def QAr(d:D)(hs:List Ob):D->List Ob->Prop:=λd' h=>d'=d/\h=hs
attribute [go_sem] QAr
structure Kn where
 OU:Int
 since:Int
 work:Nat
@[go_sem] def Kn.cells(k:Kn):List D:=[.raw (.int .u64 k.OU),.raw (.int .u64 k.since),.raw (.int .i64 k.work)]
def Kn.next(k:Kn)(e:Ev):Kn:=
 if e.J8=true then ⟨k.OU,if k.work=0 then e.at_ else k.since,k.work+1⟩ else ⟨max k.OU e.done,k.since,k.work - 1⟩
def Kn.late(k:Kn)(e:Ev):Bool:=!e.J8&&(decide (0<k.work)&&decide (max k.OU k.since<e.at_))
@[go_sem] def QGI(k:Kn):Ob:=⟨.one,0,3,1,λ_=>k.cells⟩
def Qjj(l:List Ev):Nat->Kn
 | 0=>⟨0,0,0⟩
 | k+1=>(Qjj l k).next (l.getD k default)
def Wg(l:List Ev)(k:Nat):Bool:=(Qjj l k).late (l.getD k default)
structure Qjk (T:List Qq):Prop where
 ul:∀c∈T,¬1<QR c.ul
 ls:∀c∈T,c.leaf=true->1<QR c.ls
section
variable {M:Qk}(I:Qy M)(V:Inv M)(F:Qji M)(P:Qjk M.T)
include I V F P
end
structure QAs (k:Kn) (S:ZF):Prop where
 w:k.work=VR S.M
 u:k.OU=S.XI
 s:k.since<=S.Qf
 F:Qji S.M
 P:Qjk S.M.T
structure QGJ (k:Kn) (S:ZF):Prop extends QAs k S where
 b:0<VR S.M->S.Qf<S.XI
structure BI where
 V8:Int
 to:Int
instance:Inhabited BI:=⟨⟨0,0⟩⟩
@[go_sem] def BI.cells(s:BI):List D:=[.raw (.int .u64 s.V8),.raw (.int .u64 s.to)]
def BI.rows(l:List BI):Nat->List D:=λi=>(l.getD i default).cells
@[go_sem] theorem BI.xA(l:List BI)(i):BI.rows l i=(l.getD i default).cells:=rfl
@[go_sem] def strs(l:List BI):D:=.imm 2 l.length (BI.rows l)
structure StS where
 l:List BI
 OU:Int
def rw_(l:List Ev):Nat->Nat
 | 0=>0
 | k+1=>if (l.getD k default).J8=true then rw_ l k+1 else rw_ l k - 1
@[simp] theorem QGL(l:List Ev):rw_ l 0=0:=rfl
end Go.Fg.X
namespace Go.Fg.X
open Go.Proofs Go.Fg
open Go.Proofs.Tryz
def E6(l:List ZV):Bool:=(l.drop 1).all λo=>o.kind != 1
def still_at{l:List ZV}(h:E6 l=true){k}(hk:k<l.length)(h0:0<k):(l.getD k default).kind≠1:=by
 have h1:=XK.1 h (l.getD k default) (by
  rw[Q5,QP hk];obtain⟨j,rfl⟩:∃j,k=j+1:=⟨k - 1,ω⟩;refine Hf (i:=j) ?_;rw[Fj,Pp,QP hk];rfl)
 simpa using h1
def Qjl{l:List ZV}:E6 l=true↔∀k,k<l.length->0<k->(l.getD k default).kind≠1:=by
 refine⟨λh k hk h0=>still_at h hk h0,λh=>?_⟩;unfold E6;rw[XK];intro o ho;obtain⟨i,hi,rfl⟩:=wZ ho;rw[Un]at hi;have:=h (i+1) ω ω;rw[List.getElem_drop];rw[Q5,QP ω]at this;have e:1+i=i+1:=Pp 1 i;simp only[e];simpa using this
section
variable (n:Nd)(a:Bool)(f:Nat)
@[go_sem] theorem QGM:List.take 14 (ky n a f)=n.c.cells:=rfl
end
def QAt{M:Qk}(I:Qy M)(V:Inv M){j}(h:Zj M j≠[]):j∈VF M/\j∈up M.T j:=by
 unfold Zj Qw at h;cases hn:Qh M.N j with
 | none=>rw[hn]at h;exact absurd rfl h
 | some n=>
  have hl:n.c.leaf=true:=by
   cases hl:n.c.leaf with
   | true=>rfl
   | false=>
    have:=V.x7 j n hn hl;rw[hn]at h;refine absurd ?_ h;show n.q.l=[];rw[this]
  have Q8:=Qy.id (M:=M) hn;refine⟨Jt.2 ⟨Z2.2 ⟨n.c,Jt.2 ⟨((J6 I.tree.rising).1 (I.some hn)).1,hl⟩,Q8⟩,?_⟩,?_⟩
  .show (!(Qw M j).q.l.isEmpty)=true;unfold Qw;rw[hn];rw[hn]at h;cases hq:n.q.l with
   | nil=>exact absurd hq h
   | cons a b=>show (!((some n).getD default).q.l.isEmpty)=true;show (!n.q.l.isEmpty)=true;rw[hq];rfl
  .rw[dw I.tree,I.some hn];exact J2
def QAu{M}(I:Qy M)(V:Inv M)(b){l}(hl:∀c∈l,JN.Ok c)(j):Zj (K0 M b l) j=Zj M j:=by
 unfold K0;split
 .rename_i he;have I2:=(fc I.tree I.wK hl).1;have hb:kr M (JA M.T l) b=false:=by
   unfold jh at he;split at he
   .rename_i h;exact absurd he h
   .split at he
    .cases he
    .rename_i h;simpa using h
  have hf:Qh (Ab M (JA M.T l)).N j=if j∈Kf M.T (JA M.T l) then (Qx (JA M.T l) j).map Xs else Qh M.N j:=by
   show Qh (Xc M (JA M.T l)) j=_;rw[GR I I2];exact EP I2.rising j _ _
  by_cases ht:j∈Kf M.T (JA M.T l)
  .rw[Qd ht]at hf;have h0:Zj M j=[]:=kC λh=>by
    obtain⟨h1,h2⟩:=QAt I V h;have:wR M j=true:=BN.2 ⟨j,h1,by simpa using h2⟩;unfold kr at hb;rw[show (Kf M.T (JA M.T l)).any (wR M)=true from BN.2 ⟨j,ht,this⟩]at hb;cases hb
   rw[h0];unfold Zj Qw;rw[hf];cases Qx (JA M.T l) j<;>rfl
  .rw[Qc ht]at hf;unfold Zj Qw;rw[hf]
 .rfl
def Qjm{M}(I:Qy M){j}(h:Zj M j≠[]):1<=j:=by
 unfold Zj Qw at h;cases hn:Qh M.N j with
 | none=>rw[hn]at h;exact absurd rfl h
 | some n=>
  have Q8:=Qy.id (M:=M) hn;have:=I.tree.ids n.c ((J6 I.tree.rising).1 (I.some hn)).1;omega
def Ev.pk(e:Ev):Pk:=⟨e.id,e.len,e.h0,e.h1,e.h2,e.h3⟩
def OV(a b:Pk):Bool:=a.iD==b.iD&&(a.len==b.len&&(a.wc==b.wc&&(a.wg==b.wg&&(a.wh==b.wh&&a.wi==b.wi))))
def QAv(a b):OV a b=true↔a=b:=by
 obtain⟨a1,a2,a3,a4,a5,a6⟩:=a;obtain⟨b1,b2,b3,b4,b5,b6⟩:=b;simp[OV]
@[go_sem] def Qjn(x:Cf)(lm:Nat)(l:Ev)(done:Int)(q:D):List D:=[Qa x.t,Qa x.ZX,.mref lm 0,Qa l.op,QT l.J8,QT l.real,TL l.at_,TL l.done,Qa l.cls,TL l.id,Qa l.len,.raw (.int .u16 l.h0),.raw (.int .u16 l.h1),.raw (.int .u16 l.h2),.raw (.int .u16 l.h3),TL done,q]
section
variable (h:List Ob)(lb la lm:Nat)(x:Cf)(l:Ev)(done:Int)(q:D)(e:Ev)
 (Tq:(h.map Ob.ro)[lb]? = some ⟨.Vt,0,1,1,λ_=>[.ptr la 0 0 0]⟩) (ha:(h.map Ob.ro)[la]? = some ⟨.Vt,0,17,1,λ_=>Qjn x lm l done q⟩)
include Tq ha
def QAw(f:Ob->Ob)(h:List Ob)(d:D)(p:List Pk):Prop:=(d=.nil/\p=[])\/∃lo g off row,d=.ref lo g off p.length/\h[lo]? = some (f ⟨.arr,g,6,off+p.length,row⟩)/\∀i,i<p.length->row (off+i)=(p.getD i default).cells
variable {es:List Zt}{c:Nat}{p:List Pk}(hm:(h.map Ob.ro)[lm]? = some (QK .i64 c es).ro)
include hm
end
section
variable (h:List Ob)(lw:Nat)(e:Ev)(f:FuncId)(lc:Nat)(B:Bool)
end
structure QAx (h:List Ob) (es:List Zt) (W:Int->List Pk):Prop where
 at_:∀k,QAw id h ((ZL es k).getD .nil) (W k)
 sep:∀k k' lo g off n g' vQ n',ZL es k=some (.ref lo g off n)->ZL es k'=some (.ref lo g' vQ n')->k=k'
def QAy(h h':List Ob):Prop:=∀(l:Nat) (o:Ob),h[l]? = some o->o.kd.ty=0->o.sz≠17->o.sz≠6->h'[l]? = some o
def wU(W:Int->List Pk)(e:Ev):Int->List Pk:=λk=>if k=e.cls then (if e.J8 then W k++[e.pk] else (W k).tail) else W k
structure QGN (h:List Ob) (la lm:Nat) (x:Cf) (e:Ev) (done:Int) (q:D) (W:Int->List Pk) (h':List Ob):Prop where
 a:h'[la]? = some ⟨.one,0,17,1,λ_=>Qjn x lm e done q⟩
 m:∃c' es',h'[lm]? = some (QK .i64 c' es')/\QAx h' es' W
 s:QAy h h'
def TZ:Ev:=⟨0,false,false,0,0,0,0,0,0,0,0,0⟩
def uq(l:List Ev):Nat->Int->List Pk
 | 0=>λ_=>[]
 | i+1=>wU (uq l i) (l.getD i default)
def OW(l:List Ev):Nat->Ev
 | 0=>TZ
 | i+1=>l.getD i default
def ur(l:List Ev):Nat->Int
 | 0=>0
 | i+1=>if (l.getD i default).J8 then ur l i else (l.getD i default).done
def gO(x:Cf)(W:Int->List Pk)(last:Ev)(done:Int)(e:Ev):Nat->Bool
 | 0=>decide (e.op<0\/e.op<last.op\/e.cls<1)
 | 1=>decide (e.at_<last.at_\/4611686018427387904<e.at_)
 | 2=>kx e.pk x.ZX != 0
 | 3=>e.J8&&(e.done != 0 || e.real)
 | 4=>!e.J8&&(W e.cls).length==0
 | 5=>!e.J8&&!OV ((W e.cls).getD 0 default) e.pk
 | 6=>!e.J8&&decide (e.at_<done)
 | _=>!e.J8&&e.done != IntKind.u64.wrap (e.at_+vB e.pk x.t)
def uu(x:Cf)(l:List Ev)(i k:Nat):Bool:=gO x (uq l i) (OW l i) (ur l i) (l.getD i default) k
def QAz:Nat->Int
 | 0=>1
 | 1=>27
 | 2=>26
 | 3=>4
 | 4=>6
 | 5=>8
 | 6=>24
 | _=>20
section
end
end Go.Fg.X
namespace Go.Fg.X
open Go.Proofs Go.Fg
open Go.Proofs.Tryz
def QAA(l:List Pk):D:=.imm 6 l.length (Pk.rows l)
attribute [go_sem] QAA
end Go.Fg.X
namespace Go.Fg.X
open Go.Proofs Go.Fg
open Go.Proofs.Tryz
def Qjo(x:Cf)(l:List Ev)(i:Nat):Option Nat:=(List.range 8).find? (uu x l i)
def QAB(x:Cf)(l:List Ev):Option Nat:=(List.range l.length).find? λi=>(Qjo x l i).isSome
def uv(x:Cf)(l:List Ev):Int × Int:=if 1<=x.t/\x.t<=65536/\1<=x.ZX/\x.ZX<=16384 then (match QAB x l with
 | some i=>(i,match Qjo x l i with
  | some k=>QAz k
  | none=>0)
 | none=>(0,0)) else (0,7)
def lA:Ev:=⟨0,true,false,5,0,3,7,100,0,0,0,0⟩
def lB:Ev:=⟨0,false,false,5,105,3,7,100,0,0,0,0⟩
def lC:Ev:=⟨0,false,false,5,104,3,7,100,0,0,0,0⟩
def lX:Cf:=⟨1,100⟩
def v1:uv lX [lA,lB]=(0,0):=π
def v2:uv lX [lA,lC]=(1,20):=π
def v3:uv lX [lB]=(0,6):=π
def E7(d:Int)(e:Ev):Int:=if e.J8=true then d else e.done
def LM(x:Cf):(Int->List Pk)->Ev->Int->List Ev->Prop
 | _,_,_,[]=>True
 | W,a,d,e::l=>(∀k,k<8->gO x W a d e k=false)/\LM x (wU W e) e (E7 d e) l
def Qjp(x):∀(l m:List Ev) (W:Int->List Pk) (a:Ev) (d:Int),LM x W a d l->LM x (l.foldl wU W) (l.foldl (λ_ e=>e) a) (l.foldl E7 d) m->LM x W a d (l++m)
 | [],m,W,a,d,_,h=>h
 | e::l,m,W,a,d,h1,h2=>⟨h1.1,Qjp x l m _ _ _ h1.2 h2⟩
def Qjq(l:List Ev):∀k,k<=l.length->uq l k=(l.take k).foldl wU (λ_=>[])/\OW l k=(l.take k).foldl (λ_ e=>e) TZ/\ur l k=(l.take k).foldl E7 0
 | 0,_=>⟨rfl,rfl,rfl⟩
 | k+1,h=>by
  obtain⟨h1,h2,h3⟩:=Qjq l k ω;rw[getD_take _ default _ ω,jo,jo,jo,<- h1,<- h3];exact⟨rfl,rfl,rfl⟩
def Qjr(x):∀(l:List Ev) (W:Int->List Pk) (a:Ev) (d:Int),LM x W a d l->∀i,i<l.length->∀k,k<8->gO x ((l.take i).foldl wU W) ((l.take i).foldl (λ_ e=>e) a) ((l.take i).foldl E7 d) (l.getD i default) k=false
 | [],_,_,_,_,i,hi,_,_=>absurd hi (WZ i)
 | e::l,W,a,d,h,0,_,k,hk=>h.1 k hk
 | e::l,W,a,d,h,i+1,hi,k,hk=>Qjr x l _ _ _ h.2 i (by simpa using hi) k hk
def Qjs{x}{l:List Ev}(h:LM x (λ_=>[]) TZ 0 l){i}(hi:i<l.length){k}(hk:k<8):uu x l i k=false:=by
 obtain⟨h1,h2,h3⟩:=Qjq l i ω;unfold uu;rw[h1,h2,h3];exact Qjr x l _ _ _ h i hi k hk
structure E8 (x:Cf) (W:Int->List Pk) (a:Ev) (d:Int) (S:ZF):Prop where
 w:∀j,W j=Zj S.M j
 d:d=S.XI
 at_:a.at_<=S.Qf
 o0:a.op<=S.ops
 lk:S.M.lk=x
structure E9 (x:Cf) (W:Int->List Pk) (a:Ev) (d:Int) (l:List Ev) (S':ZF):Prop where
 ok:LM x W a d l
 st:E8 x (l.foldl wU W) (l.foldl (λ_ e=>e) a) (l.foldl E7 d) S'
def QAC(p:Pk):OV p p=true:=(QAv p p).2 rfl
def Qjt{x:Cf}(K:WM x){p:Pk}(h:1<=p.len/\p.len<=x.ZX):kx p x.ZX=0:=by
 have:=K.l1;have:=K.l2;unfold kx;rw[Qc ω,Qc ω]
def QAD{x:Cf}(K:WM x){p:Pk}(h:1<=p.len/\p.len<=x.ZX):vB p x.t=YQ x p.len:=by
 have k1:=K.t1;have k2:=K.t2;have k3:=K.l2;have h1:=gh K h;have ht:((YQ x p.len:Nat):Int)=p.len*x.t:=by
  unfold YQ;rw[Aq,Dh ω,Dh ω]
 unfold vB;rw[Qd ω,<- ht,IntKind.wrap_u64];omega
def Qju{x}{S:ZF}(T:Jd S){W}{a:Ev}{d}(A:E8 x W a d S){op}(ho:op<=S.ops)(G8:a.op<=op):E9 x W a d (Js S op S.Qf).2 (Js S op S.Qf).1/\(∀e∈(Js S op S.Qf).2,e.op=op):=by
 refine⟨?_,QAo S op S.Qf⟩;unfold Js;split
 .exact⟨trivial,A⟩
 .rename_i hu;split
  .rename_i h;have hl:=T.take_len h;obtain⟨y,L,hq,hk⟩:=fX T.I T.V h;have hK:WM x:=A.lk▸T.K;rw[A.lk]at hl;have ht:=gh hK hl;have Z7:=T.cl;have AT:=T.un;have YZ:=Qjm T.I (j:=Kq S.M S.Qf) (by rw[hq];exact List.cons_ne_nil _ _);have hw:=A.w (Kq S.M S.Qf);rw[hq]at hw;rw[<- hk]at hw;have Kz:=A.at_;have hd:=A.d;refine⟨⟨λk Ts=>?_,trivial⟩,?_,?_,?_,?_,?_⟩
   .have hW:W (Kq S.M S.Qf)=Kh S.M S.Qf::L:=hw;match k,Ts with
    | 0,_=>exact QI (by show ¬((op:Int)<0\/(op:Int)<a.op\/Kq S.M S.Qf<1);omega)
    | 1,_=>exact QI (by show ¬((S.Qf:Int)<a.at_\/4611686018427387904<(S.Qf:Int));omega)
    | 2,_=>show (kx (Kh S.M S.Qf) x.ZX != 0)=false;rw[Qjt hK hl];rfl
    | 3,_=>rfl
    | 4,_=>show ((W (Kq S.M S.Qf)).length==0)=false;rw[hW];rfl
    | 5,_=>show (!OV ((W (Kq S.M S.Qf)).getD 0 default) (Kh S.M S.Qf))=false;rw[hW];show (!OV (Kh S.M S.Qf) (Kh S.M S.Qf))=false;rw[QAC];rfl
    | 6,_=>exact QI (by show ¬((S.Qf:Int)<d);omega)
    | 7,_=>
     show (((S.Qf+YQ S.M.lk (Kh S.M S.Qf).len:Nat):Int) != IntKind.u64.wrap ((S.Qf:Int)+vB (Kh S.M S.Qf) x.t))=false;rw[QAD hK hl,A.lk,IntKind.wrap_u64];refine QrB ?_;omega
    | n+8,h=>exact absurd h ω
   .intro j;show wU W (vA op (Yq S.M S.Qf) S.Qf (S.Qf+YQ S.M.lk (Kh S.M S.Qf).len) (Kq S.M S.Qf) (Kh S.M S.Qf)) j=Zj (takeN S.M S.Qf) j;rw[EV];unfold wU;by_cases e:j=Kq S.M S.Qf
    .rw[Qd (show j=(vA op (Yq S.M S.Qf) S.Qf (S.Qf+YQ S.M.lk (Kh S.M S.Qf).len) (Kq S.M S.Qf) (Kh S.M S.Qf)).cls from e),Qd (show Xt S.M S.Qf=true/\Kq S.M S.Qf=j from ⟨h,e.symm⟩),A.w j];rfl
    .rw[Qc (show ¬j=(vA op (Yq S.M S.Qf) S.Qf (S.Qf+YQ S.M.lk (Kh S.M S.Qf).len) (Kq S.M S.Qf) (Kh S.M S.Qf)).cls from e),Qc (show ¬(Xt S.M S.Qf=true/\Kq S.M S.Qf=j) from λh2=>e h2.2.symm)];exact A.w j
   .rfl
   .show ((S.Qf:Nat):Int)<=(S.Qf:Nat);omega
   .show ((op:Nat):Int)<=(S.ops:Nat);omega
   .exact(LD _ _).trans A.lk
  .rename_i h;refine⟨trivial,⟨λj=>?_,A.d,A.at_,A.o0,(LD _ _).trans A.lk⟩⟩;show W j=Zj (takeN S.M S.Qf) j;rw[EV,Qc λh2=>h h2.1];exact A.w j
def QAE{l:List Ev}{a:Ev}{op:Nat}(h:∀e∈l,e.op=op)(ha:a.op<=op):(l.foldl (λ_ e=>e) a).op<=op:=by
 induction l generalizing a with
 | nil=>exact ha
 | cons e l ih=>exact ih (λb hb=>h b (JR _ hb)) (Int.le_of_eq (h e J2))
def E9.app{x}{W}{a}{d}{l m:List Ev}{S1 S2}(A:E9 x W a d l S1)(B:E9 x (l.foldl wU W) (l.foldl (λ_ e=>e) a) (l.foldl E7 d) m S2):E9 x W a d (l++m) S2:=
 ⟨Qjp x l m W a d A.ok B.ok,by rw[jo,jo,jo];exact B.st⟩
def Qjv{x}{op e}(he:e<=4611686018427387904):∀(n:Nat) {S:ZF} {W:Int->List Pk} {a:Ev} {d:Int},Jd S->S.Qf<=e->E8 x W a d S->op<=S.ops->a.op<=op->E9 x W a d (Vg op e n S).2 (Vg op e n S).1
 | 0,S,W,a,d,T,h,A,_,_=>⟨trivial,⟨A.w,A.d,by have:=A.at_;show a.at_<=(e:Nat);omega,A.o0,A.lk⟩⟩
 | n+1,S,W,a,d,T,h,A,ho,G8=>by
  have Kz:=A.at_;unfold Vg;split
  .exact⟨trivial,⟨A.w,A.d,by show a.at_<=(e:Nat);omega,A.o0,A.lk⟩⟩
  .rename_i h2;have Yb:=gi S T.cl;have T1:=T.at_ Yb (show Zs S<=4611686018427387904 from ω);have A1:E8 x W a d { S with Qf:=Zs S }:=⟨A.w,A.d,by show a.at_<=(Zs S:Nat);omega,A.o0,A.lk⟩;obtain⟨P1,P2⟩:=Qju T1 A1 ho G8;have T2:=T1.GZ op;have hc:=OH { S with Qf:=Zs S } op (Zs S);have R:=Qjv he n T2 (by
    have:=hc.1;show (Js { S with Qf:=Zs S } op (Zs S)).1.Qf<=e;rw[this];show Zs S<=e;omega) P1.st (by show op<=(Js { S with Qf:=Zs S } op (Zs S)).1.ops;rw[hc.2.1];exact ho) (QAE P2 G8)
   exact P1.app R
def QAF{x}{S}(T:Jd S){W}{a}{d}(A:E8 x W a d S){o:ZV}(ho:∀c∈o.changes,JN.Ok c):E9 x W a d (JM S o).l (JM S o).S:=by
 have A0:E8 x W a d { S with ops:=S.ops+1 }:=⟨A.w,A.d,A.at_,by have:=A.o0;show a.op<=((S.ops+1:Nat):Int);omega,A.lk⟩;have G8:=A.o0;show E9 x W a d (VX { S with ops:=S.ops+1 } S.ops o).l (VX { S with ops:=S.ops+1 } S.ops o).S;unfold VX;split
 .exact⟨trivial,⟨λj=>(A.w j).trans (QAu T.I T.V _ ho j).symm,A0.d,A0.at_,A0.o0,(OE _ _ _).trans A.lk⟩⟩
 .split
  .split
   .exact⟨trivial,⟨A0.w,A0.d,A0.at_,A0.o0,A0.lk⟩⟩
   .exact⟨trivial,A0⟩
  .split
   .unfold YR;split
    .exact⟨trivial,A0⟩
    .split
     .rename_i hp;have hp:km S.M S.Qf (Kr S.R (ZR o.ZI)) o.ZI=0:=hp;have T1:=(T.ops (S.ops+1)).put (Kr S.R (ZR o.ZI)) o.ZI;have T2:=T1.Jc (Kr S.R (ZR o.ZI)) S.Qf (by have:=T.cl;omega);have hl:=QiA hp;rw[A.lk]at hl;have hK:WM x:=A.lk▸T.K;have Z7:=T.cl;have Kz:=A.at_;have hq:∀j,Zj (Jx S.M S.Qf (Kr S.R (ZR o.ZI)) o.ZI) j=if Kr S.R (ZR o.ZI)=j then Zj S.M j++[o.ZI] else Zj S.M j:=λj=>by
       rw[OF];by_cases e:Kr S.R (ZR o.ZI)=j
       .rw[Qd ⟨hp,e⟩,Qd e]
       .rw[Qc λh=>e h.2,Qc e]
      have YZ:=Qjm T1.I (j:=Kr S.R (ZR o.ZI)) (by show Zj (Jx S.M S.Qf (Kr S.R (ZR o.ZI)) o.ZI) _≠[];rw[hq,Qd rfl];simp);obtain⟨E,hE⟩:∃E,E=ku S.ops S.Qf (Kr S.R (ZR o.ZI)) o.ZI:=⟨_,rfl⟩;have A2:E8 x (wU W E) E d { { S with ops:=S.ops+1 } with M:=Jx S.M S.Qf (Kr S.R (ZR o.ZI)) o.ZI,st:=vw S.st (Kr S.R (ZR o.ZI)) S.Qf }:=by
       refine⟨λj=>?_,A.d,?_,?_,(LC _ _ _ _).trans A.lk⟩
       .show wU W E j=Zj (Jx S.M S.Qf (Kr S.R (ZR o.ZI)) o.ZI) j;rw[hq];unfold wU;subst hE;by_cases e:Kr S.R (ZR o.ZI)=j
        .rw[Qd e,Qd (show j=(ku S.ops S.Qf (Kr S.R (ZR o.ZI)) o.ZI).cls from e.symm),A.w j];rfl
        .rw[Qc e,Qc (show ¬j=(ku S.ops S.Qf (Kr S.R (ZR o.ZI)) o.ZI).cls from λh=>e h.symm)];exact A.w j
       .subst hE;show ((S.Qf:Nat):Int)<=(S.Qf:Nat);omega
       .subst hE;show ((S.ops:Nat):Int)<=((S.ops+1:Nat):Int);omega
      obtain⟨P1,_⟩:=Qju T2 A2 (op:=S.ops) (Ma _) (by subst hE;exact Dg _);have K9:∀k,k<8->gO x W a d E k=false:=λk Ts=>by
       subst hE;match k,Ts with
       | 0,_=>exact QI (by show ¬((S.ops:Int)<0\/(S.ops:Int)<a.op\/Kr S.R (ZR o.ZI)<1);omega)
       | 1,_=>exact QI (by show ¬((S.Qf:Int)<a.at_\/4611686018427387904<(S.Qf:Int));omega)
       | 2,_=>show (kx o.ZI x.ZX != 0)=false;rw[Qjt hK hl];rfl
       | 3,_=>rfl
       | 4,_=>rfl
       | 5,_=>rfl
       | 6,_=>rfl
       | 7,_=>rfl
       | n+8,h=>exact absurd h ω
      have hd:E7 d E=d:=by subst hE;rfl
      rw[<- hE];refine⟨⟨K9,?_⟩,?_⟩
      .rw[hd];exact P1.ok
      .show E8 x (List.foldl wU (wU W E) _) (List.foldl _ E _) (List.foldl E7 (E7 d E) _) _;rw[hd];exact P1.st
     .rename_i hp;refine⟨trivial,⟨λj=>?_,A0.d,A0.at_,A0.o0,(LC _ _ _ _).trans A.lk⟩⟩;show W j=Zj (Jx S.M S.Qf (Kr S.R (ZR o.ZI)) o.ZI) j;rw[OF,Qc λh=>hp h.1];exact A.w j
   .split
    .unfold qZ;split
     .exact⟨trivial,A0⟩
     .rename_i Qb;have:=T.cl;have Qb:¬(4611686018427387904 - S.Qf<o.Wi.toNat):=Qb;exact Qjv (S:={ S with ops:=S.ops+1 }) (by show S.Qf+o.Wi.toNat<=_;omega) _ (T.ops _) (by show S.Qf<=S.Qf+_;omega) A0 (Ma _) G8
    .exact⟨trivial,A0⟩
def uw{x}:∀(l:List ZV) {S:ZF} {W:Int->List Pk} {a:Ev} {d:Int},Jd S->E8 x W a d S->(∀o∈l,ZV.Ok o)->E9 x W a d (Zn S l).2.2 (Zn S l).1
 | [],S,W,a,d,T,A,hl=>⟨trivial,A⟩
 | o::l,S,W,a,d,T,A,hl=>by
  have ho:=(hl o J2).2.1.2;have P1:=QAF T A ho;exact P1.app (uw l (T.do ho) P1.st λb hb=>hl b (JR _ hb))
def X4(W:Int->List Pk)(lv:List Int):Nat:=(lv.map λn=>(W n).length).sum
def OX{W W'}{lv}(h:∀n∈lv,W' n=W n):X4 W' lv=X4 W lv:=by
 unfold X4;congr 1;exact Pg λn hn=>by rw[h n hn]
def ux{W W'}{q:Int}{a b}:∀{lv:List Int},lv.Nodup->q∈lv->(W' q).length+a=(W q).length+b->(∀n,n≠q->W' n=W n)->X4 W' lv+a=X4 W lv+b
 | [],_,h,_,_=>by cases h
 | x::lv,hn,h,h1,h2=>by
  rw[Zz]at hn;have e1:X4 W' (x::lv)=(W' x).length+X4 W' lv:=by simp[X4]
  have e2:X4 W (x::lv)=(W x).length+X4 W lv:=by simp[X4]
  rw[e1,e2];by_cases e:x=q
  .subst e;rw[OX λn hm=>h2 n λe=>hn.1 (e▸hm)];omega
  .have h3:=ux hn.2 ((QD.1 h).resolve_left λe2=>e e2.symm) h1 h2;rw[h2 x e];omega
def Qjw:∀lv:List Int,X4 (λ_=>[]) lv=0
 | []=>rfl
 | a::l=>by
  have:=Qjw l;show ([]:List Pk).length+X4 (λ_=>[]) l=0;rw[this];rfl
def Qjx{α:Type}[DecidableEq α]:∀{l m:List α},l.Nodup->l ⊆ m->l.length<=m.length
 | [],_,_,_=>Jh _
 | a::l,m,h,hs=>by
  rw[Zz]at h;have hm:a∈m:=hs J2;have Jv:l ⊆ m.erase a:=λx hx=>by
   have QA:x≠a:=λe=>h.1 (e▸hx);exact(List.mem_erase_of_ne QA).2 (hs (JR _ hx))
  have:=Qjx h.2 Jv;rw[List.length_erase_of_mem hm]at this;have hp:0<m.length:=List.length_pos_of_mem hm;rw[Kv];omega
def zH(L:List Qq)(x:Qq):List Qq:=if jS L x (up L x.parent).length=0 then VK L x else L
structure BJ (L T:List Qq):Prop where
 ok:JG L
 sub:∀c∈L,c∈T
section
variable {T:List Qq}(I:JG T)
include I
theorem BJ.find{L}(P:BJ L T){id}{c}(h:Qx L id=some c):Qx T id=some c:=by
 obtain⟨h1,h2⟩:=(J6 P.ok.rising).1 h;exact(J6 I.rising).2 ⟨P.sub c h1,h2⟩
theorem BJ.up{L}(P:BJ L T):∀(n:Nat) (id:Int),(X.up T id).length=n->(id=0\/(Qx L id).isSome=true)->X.up L id=X.up T id
 | n,id,hn,h=>by
  cases hf:Qx L id with
  | none=>
   rcases h with rfl|h
   .have f0:Qx T 0=none:=by
     rw[yL];intro c hc e;have:=I.ids c hc;omega
    rw[xE P.ok hf,xE I f0]
   .rw[hf]at h;cases h
  | some c=>
   have hT:=P.find I hf;rw[Km P.ok hf,Km I hT];rw[Km I hT]at hn;have Ls:=P.ok.par c ((J6 P.ok.rising).1 hf).1;rw[BJ.up P (X.up T c.parent).length c.parent rfl Ls]
 termination_by n=>n
 decreasing_by
  simp only[<- hn];rw[Km I hT,Kv];exact Fp _
theorem BJ.add{L}(P:BJ L T){x:Qq}(hx:x∈T):BJ (zH L x) T/\(∀c∈L,c∈zH L x)/\((x.parent=0\/(Qx L x.parent).isSome=true)->x∈zH L x):=by
 unfold zH;by_cases h0:jS L x (X.up L x.parent).length=0
 .rw[Qd h0];have ZP:Qx L x.iD=none:=by
   unfold jS at h0;by_cases hr:KN x≠0
   .rw[Qd hr]at h0;exact absurd h0 hr
   .rw[Qc hr]at h0;cases hf:Qx L x.iD with
    | none=>rfl
    | some y=>rw[hf]at h0;simp at h0
  have hm:∀c,c∈VK L x↔c=x\/c∈L:=λc=>by
   rw[(Gf x P.ok.rising).mem_iff,QD];have:∀c∈L,c.iD≠x.iD:=λc hc e=>yL.1 ZP c hc e;unfold WV;rw[Jt];constructor
   .rintro (h|h)
    .exact .inl h
    .exact .inr h.1
   .rintro (h|h)
    .exact .inl h
    .exact .inr ⟨h,by simpa using this c h⟩
  refine⟨⟨P.ok.add h0,λc hc=>?_⟩,λc hc=>(hm c).2 (.inr hc),λ_=>(hm x).2 (.inl rfl)⟩;rcases (hm c).1 hc with rfl|h
  .exact hx
  .exact P.sub c h
 .rw[Qc h0];refine⟨P,λc hc=>hc,λhp=>kC λhn=>h0 ?_⟩;have ZP:Qx L x.iD=none:=by
   cases hf:Qx L x.iD with
   | none=>rfl
   | some y=>
    have h1:=P.find I hf;rw[(J6 I.rising).2 ⟨hx,rfl⟩]at h1;cases h1;exact absurd ((J6 P.ok.rising).1 hf).1 hn
  have Cq:=P.up I _ x.parent rfl hp;have hlen:L.length<T.length:=by
   have ZU:∀{A:List Qq},JG A->(A.map (·.iD)).Nodup:=λ{A} J=>by
    have h:A.Pairwise (λa b=>a.iD<b.iD):=J.rising;rw[ik,L6];exact h.imp λVu=>ω
   have h1:((x::L).map (·.iD)).Nodup:=by
    rw[JQ,Zz];refine⟨λhm=>?_,ZU P.ok⟩;obtain⟨c,hc,e⟩:=Z2.1 hm;exact yL.1 ZP c hc e
   have h2:(x::L).map (·.iD) ⊆ T.map (·.iD):=λi hi=>by
    obtain⟨c,hc,rfl⟩:=Z2.1 hi;rcases QD.1 hc with rfl|hc
    .exact Z2.2 ⟨c,hx,rfl⟩
    .exact Z2.2 ⟨c,P.sub c hc,rfl⟩
   have h3:=Qjx h1 h2;rw[J1,Kv,J1]at h3;omega
  have QGO:=I.len;unfold jS;rw[Qc (by rw[I.right x hx];decide),ZP,Qc σ,Qc ω];rcases hp with hp|hp
  .have f0:Qx L 0=none:=by
    rw[yL];intro c hc e;have:=P.ok.ids c hc;omega
   rw[hp,f0,Qc σ,Qc (by unfold Xn;simp),xE P.ok f0];rfl
  .obtain⟨d,hd⟩:=As.1 hp;have hdT:=P.find I hd;have hpz:x.parent≠0:=λe=>by
    rw[e]at hd;have h1:=(J6 P.ok.rising).1 hd;have:=P.ok.ids d h1.1;omega
   obtain⟨d',bj,zo⟩:=I.J8 x hx hpz;rw[hdT]at bj;cases bj;have JX:1<QR x.ls->Xn L x.parent=true:=λhs=>by
    have:=I.RJ x hx hs hpz;unfold k9 at this;unfold Xn;rw[hd];rw[hdT]at this;rw[this,Bool.or_true]
   have hux:X.up T x.iD=x.iD::X.up T x.parent:=Km I ((J6 I.rising).2 ⟨hx,rfl⟩);have h16:(X.up T x.iD).length<=16:=tJ T x.iD;rw[hd,Qc (by simp[zo]),Qc (λh=>by rw[JX h.1]at h;cases h.2),Cq];rw[hux,Kv]at h16;rw[Qc ω]
end
def QjA:∀{A B:List Qq},A.Pairwise (λa b=>a.iD<b.iD)->B.Pairwise (λa b=>a.iD<b.iD)->(∀c,c∈A↔c∈B)->A=B
 | [],[],_,_,_=>rfl
 | [],b::B,_,_,h=>absurd ((h b).2 J2) σ
 | a::A,[],_,_,h=>absurd ((h a).1 J2) σ
 | a::A,b::B,hA,hB,h=>by
  rw[yj]at hA hB;have e:a=b:=by
   rcases QD.1 ((h a).1 J2) with e|h1
   .exact e
   .rcases QD.1 ((h b).2 J2) with e|h2
    .exact e.symm
    .have:=hB.1 a h1;have:=hA.1 b h2;omega
  subst e;congr 1;refine QjA hA.2 hB.2 λc=>⟨λhc=>?_,λhc=>?_⟩
  .rcases QD.1 ((h c).1 (JR _ hc)) with rfl|h1
   .have:=hA.1 c hc;omega
   .exact h1
  .rcases QD.1 ((h c).2 (JR _ hc)) with rfl|h1
   .have:=hB.1 c hc;omega
   .exact h1
section
variable {T:List Qq}(I:JG T)
include I
theorem uy:∀(l:List Qq) (L:List Qq),(∀c∈l,c∈T)->BJ L T->BJ (l.foldl zH L) T/\(∀c∈L,c∈l.foldl zH L)/\∀x∈l,(x.parent=0\/(Qx L x.parent).isSome=true)->x∈l.foldl zH L
 | [],L,_,P=>⟨P,λc hc=>hc,λx hx=>by cases hx⟩
 | a::l,L,hl,P=>by
  obtain⟨P1,s1,a1⟩:=P.add I (hl a J2);obtain⟨P2,s2,a2⟩:=uy l (zH L a) (λc hc=>hl c (JR _ hc)) P1;refine⟨P2,λc hc=>s2 c (s1 c hc),λx hx hp=>?_⟩;rcases QD.1 hx with rfl|hx
  .exact s2 x (a1 hp)
  .refine a2 x hx (hp.imp id λhs=>?_);obtain⟨d,hd⟩:=As.1 hs;obtain⟨h1,h2⟩:=(J6 P.ok.rising).1 hd;rw[(J6 P1.ok.rising).2 ⟨s1 d h1,h2⟩];rfl
def rounds(T:List Qq):Nat->List Qq
 | 0=>[]
 | r+1=>T.foldl zH (rounds T r)
theorem uz:∀r,BJ (rounds T r) T/\∀x∈T,(up T x.iD).length<=r->x∈rounds T r
 | 0=>⟨⟨JG.nil,λc hc=>by cases hc⟩,λx hx h=>by
  have:=Km I ((J6 I.rising).2 ⟨hx,rfl⟩);rw[this]at h;simp at h⟩
 | r+1=>by
  obtain⟨P,Kj⟩:=uz r;obtain⟨P2,s2,a2⟩:=uy I T (rounds T r) (λc hc=>hc) P;refine⟨P2,λx hx hlen=>a2 x hx ?_⟩;by_cases hp:x.parent=0
  .exact .inl hp
  .obtain⟨d,hd,_⟩:=I.J8 x hx hp;obtain⟨h1,h2⟩:=(J6 I.rising).1 hd;have hu:=Km I ((J6 I.rising).2 ⟨hx,rfl⟩);rw[hu,Kv]at hlen;have K9:=Kj d h1 (by rw[h2];omega);refine .inr ?_;rw[(J6 P.ok.rising).2 ⟨K9,h2⟩];rfl
theorem QAH(r)(h:16<=r):rounds T r=T:=by
 obtain⟨P,Kj⟩:=uz I r;exact QjA P.ok.rising I.rising λc=>⟨P.sub c,λhc=>Kj c hc (Ki (tJ T c.iD) h)⟩
end
end Go.Fg.X
namespace Go.Fg.X.SP
open Go.Proofs Go.Fg
open Go.Proofs.Tryz
def Ai(n:Nat)(e:Ev)(lv:List Int):Nat:=if lv.contains e.cls then (if e.J8 then n+1 else n - 1) else n
def X5(lv:List Int)(l:List Ev):Nat->Nat
 | 0=>0
 | k+1=>Ai (X5 lv l k) (l.getD k default) lv
def uA(lv)(l:List Ev):∀k,X5 lv l k<=k
 | 0=>QB _
 | k+1=>by have:=uA lv l k;simp only[X5,Ai];split<;>(try split)<;>omega
structure Sp where
 V8:Int
 to:Int
 fst:Int
 Aj:Int
 zI:Bool
instance:Inhabited Sp:=⟨⟨0,0,0,0,false⟩⟩
@[go_sem] def Sp.cells(s:Sp):List D:=[.raw (.int .u64 s.V8),.raw (.int .u64 s.to),.raw (.int .i64 s.fst),.raw (.int .i64 s.Aj),.raw (.bool s.zI)]
def Fa(lv:List Int)(i:Nat)(e:Ev)(n:Nat)(out:List Sp):List Sp:=
 if n=0/\0<Ai n e lv then out++[⟨e.at_,0,i,0,true⟩]
 else if 0<n/\Ai n e lv=0 then out.set (out.length - 1) { out.getD (out.length - 1) default with to:=e.at_,Aj:=i,zI:=false }
 else out
def Z6(lv:List Int)(l:List Ev):Nat->List Sp
 | 0=>[]
 | k+1=>Fa lv k (l.getD k default) (X5 lv l k) (Z6 lv l k)
def gP(lv)(l:List Ev):∀k,(Z6 lv l k).length<=k
 | 0=>QB _
 | k+1=>by have:=gP lv l k;simp only[Z6,Fa];split<;>(try split)<;>simp<;>omega
def uB(lv)(l:List Ev):∀k,0<X5 lv l k->0<(Z6 lv l k).length
 | 0,h=>by simp[X5]at h
 | k+1,h=>by
  have:=uB lv l k;simp only[X5]at h;simp only[Z6,Fa];split<;>(try split)<;>simp<;>omega
def indexOf(l:List Int)(v:Int):Int:=if l.contains v then (l.idxOf v:Nat) else -1
def iN(l:List Int)(id)(hl:l.length<2147483648):QW prog 130 [ints l,Qa id] (QN (Qa (indexOf l id))):=by
 refine xT 0 func130 ntmps130 results130 λbase w hb=>?_;simp only[go_sem];refine Z3 (λk s=>(l.take k).contains id=false/\s=⟨[(0,ints l),(1,Qa id),(6,ints l),(7,Qa l.length),(8,Qa k)],[]⟩) l.length (s0:=⟨[(0,ints l),(1,Qa id),(6,ints l),(7,Qa l.length),(8,Qa 0)],[]⟩) QM ⟨σ,rfl⟩ ?_;rintro k s hk ⟨ZP,rfl⟩;apply Qn hb;refine YA (λh=>?_) (λh=>?_)
 .have Qj:k<l.length:=by simpa using h
  have e1:=getD_take l 0 k Qj;simp only[go_sem,Qj];refine YA (λh2=>?_) (λh2=>?_)
  .simp only[go_sem];have h3:l=l.take k++id::l.drop (k+1):=by
    conv=>lhs;rw[<- BO (k+1) l,e1]
    simp at h2;simp[h2]
   have:indexOf l id=k:=by
    have hc:l.contains id=true:=by rw[h3];simp
    have h4:¬ id∈l.take k:=by simpa using ZP
    rw[indexOf,hc];simp only[Vs];rw[h3,LZ,Qc h4];simp;omega
   rw[this]
  .simp only[go_sem];refine⟨ω,_,Qz.frame (by simp only[go_sem,J9 (show k<4611686018427387904 from ω)]),?_,rfl⟩;rw[e1];simp at ZP h2 ⊢;exact⟨ZP,h2⟩
 .have Qj:k=l.length:=by simp at h;omega
  simp only[go_sem];apply Qn hb;subst Qj;simp at ZP;simp[indexOf,ZP]
def gQ(l:List Int)(id)(hl:l.length<2147483648):QW prog 68 [ints l,Qa id] (QN (QT (l.contains id))):=by
 refine xT 0 func68 ntmps68 results68 λbase w hb=>?_;simp only[go_sem];apply ZK hb Qdg (iN l id hl);apply Qn hb;unfold indexOf;cases l.contains id<;>simp
def QAI(n:Nat)(e:Ev)(lv:List Int)(hl:lv.length<2147483648)(hn:n<2147483648):QW prog 71 [Qa n,.agg e.cells,ints lv] (QN (Qa (Ai n e lv))):=by
 refine xT 0 func71 ntmps71 results71 λbase w hb=>?_;simp only[go_sem];apply ZK hb Rx (gQ lv e.cls hl);apply Qn hb;refine YA (λh=>?_) (λh=>?_)
 .simp only[go_sem];simp only[Ai];simp at h;simp[h]
 .simp only[go_sem];refine YA (λh2=>?_) (λh2=>?_)
  .simp only[go_sem,J9 (show n<4611686018427387904 from ω)];simp only[Ai];simp at h;simp[h,h2]
  .simp only[go_sem];rw[wrap64 ω ω];have:max ((n:Int) - 1) 0=((n - 1:Nat):Int):=ω;rw[this];simp only[Ai];simp at h;simp[h,h2]
set_option maxRecDepth 4000 in
def Qnp(l:List Ev)(lv:List Int)(hl:l.length<2147483648)(hv:lv.length<2147483648):QW prog 27 [V0 l,ints lv] (Rl 5 Sp.cells (Z6 lv l l.length)):=by
 refine xT 1 func27 ntmps27 results27 λbase w hb=>?_;simp only[go_sem];refine Z3 (λk s=>∃g,s=⟨[(1,ints lv),(5,.ref 0 g 0 (Z6 lv l k).length),(6,Qa (X5 lv l k)),(11,V0 l),(12,Qa l.length),(13,Qa k)],[⟨.arr,g,5,(Z6 lv l k).length,λi=>((Z6 lv l k).getD i default).cells⟩]⟩) l.length
  (s0:=⟨[(1,ints lv),(5,.ref 0 0 0 0),(6,Qa 0),(11,V0 l),(12,Qa l.length),(13,Qa 0)],[⟨.arr,0,5,0,λi=>(([]:List Sp).getD i default).cells⟩]⟩)
  (Qz.trans (Qz.BS 5 5 (λi=>(([]:List Sp).getD i default).cells) rfl) QM) ⟨0,rfl⟩ ?_
 rintro k s hk ⟨g,rfl⟩;have hle:=uA lv l k;apply Qn hb;refine YA (λh=>?_) (λh=>?_)
 .have Qj:k<l.length:=by simpa using h
  simp only[go_sem,Qj];apply ZK hb QpS (QAI (X5 lv l k) (l.getD k default) lv hv ω);apply Qn hb;have QAJ:=uA lv l (k+1);simp only[X5]at QAJ;have hlen:=gP lv l k;have Zb:=J9 (show k<4611686018427387904 from ω);by_cases hn:X5 lv l k=0<;>by_cases hm:Ai (X5 lv l k) (l.getD k default) lv=0
  .have e5:Z6 lv l (k+1)=Z6 lv l k:=by simp only[Z6,Fa];rw[Qc ω,Qc ω]
   simp only[go_sem,bz hn,dnp hm,dnp hn];exact⟨Qj,_,Qz.to 1 (by simp only[go_sem,Zb,X5,e5]),g,rfl⟩
  .have e5:Z6 lv l (k+1)=Z6 lv l k++[⟨(l.getD k default).at_,0,k,0,true⟩]:=by simp only[Z6,Fa];rw[Qd ω]
   simp only[go_sem,bz hn,dp hm];refine⟨ω,Qj,_,Qz.to 1 ⟨?_,by simp only[go_sem],by simp only[go_sem],?_⟩,g+1,rfl⟩
   .simp only[go_sem,Zb,X5,e5,ZW]
   .simp only[go_sem,e5,ZW];intro i hi;by_cases h:i<(Z6 lv l k).length
    .simp[h,JC h]
    .have:i=(Z6 lv l k).length:=ω;subst this;simp
  .have e5:Z6 lv l (k+1)=(Z6 lv l k).set ((Z6 lv l k).length - 1) { (Z6 lv l k).getD ((Z6 lv l k).length - 1) default with to:=(l.getD k default).at_,Aj:=k,zI:=false }:=by simp only[Z6,Fa];rw[Qc ω,Qd ω]
   have YZ:=uB lv l k ω;have e6:IntKind.i64.wrap (((Z6 lv l k).length:Int) - 1)=(((Z6 lv l k).length - 1:Nat):Int):=Zu;have e7:(Z6 lv l k).length - 1<(Z6 lv l k).length:=ω;simp only[go_sem,cP hn,dp hn,bz hm,e6,e7];refine⟨Qj,_,Qz.to 1 ⟨?_,by simp only[go_sem],by simp only[go_sem],?_⟩,g,rfl⟩
   .simp only[go_sem,Zb,X5,e5,Wu]
   .simp only[go_sem,e5,Wu];intro i hi;by_cases h:i=(Z6 lv l k).length - 1
    .subst h;simp[e7]
    .simp[zL.2 h,Jw (Q3 h)]
  .have e5:Z6 lv l (k+1)=Z6 lv l k:=by simp only[Z6,Fa];rw[Qc ω,Qc ω]
   simp only[go_sem,cP hn,dp hn,cP hm];exact⟨Qj,_,Qz.to 1 (by simp only[go_sem,Zb,X5,e5]),g,rfl⟩
 .have Qj:k=l.length:=by simp at h;omega
  simp only[go_sem];apply Qn hb;subst Qj;exact⟨g,rfl,rfl⟩
end Go.Fg.X.SP
namespace Go.Fg.X
open Go.Proofs Go.Fg
open Go.Proofs.Tryz
def BK(L:List Qq)(id n:Int):Bool:=!(id==0)&&!(Jr L 16 n).contains id
section
variable (h:List Ob)(t m c:Nat){es:List Zt}{L:List Qq}(T:Va es L)(hE:∀n,Ends L 16 n)
 (ht:(h.map Ob.ro)[t]? = some ⟨.Vt,0,1,1,λ_=>[.mref m 0]⟩) (hm:(h.map Ob.ro)[m]? = some (QK .i64 c es).ro)
include T ht hm hE
theorem QAK(b1 b2)(id n)(h1:(h.map Ob.ro)[b1]? = some ⟨.Vt,0,1,1,λ_=>[Qa id]⟩)(h2:(h.map Ob.ro)[b2]? = some ⟨.Vt,0,1,1,λ_=>[.ptr t 0 0 0]⟩):
  Q6 prog 67 h [Qa n,.ptr b1 0 0 0,.ptr b2 0 0 0] (λd=>d=QT (BK L id n)):=by
 refine xD func67 ntmps67 results67 λbase w pl F hF Q7 hb=>?_;rw[<- hF]at ht hm h1 h2;have ZY:=Qb ht;have Zg:=Qb hm;have Kx:=Qb h1;have wx:=Qb h2;simp only[go_sem];by_cases h0:id=0
 .have e:BK L id n=false:=by simp[BK,h0]
  rw[e];apply QF hb [0,1,2,3,4,6,1005,1007,8,9,10];simp only[go_sem,h1,qN h0,bne,Go.undef];exact⟨[],(JI F).symm⟩
 .have e:BK L id n=!(Jr L 16 n).contains id:=by simp[BK,h0]
  rw[e];apply QF hb [0,1,2,3,4,6,1005,1007,8,9,10];simp only[go_sem,h1,h2,Xl h0,bne];refine Nf hb Ry rfl ?_ (nK F t m c T (ZC ht) (DZ hm) n 16 ω (hE n)) rfl λd g hs=>?_
  .simp only[go_sem]
  have xo:=yN (L:=L) (n:=16) (id:=n);rcases hs with ⟨rfl,h3⟩|⟨lo,gn,off,row,rfl,Zq,ho,hr⟩
  .apply ZH hb;rw[h3];simp only[go_sem];have hc:QW prog 68 [.nil,Qa id] (QN (QT (([]:List Int).contains id))):=QH.QbQ (SP.gQ [] id π) ⟨rfl,rfl,trivial⟩;apply Jb hb Rx hc;apply Cs hb;exact⟨_,rfl⟩
  .apply ZA hb;have Ql:=Qb ho;refine Qad hb Rx ?_ (SP.gQ (Jr L 16 n) id ω) ?_
   .simp only[go_sem,ho];exact⟨λi hi=>by rw[hr i hi];rfl,hr⟩
   apply Cs hb;exact⟨_,rfl⟩
end
def QAL(h)(so):Q6 prog 65 h [.nil,so] (λd=>d=.nil):=by
 refine xD func65 ntmps65 results65 λbase w pl F hF Q7 hb=>?_;simp only[go_sem];refine Kw hb H9 rfl ?_ (nV F so) rfl λd2 hR=>?_
 .simp only[go_sem];exact Cn so
 subst hR;apply Qn hb;exact⟨[],(JI F).symm⟩
def wV(L:List Qq):List Int:=(L.filter (·.leaf)).map (·.iD)
def qA(L:List Qq)(id:Int):List Int:=Wl (BK L id) (wV L)
def QAM(g)(l:List Int):(Wl g l).length<=l.length:=Xx _ _
section
variable (h:List Ob)(t m c:Nat){es:List Zt}{L:List Qq}(T:Va es L)(hlen:L.length<1000000)(hE:∀n,Ends L 16 n)
 (ht:(h.map Ob.ro)[t]? = some ⟨.Vt,0,1,1,λ_=>[.mref m 0]⟩) (hm:(h.map Ob.ro)[m]? = some (QK .i64 c es).ro)
include T ht hm hE hlen
theorem QAN(id):Wy prog 23 h [.ptr t 0 0 0,Qa id] (λd g=>J7 h.length (h++g) d (qA L id)):=by
 have Xy:(wV L).length<1000000:=by
  have:=Xx (λc:Qq=>c.leaf) L;simp only[wV,J1];omega
 refine xz Q4 200 func23 rfl ntmps23 results23 rfl λbase w pl F hF Q7 hb=>?_;rw[<- hF]at ht hm;have ZY:=Qb ht;have Zg:=Qb hm;simp only[go_sem,Qe];obtain⟨B,hB⟩:∃B:List Ob,B=[⟨.one,0,1,1,λ_=>[.ptr t 0 0 0]⟩,⟨.one,0,1,1,λ_=>[Qa id]⟩]:=⟨_,rfl⟩;have hx:Vj F (F++B):=⟨_,rfl⟩;have Tj:B.length=2:=by rw[hB];rfl
 have Zp:B[0]? = some ⟨.one,0,1,1,λ_=>[.ptr t 0 0 0]⟩:=by rw[hB];rfl
 have J5:B[1]? = some ⟨.one,0,1,1,λ_=>[Qa id]⟩:=by rw[hB];rfl
 have Lo:=hB;simp only[go_sem]at Lo;rw[<- Lo];refine Cc hb Qda rfl ?_ (QeP _ t m c T hlen (ZC (hx.get ht)) (DZ (hx.get hm))) rfl λd g hs=>?_
 .simp only[go_sem]
 rw[show (L.filter (·.leaf)).map (·.iD)=wV L from rfl]at hs;rcases hs with ⟨rfl,h3⟩|⟨lo,gn,off,row,rfl,Zq,ho,hr⟩
 .apply JH hb;refine Kw hb cv rfl ?_ (QAL _ (.clo 67 0 [.ptr (F.length+1) 0 0 0,.ptr F.length 0 0 0])) rfl λd2 hR=>?_
  .simp only[go_sem]
  subst hR;apply Qn hb;refine⟨_,rfl,.inl ⟨rfl,?_⟩⟩;rw[qA,h3];rfl
 .apply JH hb;have wC:F.length+2<=lo:=by
   have h4:(F++B).length<=lo:=Zq.1;rw[ZW,Tj]at h4;exact h4
  obtain⟨H,hH⟩:∃H,H=F++(B++g):=⟨_,rfl⟩;have fG:∀x:Nat,x<F.length->H[x]? = F[x]? := λx hx=>by rw[hH];exact QG hx
  have K6:H[lo]? = some ⟨.arr,gn,1,off+(wV L).length,row⟩:=by rw[hH,<- V9];exact ho
  have hHb:F.length+2<=H.length:=by rw[hH];simp[Tj]
  have sL:H[F.length]? = some ⟨.one,0,1,1,λ_=>[.ptr t 0 0 0]⟩:=by rw[hH,KV rfl,QG ω];exact Zp
  have QAO:H[F.length+1]? = some ⟨.one,0,1,1,λ_=>[Qa id]⟩:=by rw[hH,VD rfl,QG ω];exact J5
  rw[<- hH];have tell:∀H2:List Ob,(∀x:Nat,H[x]? = H2[x]?\/(H2[x]? = (H[x]?).map Ob.ro))->H2.length=H.length->SM H2 lo 67 0 [.ptr (F.length+1) 0 0 0,.ptr F.length 0 0 0] (BK L id):=by
   intro H2 h2 Jp h' n hle sM;have key:∀(x:Nat) (o:Ob),x<F.length+2->H[x]? = some o->(h'.map Ob.ro)[x]? = some o.ro:=λx o hx e=>by
    have e1:=sM x ω ω;rcases h2 x with e2|e2
    .exact ZC (by rw[e1,<- e2,e])
    .have:=ZC (by rw[e1,e2,e];rfl:h'[x]? = some o.ro);rw[ro_ro]at this;exact this
   exact QAK h' t m c T hE (key t ⟨.Vt,0,1,1,λ_=>[.mref m 0]⟩ ω (by rw[fG t ZY];exact ht)) (by have:=key m _ ω (by rw[fG m Zg];exact hm);rw[ro_ro]at this;exact this) (F.length+1) F.length id n (key _ ⟨.one,0,1,1,λ_=>[Qa id]⟩ ω QAO) (key _ ⟨.one,0,1,1,λ_=>[.ptr t 0 0 0]⟩ ω sL)
  refine Zw hb cv (QvJ H (wV L) lo gn off row Xy K6 hr (.clo 67 0 [.ptr (F.length+1) 0 0 0,.ptr F.length 0 0 0]) 67 0 [.ptr (F.length+1) 0 0 0,.ptr F.length 0 0 0] QpR rfl (BK L id) (tell H (λx=>.inl rfl) rfl) (tell (H.map Ob.ro) (λx=>.inr (by rw[Ks])) σ)) λd h2 hR=>?_;obtain⟨rfl,JU,rfl,EH⟩:=hR;apply Qn hb;refine J7.done Q7 ⟨(B++g).set (lo - F.length) ⟨.arr,gn,1,off+(Wl (BK L id) (wV L)).length,JU⟩,?_⟩ (.inr ⟨lo,gn,off,JU,rfl,ω,?_,EH⟩)
  .rw[hH,Hg _ _ (by omega:F.length<=lo)]
  .exact QE (Qb K6)
end
end Go.Fg.X
namespace Go.Fg.X.SP
open Go.Proofs Go.Fg
open Go.Proofs.Tryz
@[go_sem] def QGP(n:Int):List D:=[.raw (.int .u64 n)]
@[go_sem] def QGQ(n:Int):List D:=[.raw (.int .i64 n)]
def lens(lv:List Int)(l:List Ev)(k:Nat):List Int:=(List.range (k+1)).map λj=>(X5 lv l j:Int)
theorem c2:((2:Nat):Int)=2:=rfl
end Go.Fg.X.SP
namespace Go.Fg.X
open Go.Proofs Go.Fg
open Go.Proofs.Tryz
def QjB{x:YD}{m}(h:yg x m=true)(hx:∀a∈x.ops,ZV.Ok a):x.ops.length<=m/\∀o∈x.ops,ZV.Ok o/\ZV.Small o:=by
 simp only[yg,Zy,XL]at h;obtain⟨hlen,Kj⟩:=h;refine⟨hlen,λo ho=>?_⟩;have:=XK.1 Kj o ho;simp only[LL,Zy,XL]at this;exact⟨hx o ho,ω,ω⟩
def QjC{T:List Qq}(h:T.length<=64)(id:Int):(qA T id).length<=64:=by
 have h1:=QAM (BK T id) (wV T);have h2:=Xx (λc:Qq=>c.leaf) T;unfold wV at h1;rw[J1]at h1;unfold qA wV;omega
def QjD{h}{t}{T}(R:VN h t T)(I:JG T)(id):Q6 prog 23 h [.ptr t 0 0 0,Qa id] (λd=>d=ints (qA T id)):=by
 obtain⟨m,c,es,ht,hm,hT⟩:=R;have:=I.len;exact J7.closed (QAN h t m c hT ω I.ends ht hm id)
structure BL (q:Nat) (own:Nat->Tag) (tw:Nat->TT) (H:List Ob) (p:Nat) (S:ZF) (L:List Qq):Prop where
 T:Wr own tw H p S
 R:VM (λl=>l=q\/l=q+1) H (q+1) L
 my:∀l,(l=q\/l=q+1)->own l=.no/\tw l=.my
def BL.lt{q}{own}{tw}{H:List Ob}{p}{S}{L}(Y:BL q own tw H p S L):q+1<H.length:=by
 obtain⟨m,c,es,h1,_⟩:=Y.R;exact Qb h1
def BL.app{q}{own}{tw}{H}{p}{S}{L}(Y:BL q own tw H p S L)(G):BL q (QV own H .no) (Z4 tw H .my) (H++G) p S L:=by
 obtain⟨_,_,_,_,Tx⟩:=Y.T;have hl:=Y.lt;refine⟨⟨_,_,_,_,Tx.BG G⟩,Y.R.step λl hl h=>⟨h,QG hl⟩,λl hs=>?_⟩;have h1:l<H.length:=ω;rw[Kg h1,Vh h1];exact Y.my l hs
def BL.eW{q}{own}{tw}{H H'}{p}{S}{L L'}(Y:BL q own tw H p S L)(R:VM (λl=>l=q\/l=q+1) H' (q+1) L')(s:Step (λl=>l=q\/l=q+1) H H'):BL q (QV own H .no) (Z4 tw H .my) H' p S L':=by
 have hl:=Y.lt;refine⟨Y.T.Qi9 λl hl hn=>s.keep l hl λhs=>hn ⟨(Y.my l hs).1,.inr (Y.my l hs).2⟩,R,λl hs=>?_⟩;have h1:l<H.length:=ω;rw[Kg h1,Vh h1];exact Y.my l hs
def Fb(l:Ln):Int:=l.y - (l.m:Int)*l.x
structure Dd (m X:Nat) (l:Ln):Prop where
 m:l.m=m
 x:l.x<=X
 y:l.y<=1329227995784915872903807060280344576
def Dd.le{m X Y}{l}(h:Dd m X l)(e:X<=Y):Dd m Y l:=⟨h.m,Ki h.x e,h.y⟩
def QjE{m d}(hm:m<=4294967295)(hd:d<=9223372036854775807):m*d<=39614081247908796759917199360:=Ki (qC hm hd) π
def uC{m X x}{l}(h:Dd m X l)(hm:m<=4294967295)(h1:X<=x)(h2:x<=9223372036854775807):(YI l x:Int)=Fb l+(m:Int)*x:=by
 have hx:=h.x;have hy:=h.y;have e:YI l x=l.y+m*(x - l.x):=by
  unfold YI;split
  .rw[show x - l.x=0 by omega];rfl
  .have:=QjE hm (show x - l.x<=9223372036854775807 from ω);rw[h.m,jq ω]
 have e2:((m*(x - l.x):Nat):Int)=(m:Int)*x - (m:Int)*l.x:=by
  rw[Aq,Int.natCast_sub ω,Int.mul_sub]
 unfold Fb;rw[e,h.m];omega
def QjF{m X}{a b}(ha:Dd m X a)(hb:Dd m X b)(hm:m<=4294967295)(hX:X<=9223372036854775807):Dd m X (wE a b)/\Fb (wE a b)<=Fb a/\Fb (wE a b)<=Fb b:=by
 have h1:=ha.x;have h2:=hb.x;have k1:=uC ⟨ha.m,show a.x<=max a.x b.x by omega,ha.y⟩ hm (QB _) ω;have k2:=uC ⟨hb.m,show b.x<=max a.x b.x by omega,hb.y⟩ hm (QB _) ω;unfold wE;split
 .exact⟨hb,ω,Dg _⟩
 .exact⟨ha,Dg _,ω⟩
def QAP{n m}(hm:0<m):n<=m*cdiv n m:=by
 unfold cdiv;have:=Pr (n+m - 1) m;have:=X6 (n+m - 1) hm;omega
def QjG{m X now w}{l}(h:Dd m X l)(hm:m<=4294967295)(h1:X<=now)(h2:now<=9223372036854775807)(hr:vk l w<=now):(w:Int)<=Fb l+(m:Int)*now:=by
 have hx:=h.x;rw[<- uC h hm h1 h2];have e:YI l now=l.y+m*(now - l.x):=by
  unfold YI;have hy:=h.y;split
  .rw[show now - l.x=0 by omega];rfl
  .have:=QjE hm (show now - l.x<=9223372036854775807 from ω);rw[h.m,jq ω]
 rw[e];unfold vk at hr;split at hr
 .have:w<=l.y+m*(now - l.x):=ω
  exact_mod_cast this
 .split at hr
  .unfold never at hr;omega
  .rename_i h3;rw[h.m]at hr h3;have hc:=QAP (n:=w - l.y) (m:=m) ω;have jx:m*cdiv (w - l.y) m<=m*(now - l.x):=Md m ω;have:w<=l.y+m*(now - l.x):=ω
   exact_mod_cast this
structure Fc (c:Nc) (X:Nat) (r:Rn):Prop where
 b:r.b=decide (c.of=3)
 t:Dd c.b X r.t
 f:c.of=3->Dd c.a X r.f
structure OY (c:Nc) (A base:Nat) (r:Rn):Prop where
 t:Fb r.t<=(base:Int)*65536+(if c.of=3 then ((c.a:Int) - c.b)*c.d else 0) - (c.b:Int)*A
 f:c.of=3->Fb r.f<=(base:Int)*65536 - (c.a:Int)*A
structure LN (c:Nc):Prop where
 k:c.of=2\/c.of=3
 a:c.a<=4294967295
 b:c.b<=4294967295
 d:c.d<=1048576
 ba:c.of=3->c.b<c.a
 two:c.of=2->c.d=0
def Fc.le{c}{X Y}{r}(h:Fc c X r)(e:X<=Y):Fc c Y r:=⟨h.b,h.t.le e,λk=>(h.f k).le e⟩
def QAQ{c}(C:LN c){now QO}(ht:QO<18446744073709551616):Fc c now (Ve c now (QO*65536))/\OY c now QO (Ve c now (QO*65536)):=by
 have hk:=C.k;have e:Ve c now (QO*65536)=vm c now (QO*65536):=Qc ω;rw[e];rcases hk with hk|hk
 .rw[ez (.inl hk)];have h3:¬c.of=3:=ω;refine⟨⟨(QI h3).symm,⟨rfl,QB _,by show QO*65536<=_;omega⟩,λk=>absurd k h3⟩,⟨?_,λk=>absurd k h3⟩⟩;rw[Qc h3];show ((QO*65536:Nat):Int) - (c.b:Int)*now<=_;omega
 .rw[Qfv hk];have hba:=C.ba hk;have hmul:(c.a - c.b)*c.d<=4503599626321920:=by
   have h1:=C.a;have h2:=C.d;exact Ki (qC (show c.a - c.b<=4294967295 from ω) h2) π
  have em:(QO*65536+(c.a - c.b)*c.d) % 2 ^ 128=QO*65536+(c.a - c.b)*c.d:=jq ω;have ec:(((c.a - c.b)*c.d:Nat):Int)=((c.a:Int) - c.b)*c.d:=by rw[Aq,Int.natCast_sub ω]
  rw[em];refine⟨⟨(QU hk).symm,⟨rfl,QB _,by show QO*65536+(c.a - c.b)*c.d<=_;omega⟩,λ_=>⟨rfl,QB _,by show QO*65536<=_;omega⟩⟩,⟨?_,λ_=>?_⟩⟩
  .rw[Qd hk,<- ec];show ((QO*65536+(c.a - c.b)*c.d:Nat):Int) - (c.b:Int)*now<=_;omega
  .show ((QO*65536:Nat):Int) - (c.a:Int)*now<=_;omega
def QAS{c}(C:LN c){X}(hX:X<=4611686018427387904){r s}(hr:Fc c X r)(hs:Fc c X s):
  Fc c X (Xq r s)/\(∀A base,OY c A base r\/OY c A base s->OY c A base (Xq r s)):=by
 obtain⟨t1,t2,t3⟩:=QjF hr.t hs.t C.b ω;by_cases hk:c.of=3
 .have hb:r.b=true:=hr.b.trans (QU hk);obtain⟨f1,f2,f3⟩:=QjF (hr.f hk) (hs.f hk) C.a ω;have ef:(Xq r s).f=wE r.f s.f:=by unfold Xq;rw[hb];rfl
  refine⟨⟨hr.b,t1,λ_=>by rw[ef];exact f1⟩,λA base h=>?_⟩;rcases h with h|h
  .exact⟨LX t2 h.t,λk=>by rw[ef];exact LX f2 (h.f k)⟩
  .exact⟨LX t3 h.t,λk=>by rw[ef];exact LX f3 (h.f k)⟩
 .refine⟨⟨hr.b,t1,λk=>absurd k hk⟩,λA base h=>?_⟩;rcases h with h|h
  .exact⟨LX t2 h.t,λk=>absurd k hk⟩
  .exact⟨LX t3 h.t,λk=>absurd k hk⟩
def QAT{c}(C:LN c){X now A base QO}{r}(hb:Fc c X r)(hl:OY c A base r)(h1:X<=now)(h2:now<=4611686018427387904)(hA:A<=now)(hr:XY r (QO*65536)<=now):
  QO*65536<=base*65536+Wj c.a c.d c.b (now - A):=by
 have hk:=C.k;have QAU:Vp c.a c.d c.b=c.of:=rfl;have es:Wj c.a c.d c.b (now - A)=c.a*min (now - A) c.d+c.b*(now - A - min (now - A) c.d):=by
  unfold Wj;rw[QAU,Qc ω]
 have Sy:vk r.t (QO*65536)<=now:=by
  unfold XY at hr;split at hr<;>omega
 have kt:=QjG hb.t C.b h1 ω Sy;have lt:=hl.t;obtain⟨t,ht⟩:∃t,t=now - A:=⟨_,rfl⟩;have hn:(now:Int)=A+t:=ω;rw[es,<- ht];have eb:(c.b:Int)*now=(c.b:Int)*A+(c.b:Int)*t:=by rw[hn,Int.mul_add]
 rcases hk with hk|hk
 .have h3:¬c.of=3:=ω;have hd:=C.two hk;rw[Qc h3]at lt;rw[hd,Nat.min_zero,Nat.mul_zero,Dl,JD];have:((c.b*t:Nat):Int)=(c.b:Int)*t:=Aq _ _;omega
 .have hba:=C.ba hk;rw[Qd hk]at lt;by_cases hd:t<=c.d
  .have hrf:vk r.f (QO*65536)<=now:=by
    unfold XY at hr;rw[Qd (hb.b.trans (QU hk))]at hr;omega
   have kf:=QjG (hb.f hk) C.a h1 ω hrf;have lf:=hl.f hk;have ea:(c.a:Int)*now=(c.a:Int)*A+(c.a:Int)*t:=by rw[hn,Int.mul_add]
   rw[Fq hd,xg,Nat.mul_zero,BP];have:((c.a*t:Nat):Int)=(c.a:Int)*t:=Aq _ _;omega
  .rw[Uv ω];have e1:((c.a*c.d:Nat):Int)=(c.a:Int)*c.d:=Aq _ _;have e2:((c.b*(t - c.d):Nat):Int)=(c.b:Int)*t - (c.b:Int)*c.d:=by rw[Aq,Int.natCast_sub ω,Int.mul_sub]
   have e3:((c.a:Int) - c.b)*c.d=(c.a:Int)*c.d - (c.b:Int)*c.d:=Int.sub_mul _ _ _;rw[e3]at lt;omega
def Xu(n:Nd):Qq × Nat × Cp:=(n.c,n.QO,n.cp)
def T6(now:Nat)(n:Nd):Qq × Nat × Cp:=(n.c,n.QO,xN n.cp (Je n.c.ul) now n.QO)
def uD(len:Nat)(n:Nd):Qq × Nat × Cp:=(n.c,VO (n.QO+len),z8 n.cp (VO (n.QO+len)))
def QjH(now)(M:Qk)(j id:Int)(h:id≠j):Qh (Wn now M j).N id=Qh M.N id:=fM (f:=xU M now) (λ_=>rfl) id h
def QjI(now):∀(l:List Int) (M:Qk) (j:Int),l.Nodup->(Qh (l.foldl (Wn now) M).N j).map Xu=(Qh M.N j).map (if j∈l then T6 now else Xu)
 | [],_,_,_=>σ
 | a::l,M,j,hn=>by
  rw[Zz]at hn;rw[kD];by_cases e:j=a
  .subst e;rw[Lu (QjH now) l _ j hn.1,Qd J2,show Qh (Wn now M j).N j=(Qh M.N j).map (xU M now) from (qU (f:=xU M now) (λ_=>rfl) j).trans (Qd rfl),Hi];rfl
  .rw[QjI now l _ j hn.2,QjH now M a j e];simp only[QD,e,false_or]
def QAW{M M':Qk}{id:Int}(h:(Qh M'.N id).map Xu=(Qh M.N id).map Xu):(Qw M' id).c=(Qw M id).c:=by
 have:=QyR h;exact congrArg Prod.fst this
def QAX{T}(I:JG T)(A)(id:Int):(Vo T A id).Nodup:=Uk (Po _) (Ec I id)
def QAY(M:Qk)(id)(x:Pk)(j:Int):(Qh (Vf M id x).N j).map Xu=(Qh M.N j).map Xu:=
 Lw (f:=λm=>{ m with q:=Xa (Qw M id).c.ZD (Qw M id).c.bytes (Qw M id).q x }) (λ_=>rfl) (λ_=>rfl) j
def QAZ{M:Qk}(I:JG M.T)(now)(id head)(j):
  (Qh (Yp M now id head).N j).map Xu=(Qh M.N j).map (if 1<QR (Qw M id).c.ls/\j∈Vo M.T M.A id then T6 now else Xu):=by
 have h1:(VE M now id head).N=M.N\/∃d,(VE M now id head).N=VV M.N id λn=>{ n with du:=d }:=by
  unfold VE;split
  .exact .inr ⟨_,rfl⟩
  .exact .inl rfl
 have h2:∀{β:Type} (f:Nd->β) (_:∀(n:Nd) d,f { n with du:=d }=f n),(Qh (VE M now id head).N j).map f=(Qh M.N j).map f:=λf hf=>by
  rcases h1 with h|⟨d,h⟩
  .rw[h]
  .rw[h];exact Lw (f:=λn:Nd=>{ n with du:=d }) (λ_=>rfl) (λn=>hf n d) j
 unfold Yp;split
 .rename_i hs;rw[(CM _ _).1,QjI now _ _ j (QAX I _ _)];show (Qh (VE M now id head).N j).map _=_;by_cases hj:j∈Vo M.T M.A id
  .rw[Qd hj,Qd ⟨hs,hj⟩];exact h2 _ λ_ _=>rfl
  .rw[Qc hj,Qc λh=>hj h.2];exact h2 _ λ_ _=>rfl
 .rename_i hs;rw[Qc λh=>hs h.1];exact h2 _ λ_ _=>rfl
def QA0{M:Qk}(I:JG M.T)(now)(cls)(x)(j):
  (Qh (Vy M now cls x).N j).map Xu=(Qh M.N j).map (if Vx M cls x=0/\(Qw M cls).q.l=[]/\1<QR (Qw M cls).c.ls/\j∈Vo M.T M.A cls then T6 now else Xu):=by
 have hp:=λj=>QAY M cls x j;unfold Vy;split
 .rename_i h;rw[Qc λh2=>by rw[h2.1]at h;cases h];exact hp j
 .split
  .rename_i h0;split
   .rename_i hq;rw[QAZ (M:=jg (Vf M cls x) (M.acc+x.len.toNat)) I];have hc:(Qw (jg (Vf M cls x) (M.acc+x.len.toNat)) cls).c=(Qw M cls).c:=QAW (hp cls);rw[hc];show (Qh (Vf M cls x).N j).map (if 1<QR (Qw M cls).c.ls/\j∈Vo M.T M.A cls then T6 now else Xu)=_;by_cases hh:1<QR (Qw M cls).c.ls/\j∈Vo M.T M.A cls
    .rw[Qd hh,Qd ⟨h0,hq,hh⟩];exact Lw (f:=λm=>{ m with q:=Xa (Qw M cls).c.ZD (Qw M cls).c.bytes (Qw M cls).q x }) (λ_=>rfl) (λ_=>rfl) j
    .rw[Qc hh,Qc λh=>hh h.2.2];exact hp j
   .rename_i hq;rw[Qc λh=>hq h.2.1];exact hp j
  .rename_i h0;rw[Qc λh=>h0 h.1]
def QA1(M:Qk)(id j:Int):(Qh (WY M id).N j).map Xu=(Qh M.N j).map Xu:=by
 unfold WY;split
 .rw[wT (key:=Xu) (EU (λ_=>rfl))]
 .rfl
def QA2(M:Qk)(id Jz)(r:Bool)(j:Int):(Qh (VQ M id Jz r).N j).map Xu=(Qh M.N j).map Xu:=by
 rw[tB];split
 .cases Qh M.N j<;>rfl
 .rfl
def QA3{M:Qk}(I:JG M.T)(id)(r)(j):
  (Qh (Xb M id r).N j).map Xu=(Qh M.N j).map (if j∈up M.T id then uD ((Qw M id).q.l.headD default).len.toNat else Xu):=by
 unfold Xb;dsimp only;rw[(CM _ _).1];generalize ((Qw M id).q.l.headD default).len=len;have h3:(Qh (VQ ((up M.T id).foldl (Vw len.toNat) (WL M id)) id len r).N j).map Xu=(Qh M.N j).map (if j∈up M.T id then uD len.toNat else Xu):=by
  rw[QA2];have hp:∀{β:Type} (f:Nd->β) (_:∀(n:Nd) q,f { n with q:=q }=f n),(Qh (WL M id).N j).map f=(Qh M.N j).map f:=λf hf=>
   Lw (f:=λn:Nd=>{ n with q:=WI (Qw M id).q }) (λ_=>rfl) (λn=>hf n _) j
  by_cases hj:j∈up M.T id
  .rw[Qis len.toNat _ _ j (Ec I id) hj,Qd hj,Hi];exact hp (Xu ∘ xX len.toNat) λ_ _=>rfl
  .rw[Lu (fQ len.toNat) _ _ j hj,Qc hj];exact hp _ λ_ _=>rfl
 split
 .rw[QA1];exact h3
 .exact h3
def QA4(M)(id)(n:Nd):n.cp.fit<=Wm M id n:=by
 unfold Wm;split<;>omega
def QjJ{M:Qk}(I:Qy M)(V:Inv M){now}:∀(k:Nat) (p id:Int),wO M now k p=some id->∀j∈up M.T id,j ∉ up M.T p->(Qw M j).cp.fit<=now
 | 0,p,id,h,_,_,_=>by cases h
 | k+1,p,id,h,j,hj,hp=>by
  unfold wO at h;cases hf:firstM M now p with
  | none=>rw[hf]at h;cases h
  | some x=>
   rw[hf]at h;dsimp only at h;have hx:x∈M.KT p:=kF hf;have hv:x.va<=now:=by
    have:=vJ hf;simp only[XL]at this;omega
   obtain⟨n,h2,h3,h4,h5⟩:=(V.kt p x).1 hx;have ZU:Qw M x.ki=n:=by unfold Qw;rw[h2];rfl
   have h6:x.va=Wm M x.ki n:=congrArg It.va h5;have hu:up M.T x.ki=x.ki::up M.T p:=by rw[Km I.tree (I.some h2),h3]
   have h7:(Qw M x.ki).cp.fit<=now:=by
    rw[ZU];have:=QA4 M x.ki n;omega
   by_cases Sw:j∈up M.T x.ki
   .rw[hu]at Sw;rcases QD.1 Sw with rfl|h8
    .exact h7
    .exact absurd h8 hp
   .split at h
    .cases h;exact absurd hj Sw
    .exact QjJ I V k x.ki id h j hj Sw
def QA5{T}(I:JG T){A}{id u}(h:u∈up T id)(ha:Ja T A u=false):u∈Vo T A id:=by
 obtain⟨l,hl⟩:=Ih I h;cases hc:Qx T u with
 | none=>
  exfalso;have h0:=xE I hc;rw[h0,JI]at hl;have:∀(k:Nat) (i:Int),(up T i).length=k->u∈up T i->(Qx T u).isSome=true:=λk=>by
   induction k with
   | zero=>intro i hi hu;rw[Di.1 hi]at hu;cases hu
   | succ k ih=>
    intro i hi hu;cases kS:Qx T i with
    | none=>rw[xE I kS]at hi;cases hi
    | some c=>
     rw[Km I kS]at hi hu;rcases QD.1 hu with rfl|hu
     .rw[kS];rfl
     .exact ih c.parent (by simpa using hi) hu
  have:=this _ id rfl h;rw[hc]at this;cases this
 | some c=>
  have hu:=Km I hc;have Kj:∀y∈l,Ja T A y=false:=λy hy=>by
   rw[Xe];intro jA;obtain⟨a,h1,h2⟩:=XU.1 jA;have QA6:y∈up T id:=by rw[hl];exact Ph _ hy
   obtain⟨l2,Jp⟩:=Ih I QA6;have huy:u∈up T y:=by
    have ZU:=Ec I id;have hm:u∈up T id:=h;rw[Jp]at hm;rcases QX.1 hm with h3|h3
    .exfalso;have e:l++up T u=l2++up T y:=hl.symm.trans Jp;rw[Jp,JJ]at ZU;rw[hu]at e;have QA8:y ∉ l2:=λh4=>by
      cases gS:Qx T y with
      | none=>
       rw[xE I gS,JI]at Jp e;have h5:=xE I gS;obtain⟨b,c2,-⟩:∃a b:Int,a=b:=⟨0,0,rfl⟩;exact absurd h2 (by
        intro h6;have:∀(k:Nat) (i:Int),(up T i).length=k->y∈up T i->(Qx T y).isSome=true:=λk=>by
         induction k with
         | zero=>intro i hi hu;rw[Di.1 hi]at hu;cases hu
         | succ k ih=>
          intro i hi hu;cases kS:Qx T i with
          | none=>rw[xE I kS]at hi;cases hi
          | some c=>
           rw[Km I kS]at hi hu;rcases QD.1 hu with rfl|hu
           .rw[kS];rfl
           .exact ih c.parent (by simpa using hi) hu
        have:=this _ a rfl h6;rw[gS]at this;cases this)
      | some cy=>exact ZU.2.2 y h4 y (Xo I gS) rfl
     obtain⟨s,t,rfl⟩:=List.append_of_mem h3;obtain⟨s2,t2,rfl⟩:=List.append_of_mem hy;have e':(s2++y::t2)++(u::up T c.parent)=(s++u::t)++up T y:=e;have LA:=Ec I id;rw[Jp]at LA;have i1:((s++u::t)++up T y).idxOf u=s.length:=by
      rw[V9,LZ,Qc,YT,List.idxOf_cons_self,JD];intro h5;rw[V9,JJ]at LA;exact LA.2.2 u h5 u σ rfl
     have i2:((s2++y::t2)++(u::up T c.parent)).idxOf u=(s2++y::t2).length:=by
      rw[LZ,Qc,List.idxOf_cons_self,JD];intro h5;rw[<- e',JJ]at LA;exact LA.2.2 u h5 u σ rfl
     have j1:((s2++y::t2)++(u::up T c.parent)).idxOf y<(s2++y::t2).length:=by
      rw[LZ,Qd σ];exact List.idxOf_lt_length_of_mem σ
     have j2:(s++u::t).length<=((s++u::t)++up T y).idxOf y:=by
      rw[LZ,Qc QA8];omega
     rw[e']at i2 j1;simp only[ZW,Kv]at *;omega
    .exact h3
   exact Xe.1 ha (XU.2 ⟨a,h1,up_sub I h2 huy⟩)
  unfold Vo;rw[hl,iq (λy hy=>by rw[Kj y hy];rfl),hu,Pn,ha];simp
def QA9{M:Qk}(I:JG M.T)(now)(j):
  (Qh (takeN M now).N j).map Xu=(Qh M.N j).map (if Xt M now=true/\j∈up M.T (Kq M now) then uD (Kh M now).len.toNat else Xu):=by
 obtain⟨t1,t2,_⟩:=wQ M now;unfold takeN Xt Kq Kh;cases hp:X3 M now with
 | none=>rw[Qc (λh=>by cases h.1),t1]
 | some x=>
  dsimp only;have hn:∀id,Qw (ZE M now) id=Qw M id:=λid=>by unfold Qw;rw[t1]
  rw[QA3 (M:=ZE M now) (by rw[t2];exact I),t1,t2,hn];simp only[za,vO]
def QBa{M:Qk}(I:Qy M)(V:Inv M){now}(h:Xt M now=true)(hb:Yq M now=false):∀j∈up M.T (Kq M now),(Qw M j).cp.fit<=now:=by
 obtain⟨t1,t2,_⟩:=wQ M now;have hn:∀id,Qw (ZE M now) id=Qw M id:=λid=>by unfold Qw;rw[t1]
 unfold Xt at h;unfold Yq at hb;unfold Kq;cases hp:X3 M now with
 | none=>rw[hp]at h;cases h
 | some x=>
  rw[hp]at hb;dsimp only at hb ⊢;unfold X3 at hp;split at hp
  .unfold K8 at hp;split at hp
   .cases hp;cases hb
   .obtain⟨id,h1,rfl⟩:=VA.1 hp;intro j hj;have:=QjJ (vu I now) (V.told now) 17 0 id h1 j (by rw[t2];exact hj) (by rw[Gj (vu I now).tree];exact Pm);rw[hn]at this;exact this
  .cases hp
def QBb{M:Qk}(V:Inv M){now}(hb:Yq M now=true):∃n,Qh M.N (Kq M now)=some n/\1<QR n.c.rt:=by
 obtain⟨t1,_,_⟩:=wQ M now;unfold Yq at hb;unfold Kq;cases hp:X3 M now with
 | none=>rw[hp]at hb;cases hb
 | some x=>
  rw[hp]at hb;dsimp only at hb ⊢;unfold X3 at hp;split at hp
  .unfold K8 at hp;have hr:=LB (ZE M now) now;split at hp
   .rename_i y hy;cases hp;rw[hy]at hr;have hm:y∈(ZE M now).Lv:=(Jt.1 hr.1).1;obtain⟨n,h1,_,_,h4,_⟩:=((V.told now).lv y).1 hm;exact⟨n,by rw[<- t1];exact h1,h4⟩
   .obtain⟨id,h1,rfl⟩:=VA.1 hp;cases hb
  .cases hp
def QBc{M:Qk}(I:Qy M)(V:Inv M){now}(h:Xt M now=true):∃n,Qh M.N (Kq M now)=some n/\n.c.leaf=true:=by
 obtain⟨t1,_,_⟩:=wQ M now;unfold Xt at h;unfold Kq;cases hp:X3 M now with
 | none=>rw[hp]at h;cases h
 | some x=>
  unfold X3 at hp;split at hp
  .obtain⟨n,h1,h2,_⟩:=(V.told now).pick (vu I now) (LB _ _) hp;exact⟨n,by rw[<- t1];exact h1,h2⟩
  .cases hp
def QBd{M:Qk}(I:JG M.T)(now)(cls)(x)(j):
  (Qh (Jx M now cls x).N j).map Xu=(Qh M.N j).map (if km M now cls x=0/\Zj M cls=[]/\1<QR (Qw M cls).c.ls/\j∈Vo M.T M.A cls then T6 now else Xu):=by
 obtain⟨t1,t2,t3⟩:=wQ M now;have hn:∀id,Qw (ZE M now) id=Qw M id:=λid=>by unfold Qw;rw[t1]
 unfold Jx km;split
 .rw[QA0 (M:=ZE M now) (by rw[t2];exact I),t1,t2,t3,hn];rfl
 .rw[Qc (λh=>absurd h.1 π)]
structure Gh where
 n:Nat
 g:List (Nat × Nat)
 k:Nat
def Gh.next(lv:List Int)(s:Gh)(e:Ev):Gh:=
 if lv.contains e.cls=true then (if e.J8=true then ⟨s.n+1,if s.n=0 then (e.at_.toNat,0)::s.g else s.g,s.k⟩ else ⟨s.n - 1,s.g.map λx=>(x.1,x.2+e.len.toNat),s.k+1⟩) else s
def QjK(c:Nc)(lm:Nat)(lv:List Int)(s:Gh)(e:Ev):Prop:=
 lv.contains e.cls=true->e.J8=false->∀x∈(s.next lv e).g,(x.1:Int)<=e.at_/\x.2<=Wj c.a c.d c.b (e.at_.toNat - x.1) / 65536+lm
def wW(c:Nc)(lm:Nat)(lv:List Int):Gh->List Ev->Prop
 | _,[]=>True
 | s,e::l=>QjK c lm lv s e/\wW c lm lv (s.next lv e) l
def uE{c}{lm}{lv}:∀(a b:List Ev) (s:Gh),wW c lm lv s a->wW c lm lv (a.foldl (Gh.next lv) s) b->wW c lm lv s (a++b)
 | [],b,s,_,h=>h
 | e::a,b,s,h1,h2=>⟨h1.1,uE a b _ h1.2 h2⟩
def QjL(lv)(s:Gh)(e:Ev):(s.next lv e).k<=s.k+1:=by
 unfold Gh.next;split
 .split
  .exact Ma _
  .exact QB _
 .exact Ma _
def uF(lv):∀(l:List Ev) (s:Gh),(l.foldl (Gh.next lv) s).k<=s.k+l.length
 | [],s=>QB _
 | e::l,s=>by
  have h1:=uF lv l (s.next lv e);have h2:=QjL lv s e;simp only[kD,Kv];omega
structure jk (c:Nc) (g:List (Nat × Nat)) (k X QO:Nat) (cp:Cp):Prop where
 tk:QO<=16384*k
 has:g≠[]->cp.has=true
 run:cp.has=true->Fc c X cp.run/\cp.fit=XY cp.run (QO*65536)
 g:∀x∈g,x.1<=X/\x.2<=QO/\OY c x.1 (QO - x.2) cp.run
def jk.Qf{c}{g}{k X Y QO}{cp}(h:jk c g k X QO cp)(e:X<=Y):jk c g k Y QO cp:=
 ⟨h.tk,h.has,λk=>⟨(h.run k).1.le e,(h.run k).2⟩,λx hx=>⟨Ki (h.g x hx).1 e,(h.g x hx).2⟩⟩
def jk.tq{c}(C:LN c){g}{k X QO}{cp}(h:jk c g k X QO cp)(hX:X<=4611686018427387904)(hk:k<=1000000000):jk c ((X,0)::g) k X QO (xN cp c X QO):=by
 have ht:=h.tk;have hof:=C.k;obtain⟨s1,s2⟩:=QAQ C (now:=X) (show QO<18446744073709551616 from ω);have e:xN cp c X QO=⟨true,if cp.has then Xq cp.run (Ve c X (QO*65536)) else Ve c X (QO*65536),XY (if cp.has then Xq cp.run (Ve c X (QO*65536)) else Ve c X (QO*65536)) (QO*65536)⟩:=Qc ω;rw[e];cases hh:cp.has with
 | true=>
  obtain⟨r1,_⟩:=h.run hh;obtain⟨m1,m2⟩:=QAS C hX r1 s1;refine⟨ht,λ_=>rfl,λ_=>⟨m1,rfl⟩,λx hx=>?_⟩;rcases QD.1 hx with rfl|hx
  .exact⟨QB _,Jh _,m2 _ _ (.inr s2)⟩
  .obtain⟨g1,g2,g3⟩:=h.g x hx;exact⟨g1,g2,m2 _ _ (.inl g3)⟩
 | false=>
  refine⟨ht,λ_=>rfl,λ_=>⟨s1,rfl⟩,λx hx=>?_⟩;rcases QD.1 hx with rfl|hx
  .exact⟨QB _,Jh _,s2⟩
  .have:=h.has (List.ne_nil_of_mem hx);rw[hh]at this;cases this
def jk.sub{c}{y}{g}{k X QO}{cp}(h:jk c (y::g) k X QO cp):jk c g k X QO cp:=
 ⟨h.tk,λhg=>h.has (List.cons_ne_nil _ _),h.run,λx hx=>h.g x (JR _ hx)⟩
def jk.AA{c}{g}{k X QO}{cp}(h:jk c g k X QO cp)(hk:k<=1000000000){len}(hl:len<=16384):
  jk c (g.map λx=>(x.1,x.2+len)) (k+1) X (VO (QO+len)) (z8 cp (VO (QO+len))):=by
 have ht:=h.tk;have ew:VO (QO+len)=QO+len:=by unfold VO;exact jq ω
 rw[ew];have er:(z8 cp (QO+len)).run=cp.run/\(z8 cp (QO+len)).has=cp.has:=by
  unfold z8;split
  .rename_i h2;exact⟨rfl,h2.symm⟩
  .exact⟨rfl,rfl⟩
 refine⟨ω,λhg=>?_,λhh=>?_,λx hx=>?_⟩
 .rw[er.2];exact h.has λe=>hg (by rw[e];rfl)
 .rw[er.2]at hh;rw[er.1];refine⟨(h.run hh).1,?_⟩;unfold z8;rw[Qd hh]
 .obtain⟨y,hy,rfl⟩:=Z2.1 hx;obtain⟨g1,g2,g3⟩:=h.g y hy;rw[er.1];refine⟨g1,by show y.2+len<=QO+len;omega,?_⟩;rw[show QO+len - (y.2+len)=QO - y.2 by omega];exact g3
def jk.fits{c}(C:LN c){g}{k X QO}{cp:Cp}(h:jk c g k X QO cp)(hX:X<=4611686018427387904)(hf:cp.fit<=X){len lm}(hl:len<=lm):
  ∀x∈(g.map (λx=>(x.1,x.2+len)):List (Nat × Nat)),(x.1:Int)<=(X:Int)/\x.2<=Wj c.a c.d c.b (X - x.1) / 65536+lm:=λx hx=>by
 obtain⟨y,hy,rfl⟩:=Z2.1 hx;obtain⟨g1,g2,g3⟩:=h.g y hy;obtain⟨r1,r2⟩:=h.run (h.has (List.ne_nil_of_mem hy));rw[r2]at hf;have:=QAT C r1 g3 (QB _) hX g1 hf;refine⟨by show (y.1:Int)<=X;omega,?_⟩;show y.2+len<=Wj c.a c.d c.b (X - y.1) / 65536+lm;omega
structure uG (T:List Qq) (u:Int) (c:Nc) (lv:List Int):Prop where
 ul:LN c
 V7:∀j k,Qx T j=some k->k.leaf=true->(j∈lv↔u∈up T j)
 free:∀j∈lv,∀k,Qx T j=some k->¬1<QR k.rt/\1<QR k.ls
 nd:lv.Nodup
structure Al (T:List Qq) (u:Int) (c:Nc) (lm:Nat) (lv:List Int) (s:Gh) (S:ZF):Prop where
 T:S.M.T=T
 n:s.n=X4 (Zj S.M) lv
 lm:S.M.lk.ZX.toNat=lm
 AU:∃m,Qh S.M.N u=some m/\Je m.c.ul=c/\jk c s.g s.k S.Qf m.QO m.cp
def uH{W}:∀{lv:List Int},X4 W lv=0->∀j∈lv,(W j).length=0
 | [],_,j,h=>by cases h
 | a::lv,h,j,hj=>by
  have e:X4 W (a::lv)=(W a).length+X4 W lv:=by simp[X4]
  rw[e]at h;rcases QD.1 hj with rfl|hj
  .omega
  .exact uH ω j hj
section
variable {T:List Qq}{u:Int}{c:Nc}{lm:Nat}{lv:List Int}(CT:uG T u c lv)
include CT
theorem QjM{s:Gh}{S:ZF}(I:Jd S)(h:Al T u c lm lv s S)(op)(hk:s.k+(Js S op S.Qf).2.length<=1000000000):
  wW c lm lv s (Js S op S.Qf).2/\Al T u c lm lv ((Js S op S.Qf).2.foldl (Gh.next lv) s) (Js S op S.Qf).1:=by
 obtain⟨m,m1,m2,m3⟩:=h.AU;have key:=QA9 I.I.tree S.Qf u;rw[m1,KK]at key;have hT:(takeN S.M S.Qf).T=T:=(fZ _ _).trans h.T;have XF:(takeN S.M S.Qf).lk.ZX.toNat=lm:=by rw[LD];exact h.lm
 unfold Js at hk ⊢;split at hk
 .rename_i hu;rw[Qd hu];exact⟨trivial,h⟩
 .rename_i hu;rw[Qc hu];split at hk
  .rename_i ht;rw[Qd ht];obtain⟨n,n1,n2⟩:=QBc I.I I.V ht;have hc:=I.I.some n1;rw[h.T]at hc;obtain⟨y,L,hq,hy⟩:=fX I.I I.V ht;have hlen:=I.take_len ht;have Jp:=I.K.l2;have hW:∀j,j≠Kq S.M S.Qf->Zj (takeN S.M S.Qf) j=Zj S.M j:=λj hj=>by
    rw[EV,Qc λh2=>hj h2.2.symm]
   by_cases hJ:Kq S.M S.Qf∈lv
   .have G9:=(CT.V7 _ _ hc n2).1 hJ;rw[Qd ⟨ht,by rw[h.T];exact G9⟩]at key;obtain⟨m',k1,k2⟩:=VA.1 key;have kc:m'.c=m.c:=congrArg Prod.fst k2;have kt:m'.QO=VO (m.QO+(Kh S.M S.Qf).len.toNat):=congrArg (λx=>x.2.1) k2;have kp:m'.cp=z8 m.cp (VO (m.QO+(Kh S.M S.Qf).len.toNat)):=congrArg (λx=>x.2.2) k2;have hb:Yq S.M S.Qf=false:=by
     rw[Xe];intro hb;obtain⟨n',h1,h2⟩:=QBb I.V hb;rw[n1]at h1;cases h1;exact(CT.free _ hJ _ hc).1 h2
    have hf:=QBa I.I I.V ht hb u (by rw[h.T];exact G9);have ZU:Qw S.M u=m:=by unfold Qw;rw[m1];rfl
    rw[ZU]at hf;have Ds:lv.contains (Kq S.M S.Qf)=true:=by simpa using hJ
    have Qj:s.k+1<=1000000000:=hk;have zy:s.next lv (vA op (Yq S.M S.Qf) S.Qf (S.Qf+YQ S.M.lk (Kh S.M S.Qf).len) (Kq S.M S.Qf) (Kh S.M S.Qf))=⟨s.n - 1,s.g.map λx=>(x.1,x.2+(Kh S.M S.Qf).len.toNat),s.k+1⟩:=by
     unfold Gh.next;rw[Qd (show lv.contains (vA op (Yq S.M S.Qf) S.Qf (S.Qf+YQ S.M.lk (Kh S.M S.Qf).len) (Kq S.M S.Qf) (Kh S.M S.Qf)).cls=true from Ds)];rfl
    refine⟨⟨λ_ _=>?_,trivial⟩,?_⟩
    .rw[zy];exact m3.fits CT.ul I.cl hf (by have:=h.lm;omega)
    .show Al T u c lm lv (s.next lv (vA op (Yq S.M S.Qf) S.Qf (S.Qf+YQ S.M.lk (Kh S.M S.Qf).len) (Kq S.M S.Qf) (Kh S.M S.Qf))) _;rw[zy];refine⟨hT,?_,XF,m',k1,by rw[kc];exact m2,?_⟩
     .show s.n - 1=X4 (Zj (takeN S.M S.Qf)) lv;have:=ux (W:=Zj S.M) (W':=Zj (takeN S.M S.Qf)) (a:=1) (b:=0) CT.nd hJ (by rw[EV,Qd ⟨ht,rfl⟩,hq];simp) hW;have:=h.n;omega
     .rw[kt,kp];exact m3.AA ω ω
   .have G9:u ∉ up T (Kq S.M S.Qf):=λh2=>hJ ((CT.V7 _ _ hc n2).2 h2);rw[Qc (by rw[h.T];exact λh2=>G9 h2.2)]at key;obtain⟨m',k1,k2⟩:=VA.1 key;have kc:m'.c=m.c:=congrArg Prod.fst k2;have kt:m'.QO=m.QO:=congrArg (λx=>x.2.1) k2;have kp:m'.cp=m.cp:=congrArg (λx=>x.2.2) k2;have Ds:¬lv.contains (Kq S.M S.Qf)=true:=by simpa using hJ
    have zy:s.next lv (vA op (Yq S.M S.Qf) S.Qf (S.Qf+YQ S.M.lk (Kh S.M S.Qf).len) (Kq S.M S.Qf) (Kh S.M S.Qf))=s:=by
     unfold Gh.next;rw[Qc (show ¬lv.contains (vA op (Yq S.M S.Qf) S.Qf (S.Qf+YQ S.M.lk (Kh S.M S.Qf).len) (Kq S.M S.Qf) (Kh S.M S.Qf)).cls=true from Ds)]
    refine⟨⟨λh2 _=>absurd h2 Ds,trivial⟩,?_⟩;show Al T u c lm lv (s.next lv (vA op (Yq S.M S.Qf) S.Qf (S.Qf+YQ S.M.lk (Kh S.M S.Qf).len) (Kq S.M S.Qf) (Kh S.M S.Qf))) _;rw[zy];refine⟨hT,?_,XF,m',k1,by rw[kc];exact m2,by rw[kt,kp];exact m3⟩;exact h.n.trans (OX λj hj=>hW j λe=>hJ (e▸hj)).symm
  .rename_i ht;rw[Qc ht];rw[Qc λh2=>ht h2.1]at key;obtain⟨m',k1,k2⟩:=VA.1 key;have kc:m'.c=m.c:=congrArg Prod.fst k2;have kt:m'.QO=m.QO:=congrArg (λx=>x.2.1) k2;have kp:m'.cp=m.cp:=congrArg (λx=>x.2.2) k2;refine⟨trivial,⟨hT,?_,XF,m',k1,by rw[kc];exact m2,by rw[kt,kp];exact m3⟩⟩;exact h.n.trans (OX λj hj=>by
    show Zj (takeN S.M S.Qf) j=Zj S.M j;rw[EV,Qc λh2=>ht h2.1]).symm
theorem QjN{op e}(he:e<=4611686018427387904):∀(n:Nat) {s:Gh} {S:ZF},Jd S->S.Qf<=e->Al T u c lm lv s S->s.k+(Vg op e n S).2.length<=1000000000 ->
  wW c lm lv s (Vg op e n S).2/\Al T u c lm lv ((Vg op e n S).2.foldl (Gh.next lv) s) (Vg op e n S).1
 | 0,s,S,I,hc,h,hk=>by
  obtain⟨m,m1,m2,m3⟩:=h.AU;exact⟨trivial,⟨h.T,h.n,h.lm,m,m1,m2,m3.Qf hc⟩⟩
 | n+1,s,S,I,hc,h,hk=>by
  obtain⟨m,m1,m2,m3⟩:=h.AU;unfold Vg at hk ⊢;split at hk
  .rename_i h2;rw[Qd h2];exact⟨trivial,⟨h.T,h.n,h.lm,m,m1,m2,m3.Qf hc⟩⟩
  .rename_i h2;rw[Qc h2];have Yb:=gi S I.cl;have I1:=I.at_ Yb (show Zs S<=4611686018427387904 from ω);have h1:Al T u c lm lv s { S with Qf:=Zs S }:=⟨h.T,h.n,h.lm,m,m1,m2,m3.Qf Yb⟩;dsimp only at hk ⊢;rw[ZW]at hk;obtain⟨p1,p2⟩:=QjM CT I1 h1 op (by
    show s.k+(Js { S with Qf:=Zs S } op (Zs S)).2.length<=_;omega)
   have Z7:=OH { S with Qf:=Zs S } op (Zs S);have jC:=uF lv (Js { S with Qf:=Zs S } op (Zs S)).2 s;obtain⟨r1,r2⟩:=QjN he n (I1.GZ op) (by
    show (Js { S with Qf:=Zs S } op (Zs S)).1.Qf<=e;rw[Z7.1];show Zs S<=e;omega) p2 (by show (List.foldl (Gh.next lv) s (Js { S with Qf:=Zs S } op (Zs S)).2).k+(Vg op e n (Js { S with Qf:=Zs S } op (Zs S)).1).2.length<=_;omega)
   refine⟨uE _ _ _ p1 r1,?_⟩;rw[jo];exact r2
theorem QBf{s:Gh}{S}(I:Jd S)(h:Al T u c lm lv s S){o:ZV}(ho:o.kind≠1)(hk:s.k+(JM S o).l.length<=1000000000):
  wW c lm lv s (JM S o).l/\Al T u c lm lv ((JM S o).l.foldl (Gh.next lv) s) (JM S o).S:=by
 have h0:Al T u c lm lv s { S with ops:=S.ops+1 }:=⟨h.T,h.n,h.lm,h.AU⟩;have I0:=I.ops (S.ops+1);unfold JM VX at hk ⊢;rw[Qc ho]at hk ⊢;split at hk
 .rename_i h2;rw[Qd h2];split
  .exact⟨trivial,⟨h.T,h.n,h.lm,h.AU⟩⟩
  .exact⟨trivial,h0⟩
 .rename_i h2;rw[Qc h2];split at hk
  .rename_i h3;rw[Qd h3];unfold YR at hk ⊢;split at hk
   .rename_i h4;rw[Qd h4];exact⟨trivial,h0⟩
   .rename_i h4;rw[Qc h4];obtain⟨m,m1,m2,m3⟩:=h.AU;obtain⟨J,hJe⟩:∃J,J=Kr S.R (ZR o.ZI):=⟨_,rfl⟩;dsimp only at hk h4 ⊢;rw[<- hJe]at hk h4 ⊢;have key:=QBd I.I.tree S.Qf J o.ZI u;rw[m1,KK]at key;have hT:(Jx S.M S.Qf J o.ZI).T=T:=(uo _ _ _ _).trans h.T;have XF:(Jx S.M S.Qf J o.ZI).lk.ZX.toNat=lm:=by rw[LC];exact h.lm
    split at hk
    .rename_i hp;rw[Qd hp];have I1:=I0.put J o.ZI;have I2:=I1.Jc J S.Qf (by have:=I.cl;omega);have hq:∀j,Zj (Jx S.M S.Qf J o.ZI) j=if J=j then Zj S.M j++[o.ZI] else Zj S.M j:=λj=>by
      rw[OF];by_cases e:J=j
      .rw[Qd ⟨hp,e⟩,Qd e]
      .rw[Qc λh=>e h.2,Qc e]
     have QBh:∃k,Qx T J=some k/\k.leaf=true:=by
      have QA:Zj (Jx S.M S.Qf J o.ZI) J≠[]:=by rw[hq,Qd rfl];simp
      unfold Zj Qw at QA;cases hn:Qh (Jx S.M S.Qf J o.ZI).N J with
      | none=>rw[hn]at QA;exact absurd rfl QA
      | some n=>
       rw[hn]at QA;have hl:n.c.leaf=true:=by
        cases hl:n.c.leaf with
        | true=>rfl
        | false=>rw[KR,I1.V.x7 J n hn hl]at QA;exact absurd rfl QA
       exact⟨n.c,by rw[<- hT];exact I1.I.some hn,hl⟩
     obtain⟨kk,gT,Gq⟩:=QBh;rw[Kv]at hk;have jC:=QjL lv s (ku S.ops S.Qf J o.ZI);have H:Al T u c lm lv (s.next lv (ku S.ops S.Qf J o.ZI)) { S with ops:=S.ops+1,M:=Jx S.M S.Qf J o.ZI,st:=vw S.st J S.Qf }:=by
      by_cases hJ:J∈lv
      .have G9:=(CT.V7 _ _ gT Gq).1 hJ;have Ds:lv.contains J=true:=by simpa using hJ
       have zy:s.next lv (ku S.ops S.Qf J o.ZI)=⟨s.n+1,if s.n=0 then (S.Qf,0)::s.g else s.g,s.k⟩:=by
        unfold Gh.next;rw[Qd (show lv.contains (ku S.ops S.Qf J o.ZI).cls=true from Ds)];rfl
       rw[zy];refine⟨hT,?_,XF,?_⟩
       .show s.n+1=X4 (Zj (Jx S.M S.Qf J o.ZI)) lv;have:=ux (W:=Zj S.M) (W':=Zj (Jx S.M S.Qf J o.ZI)) (a:=0) (b:=1) CT.nd hJ (by rw[hq,Qd rfl,ZW];rfl) (λj hj=>by rw[hq,Qc λe=>hj e.symm]);have:=h.n;omega
       .by_cases hw:km S.M S.Qf J o.ZI=0/\Zj S.M J=[]/\1<QR (Qw S.M J).c.ls/\u∈Vo S.M.T S.M.A J
        .rw[Qd hw]at key;obtain⟨m',k1,k2⟩:=VA.1 key;have kc:m'.c=m.c:=congrArg Prod.fst k2;have kt:m'.QO=m.QO:=congrArg (λx=>x.2.1) k2;have kp:m'.cp=xN m.cp (Je m.c.ul) S.Qf m.QO:=congrArg (λx=>x.2.2) k2;rw[m2]at kp;refine⟨m',k1,by rw[kc];exact m2,?_⟩;have aI:=m3.tq CT.ul I.cl ω;show jk c (if s.n=0 then (S.Qf,0)::s.g else s.g) s.k S.Qf m'.QO m'.cp;rw[kt,kp];split
         .exact aI
         .exact aI.sub
        .rw[Qc hw]at key;obtain⟨m',k1,k2⟩:=VA.1 key;have kc:m'.c=m.c:=congrArg Prod.fst k2;have kt:m'.QO=m.QO:=congrArg (λx=>x.2.1) k2;have kp:m'.cp=m.cp:=congrArg (λx=>x.2.2) k2;refine⟨m',k1,by rw[kc];exact m2,?_⟩;show jk c (if s.n=0 then (S.Qf,0)::s.g else s.g) s.k S.Qf m'.QO m'.cp;rw[kt,kp,Qc]
         .exact m3
         .intro j9;refine hw ⟨hp,?_,?_,?_⟩
          .have h5:X4 (Zj S.M) lv=0:=h.n.symm.trans j9;exact Di.1 (uH h5 J hJ)
          .have Ls:=tv I.I (by rw[h.T];exact gT:Qx S.M.T J=some kk);rw[Ls];exact(CT.free J hJ kk gT).2
          .refine QA5 I.I.tree (by rw[h.T];exact G9) (Xe.2 λha=>?_);obtain⟨a,a1,a2⟩:=XU.1 ha;obtain⟨na,b1,b2,b3,_⟩:=(I.V.act a).1 a1;rw[h.T]at a2;have haf:=I.I.some b1;rw[h.T]at haf;have hal:=(CT.V7 a _ haf b2).2 a2;have h5:X4 (Zj S.M) lv=0:=h.n.symm.trans j9;have h6:=Di.1 (uH h5 a hal);unfold Zj Qw at h6;rw[b1]at h6;exact b3 h6
      .have Ds:¬lv.contains J=true:=by simpa using hJ
       have G9:u ∉ up T J:=λh2=>hJ ((CT.V7 _ _ gT Gq).2 h2);have zy:s.next lv (ku S.ops S.Qf J o.ZI)=s:=by
        unfold Gh.next;rw[Qc (show ¬lv.contains (ku S.ops S.Qf J o.ZI).cls=true from Ds)]
       rw[zy];rw[Qc λh2=>G9 (by rw[<- h.T];exact iu _ h2.2.2.2)]at key;obtain⟨m',k1,k2⟩:=VA.1 key;have kc:m'.c=m.c:=congrArg Prod.fst k2;have kt:m'.QO=m.QO:=congrArg (λx=>x.2.1) k2;have kp:m'.cp=m.cp:=congrArg (λx=>x.2.2) k2;refine⟨hT,?_,XF,m',k1,by rw[kc];exact m2,by rw[kt,kp];exact m3⟩;exact h.n.trans (OX λj hj=>by
        show Zj (Jx S.M S.Qf J o.ZI) j=Zj S.M j;rw[hq,Qc λe:J=j=>hJ (by rw[e];exact hj)]).symm
     obtain⟨p1,p2⟩:=QjM CT I2 H S.ops (by
      show (s.next lv (ku S.ops S.Qf J o.ZI)).k+(Js { S with ops:=S.ops+1,M:=Jx S.M S.Qf J o.ZI,st:=vw S.st J S.Qf } S.ops S.Qf).2.length<=_;omega)
     exact⟨⟨λ_ h5=>(by have h6:true=false:=h5;cases h6),p1⟩,p2⟩
    .rename_i hp;rw[Qc hp];rw[Qc λh2=>hp h2.1]at key;obtain⟨m',k1,k2⟩:=VA.1 key;have kc:m'.c=m.c:=congrArg Prod.fst k2;have kt:m'.QO=m.QO:=congrArg (λx=>x.2.1) k2;have kp:m'.cp=m.cp:=congrArg (λx=>x.2.2) k2;refine⟨trivial,⟨hT,?_,XF,m',k1,by rw[kc];exact m2,by rw[kt,kp];exact m3⟩⟩;exact h.n.trans (OX λj hj=>by
      show Zj (Jx S.M S.Qf J o.ZI) j=Zj S.M j;rw[OF,Qc λh2=>hp h2.1]).symm
  .rename_i h3;rw[Qc h3];split at hk
   .rename_i h4;rw[Qd h4];unfold qZ at hk ⊢;split at hk
    .rename_i h5;rw[Qd h5];exact⟨trivial,h0⟩
    .rename_i h5;rw[Qc h5];have:=I.cl;have h5:¬(4611686018427387904 - S.Qf<o.Wi.toNat):=h5;exact QjN CT (S:={ S with ops:=S.ops+1 }) (by show S.Qf+o.Wi.toNat<=_;omega) _ I0 (by show S.Qf<=S.Qf+_;omega) h0 hk
   .rename_i h4;rw[Qc h4];exact⟨trivial,h0⟩
theorem QjP:∀(l:List ZV) {s:Gh} {S:ZF},Jd S->Al T u c lm lv s S->(∀o∈l,o.kind≠1/\ZV.Ok o)->s.k+(Zn S l).2.2.length<=1000000000->wW c lm lv s (Zn S l).2.2
 | [],s,S,I,h,hl,hk=>trivial
 | o::l,s,S,I,h,hl,hk=>by
  obtain⟨o1,o2⟩:=hl o J2;have hk:s.k+((JM S o).l++(Zn (JM S o).S l).2.2).length<=1000000000:=hk;rw[ZW]at hk;obtain⟨p1,p2⟩:=QBf CT I h o1 ω;have jC:=uF lv (JM S o).l s;exact uE _ _ _ p1 (QjP l (I.do o2.2.1.2) p2 (λb hb=>hl b (JR _ hb)) ω)
end
end Go.Fg.X
namespace Go.Fg.X
open Go.Proofs Go.Fg Go.Fg.X.SP
open Go.Proofs.Tryz
def Am(a d b t lm:Nat):Nat:=min (Wj a d b t / 65536+lm) 18446744073709551615
def Ev.bN(e:Ev):Nat:=e.len.toNat
def Xv(lv:List Int)(e:Ev):Bool:=!e.J8&&lv.contains e.cls
def pk(lv:List Int)(l:List Ev)(F:Int):Nat->Nat
 | 0=>0
 | k+1=>if F<(k:Int)/\Xv lv (l.getD k default)=true then (pk lv l F k+(l.getD k default).bN) % 18446744073709551616 else pk lv l F k
def uJ(lv)(l:List Ev)(F):∀k,pk lv l F k<18446744073709551616
 | 0=>by simp[pk]
 | k+1=>by have:=uJ lv l F k;simp only[pk];split<;>omega
def yh(s:Sp)(e:Ev):Nat:=(max e.at_ s.V8 - s.V8).toNat
def q6(a d b:Nat)(lm:Int)(lv:List Int)(l:List Ev)(s:Sp)(i:Nat):Bool:=
 decide (s.fst<(i:Int))&&(Xv lv (l.getD i default)&&((s.zI || decide ((i:Int)<=s.Aj))&&decide (Am a d b (yh s (l.getD i default)) lm.toNat<pk lv l s.fst (i+1))))
def gU(V:Sp->Nat->Bool)(L:List Sp)(n:Nat)(R:Nat->Bool->D)(d:D):Prop:=
 (∃j i,j<L.length/\i<n/\V (L.getD j default) i=true/\(∀j',j'<j->∀i',i'<n->V (L.getD j' default) i'=false)/\(∀i',i'<i->V (L.getD j default) i'=false)/\d=R i true) \/
 ((∀j,j<L.length->∀i,i<n->V (L.getD j default) i=false)/\d=R 0 false)
def QBj(a d b){t t'}(h:t<=t'):Wj a d b t<=Wj a d b t':=by
 unfold Wj;split
 .exact QB _
 .by_cases h1:t'<=d
  .rw[Fq h1,Fq ω,xg,xg];exact Nat.add_le_add_right (Md a h) _
  .rw[Uv (show d<=t' from ω)];by_cases h2:t<=d
   .rw[Fq h2,xg,Nat.mul_zero];exact Ki (Md a h2) (Nat.le_add_right _ _)
   .rw[Uv ω];exact Nat.add_le_add_left (Md b ω) _
def OZ{α:Type}[Inhabited α]{l:List α}{k}(h:k<l.length):l.getD k default∈l:=by
 rw[Q5,QP h];exact YU h
structure T7 (lv:List Int) (l:List Ev):Prop where
 at0:∀e∈l,0<=e.at_
 inc:∀i j,i<=j->j<l.length->(l.getD i default).at_<=(l.getD j default).at_
 len:∀e∈l,e.J8=false->0<=e.len/\e.len<=16384
 yg:l.length<100000000
def De(lv:List Int)(l:List Ev)(k:Nat):Gh:=(l.take k).foldl (Gh.next lv) ⟨0,[],0⟩
def Ua(lv)(l:List Ev){k:Nat}(h:k<l.length):De lv l (k+1)=(De lv l k).next lv (l.getD k default):=by
 unfold De;rw[getD_take l default k h,jo];rfl
def QjR{c}{lm}{lv}:∀(l:List Ev) (s:Gh),wW c lm lv s l->∀k,k<l.length->QjK c lm lv ((l.take k).foldl (Gh.next lv) s) (l.getD k default)
 | [],s,_,k,hk=>absurd hk (WZ k)
 | e::l,s,h,0,_=>h.1
 | e::l,s,h,k+1,hk=>QjR l _ h.2 k (by simpa using hk)
def QjS(lv)(l:List Ev):∀k,k<=l.length->(De lv l k).n=X5 lv l k
 | 0,_=>rfl
 | k+1,h=>by
  have ih:=QjS lv l k ω;rw[Ua lv l ω];simp only[X5,Ai];rw[<- ih];unfold Gh.next;split
  .split<;>rfl
  .rfl
section
variable {c:Nc}{lm:Nat}{lv:List Int}{l:List Ev}(E:T7 lv l)(H:wW c lm lv ⟨0,[],0⟩ l)
include E H
theorem QjT(k)(h:k<l.length)(x)(hx:x∈(De lv l (k+1)).g)
  (ih:∀y∈(De lv l k).g,(y.1:Int)<=(l.getD k default).at_/\y.2<=Wj c.a c.d c.b ((l.getD k default).at_.toNat - y.1) / 65536+lm) :
  (x.1:Int)<=(l.getD k default).at_/\x.2<=Wj c.a c.d c.b ((l.getD k default).at_.toNat - x.1) / 65536+lm:=by
 have hc:=QjR l _ H k h;have h0:=E.at0 _ (OZ h);rw[Ua lv l h]at hx;by_cases h1:lv.contains (l.getD k default).cls=true
 .by_cases h2:(l.getD k default).J8=true
  .unfold Gh.next at hx;rw[Qd h1,Qd h2]at hx;dsimp only at hx;split at hx
   .rcases QD.1 hx with rfl|hx
    .exact⟨by show (((l.getD k default).at_.toNat:Nat):Int)<=_;omega,Jh _⟩
    .exact ih x hx
   .exact ih x hx
  .exact hc h1 (by simpa using h2) x hx
 .unfold Gh.next at hx;rw[Qc h1]at hx;exact ih x hx
theorem QjU:∀k,k<l.length->∀x∈(De lv l (k+1)).g,(x.1:Int)<=(l.getD k default).at_/\x.2<=Wj c.a c.d c.b ((l.getD k default).at_.toNat - x.1) / 65536+lm
 | 0,h,x,hx=>QjT E H 0 h x hx λy hy=>by cases hy
 | k+1,h,x,hx=>QjT E H (k+1) h x hx λy hy=>by
  obtain⟨h1,h2⟩:=QjU k ω y hy;have h3:=E.inc k (k+1) ω h;have h4:=QBj c.a c.d c.b (show (l.getD k default).at_.toNat - y.1<=(l.getD (k+1) default).at_.toNat - y.1 from ω);exact⟨ω,by
   have:Wj c.a c.d c.b ((l.getD k default).at_.toNat - y.1) / 65536<=Wj c.a c.d c.b ((l.getD (k+1) default).at_.toNat - y.1) / 65536:=Nat.div_le_div_right h4;omega⟩
omit H in
theorem QjV:∀k,k<=l.length->∀x∈(De lv l k).g,x.2<=16384*k
 | 0,_,x,hx=>by cases hx
 | k+1,h,x,hx=>by
  have ih:=QjV k ω;rw[Ua lv l ω]at hx;unfold Gh.next at hx;split at hx
  .split at hx
   .dsimp only at hx;split at hx
    .rcases QD.1 hx with rfl|hx
     .exact Jh _
     .have:=ih x hx;omega
    .have:=ih x hx;omega
   .rename_i h2;obtain⟨y,hy,rfl⟩:=Z2.1 hx;have h3:=E.len _ (OZ (show k<l.length from ω)) (by simpa using h2);have:=ih y hy;show y.2+(l.getD k default).len.toNat<=_;omega
  .have:=ih x hx;omega
end
def QjW(lv:List Int)(l:List Ev)(F:Nat):∀k,k<=F+1->pk lv l F k=0
 | 0,_=>rfl
 | k+1,h=>by
  unfold pk;rw[Qc ω];exact QjW lv l F k ω
def uK{lv}{l:List Ev}(E:T7 lv l):∀k,k<=l.length->∀s∈Z6 lv l k,∃F:Nat,s.fst=F/\F<k/\0<=s.V8/\∀i,F<i->i<=k->(s.V8.toNat,pk lv l F i)∈(De lv l i).g
 | 0,_,s,hs=>by cases hs
 | k+1,h,s,hs=>by
  have hk:k<l.length:=ω;have ih:=uK E k ω;have h0:=E.at0 _ (OZ hk);have hn:=QjS lv l k ω;have J3:∀s',s'∈Z6 lv l k->s.fst=s'.fst->s.V8=s'.V8->∃F:Nat,s.fst=F/\F<k+1/\0<=s.V8/\∀i,F<i->i<=k+1->(s.V8.toNat,pk lv l F i)∈(De lv l i).g:=λs' db e1 e2=>by
   obtain⟨F,f1,f2,f3,f4⟩:=ih s' db;refine⟨F,e1.trans f1,ω,by rw[e2];exact f3,λi i1 i2=>?_⟩;rw[e2];by_cases hi:i<=k
   .exact f4 i i1 hi
   .have hi:i=k+1:=ω;subst hi;have hm:=f4 k f2 (QB _);have NY:=QjV E k ω _ hm;have Ha:=E.yg;rw[Ua lv l hk];unfold pk;by_cases h1:lv.contains (l.getD k default).cls=true
    .by_cases h2:(l.getD k default).J8=true
     .have hr:Xv lv (l.getD k default)=false:=by unfold Xv;rw[h2];rfl
      rw[hr,Qc (λh=>by cases h.2)];unfold Gh.next;rw[Qd h1,Qd h2];dsimp only;split
      .exact JR _ hm
      .exact hm
     .have h2:(l.getD k default).J8=false:=by simpa using h2
      have hr:Xv lv (l.getD k default)=true:=by unfold Xv;rw[h2,h1];rfl
      have h3:=E.len _ (OZ hk) h2;rw[Qd ⟨ω,hr⟩];have hbn:(l.getD k default).bN=(l.getD k default).len.toNat:=rfl;rw[jq (by rw[hbn];dsimp only at NY;omega)];unfold Gh.next;rw[Qd h1,Qc (by rw[h2];decide)];exact Z2.2 ⟨_,hm,rfl⟩
    .have hr:Xv lv (l.getD k default)=false:=by unfold Xv;rw[Xe.2 h1,Bool.and_false]
     rw[hr,Qc (λh=>by cases h.2)];unfold Gh.next;rw[Qc h1];exact hm
  unfold Z6 Fa at hs;split at hs
  .rename_i hb;rcases QX.1 hs with hs|hs
   .exact J3 s hs rfl rfl
   .rw[q8]at hs;subst hs;refine⟨k,rfl,ω,h0,λi i1 i2=>?_⟩;have hi:i=k+1:=ω;subst hi;rw[QjW lv l k _ (QB _),Ua lv l hk];obtain⟨b1,b2⟩:=hb;unfold Ai at b2;rw[b1]at b2;split at b2
    .rename_i c1;split at b2
     .rename_i c2;unfold Gh.next;rw[Qd c1,Qd c2,hn,b1,Qd rfl];exact J2
     .omega
    .omega
  .split at hs
   .rename_i hb;have YZ:=uB lv l k ω;rcases List.mem_or_eq_of_mem_set hs with hs|hs
    .exact J3 s hs rfl rfl
    .subst hs;exact J3 _ (OZ (show (Z6 lv l k).length - 1<(Z6 lv l k).length from ω)) rfl rfl
   .exact J3 s hs rfl rfl
def QjX{c}{lm:Int}{lv}{l:List Ev}(E:T7 lv l)(H:wW c lm.toNat lv ⟨0,[],0⟩ l){s}(hs:s∈Z6 lv l l.length){i}(hi:i<l.length):
  s.fst<(i:Int)->0<=s.V8/\s.V8<=(l.getD i default).at_/\pk lv l s.fst (i+1)<=Am c.a c.d c.b ((l.getD i default).at_ - s.V8).toNat lm.toNat:=λhf=>by
 obtain⟨F,f1,f2,f3,f4⟩:=uK E l.length (QB _) s hs;rw[f1]at hf ⊢;have hm:=f4 (i+1) ω ω;obtain⟨h1,h2⟩:=QjU E H i hi _ hm;have h3:=uJ lv l F (i+1);dsimp only at h1 h2;refine⟨f3,ω,?_⟩;rw[show ((l.getD i default).at_ - s.V8).toNat=(l.getD i default).at_.toNat - s.V8.toNat by omega];unfold Am;omega
def QBl{c:Nc}{lm:Int}{lv}{l:List Ev}(E:T7 lv l)(H:wW c lm.toNat lv ⟨0,[],0⟩ l):∀j,j<(Z6 lv l l.length).length->∀i,i<l.length->q6 c.a c.d c.b lm lv l ((Z6 lv l l.length).getD j default) i=false:=λj hj i hi=>by
 rw[Xe];intro hv;unfold q6 at hv;simp only[Zy,XL]at hv;obtain⟨v1,_,_,v4⟩:=hv;obtain⟨h1,h2,h3⟩:=QjX E H (OZ hj) hi v1;have e:yh ((Z6 lv l l.length).getD j default) (l.getD i default)=((l.getD i default).at_ - ((Z6 lv l l.length).getD j default).V8).toNat:=by
  unfold yh;rw[Int.max_eq_left h2]
 rw[e]at v4;omega
def QBm{c:Qq}(hr:KN c=0)(hn:c.ul.Nn)(h1:1<QR c.ul):LN (Je c.ul):=by
 have h4:QR c.ul≠4:=by
  unfold KN at hr;split at hr
  .cases hr
  .split at hr
   .cases hr
   .rename_i h;simp only[DY,qB,Bool.not_eq_false,Zy,bne_iff_ne,ne_eq]at h;intro e;rw[e]at h;simp at h
 obtain⟨a1,a2,a3⟩:=hn;have hof:(Je c.ul).of=2/\c.ul.d=0/\c.ul.m1<=4294967295/\c.ul.m2<=4294967295\/(Je c.ul).of=3/\c.ul.m2<c.ul.m1/\c.ul.m1<=4294967295/\c.ul.m2<=4294967295/\c.ul.d<=1048576:=by
  unfold QR at h1 h4;unfold Nc.of Vp Je;dsimp only
  (repeat' split at h1)<;>(try omega)<;>(repeat' split)<;>omega
 have e1:(Je c.ul).a=c.ul.m1.toNat:=rfl;have e2:(Je c.ul).b=c.ul.m2.toNat:=rfl;have e3:(Je c.ul).d=c.ul.d.toNat:=rfl;refine⟨ω,ω,ω,ω,λh=>ω,λh=>ω⟩
def QBn{c:Qq}(hr:KN c=0)(hl:c.leaf=true)(h1:¬1<QR c.rt):1<QR c.ls:=by
 unfold KN at hr;split at hr
 .cases hr
 .split at hr
  .cases hr
  .split at hr
   .cases hr
   .rename_i h;rw[hl]at h;simp only[jR,Ap,O6,Bool.or_false,O7,QI h1,LU]at h;by_cases h2:1<QR c.ls
    .exact h2
    .rw[QI h2]at h;simp at h
def QjY{S:ZF}{o:ZV}(ho:o.kind≠1):(JM S o).S.M.T=S.M.T:=by
 have hp:∀(S:ZF) (op now:Nat),(Js S op now).1.M.T=S.M.T:=λS op now=>by
  unfold Js;split
  .rfl
  .split
   .exact fZ _ _
   .exact fZ _ _
 have hg:∀(op e n:Nat) (S:ZF),(Vg op e n S).1.M.T=S.M.T:=λop e n=>by
  induction n with
  | zero=>intro S;rfl
  | succ n ih=>
   intro S;unfold Vg;split
   .rfl
   .exact(ih _).trans (hp _ _ _)
 unfold JM VX;rw[Qc ho];split
 .split<;>rfl
 .split
  .unfold YR;split
   .rfl
   .split
    .exact(hp _ _ _).trans (uo _ _ _ _)
    .exact uo _ _ _ _
  .split
   .unfold qZ;split
    .rfl
    .exact hg _ _ _ _
   .rfl
def QjZ:∀(l:List ZV) (S:ZF),(∀o∈l,o.kind≠1)->(Zn S l).1.M.T=S.M.T
 | [],S,_=>rfl
 | o::l,S,h=>(QjZ l _ λb hb=>h b (JR _ hb)).trans (QjY (h o J2))
def QBo{c}(b)(l:List JN):∀id n,Qh (K0 (M0 c) b l).N id=some n->n.QO=0/\n.cp=default/\n.du=default:=by
 unfold K0;split
 .have h1:∀(L:List Int) (T2:List Qq) (M:Qk),(∀id n,Qh M.N id=some n->n.QO=0/\n.cp=default/\n.du=default)->∀id n,Qh (L.foldl (JP T2) M).N id=some n->n.QO=0/\n.cp=default/\n.du=default:=by
   intro L T2;induction L with
   | nil=>intro M h;exact h
   | cons i L ih=>
    intro M h;refine ih _ λid n hn=>?_;unfold JP at hn;split at hn
    .rw[BD]at hn;split at hn
     .cases hn
     .exact h id n hn
    .have go:∀(k:Qq) (N:List Nd),Qh (Xs k::zA N i) id=some n->(∀n,Qh N id=some n->n.QO=0/\n.cp=default/\n.du=default)->n.QO=0/\n.cp=default/\n.du=default:=λk N hn h=>by
      unfold Qh at hn;rw[jl]at hn;split at hn
      .cases hn;exact⟨rfl,rfl,rfl⟩
      .have KO:Qh (zA N i) id=some n:=hn;rw[BD]at KO;split at KO
       .cases KO
       .exact h n KO
     split at hn
     .exact go _ _ hn (h id)
     .exact go _ _ hn (h id)
  have h2:=h1 (Kf (M0 c).T (JA (M0 c).T l)) (JA (M0 c).T l) { M0 c with T:=JA (M0 c).T l } (λid n hn=>by simp[M0,Qh]at hn);intro id n hn;have hm:n∈Xc (M0 c) (JA (M0 c).T l):=kF hn;obtain⟨k,_,rfl⟩:=Z2.1 hm;unfold Qw Vq;cases hf:Qh ((Kf (M0 c).T (JA (M0 c).T l)).foldl (JP (JA (M0 c).T l)) { M0 c with T:=JA (M0 c).T l }).N k.iD with
  | none=>exact⟨rfl,rfl,rfl⟩
  | some n=>exact h2 k.iD n hf
 .intro id n hn;simp[M0,Qh]at hn
def Qj0{c}(K:WM c)(ops:List ZV)(hl:ops.length<=1000)(ZM:∀o∈ops,ZV.Ok o)(lv):T7 lv (Zn (S0 c) ops).2.2:=by
 have A:=uw (x:=c) ops (Jd.gM K) (W:=λ_=>[]) (a:=TZ) (d:=0) ⟨λj=>rfl,rfl,Dg _,Dg _,rfl⟩ ZM;have hq:=λ{i:Nat} (hi:i<(Zn (S0 c) ops).2.2.length) {k:Nat} (hk:k<8)=>Qjs A.ok hi hk;have hlen:=gN (x:=⟨c,ops⟩) K hl (QB _) ZM;have hlen:(Zn (S0 c) ops).2.2.length<100000000:=hlen;obtain⟨l,hle⟩:∃l,l=(Zn (S0 c) ops).2.2:=⟨_,rfl⟩;rw[<- hle]at hq hlen ⊢;have Kz:∀i,i<l.length->(OW l i).at_<=(l.getD i default).at_:=λi hi=>by
  have h:decide ((l.getD i default).at_<(OW l i).at_\/4611686018427387904<(l.getD i default).at_)=false:=hq hi (k:=1) π;rw[Pz]at h;omega
 have YZ:∀i,i<l.length->0<=(l.getD i default).at_:=λi=>by
  induction i with
  | zero=>intro hi;exact Kz 0 hi
  | succ i ih=>
   intro hi;have h1:=ih ω;have h2:(l.getD i default).at_<=(l.getD (i+1) default).at_:=Kz (i+1) hi;omega
 refine⟨λe he=>?_,λi j=>?_,λe he _=>?_,hlen⟩
 .obtain⟨i,hi,rfl⟩:=Up.1 he;have:=YZ i hi;rw[Q5,QP hi]at this;exact this
 .induction j with
  | zero=>intro h1 h2;rw[show i=0 by omega];exact Dg _
  | succ j ih=>
   intro h1 h2;by_cases e:i=j+1
   .rw[e];exact Dg _
   .have h3:=ih ω ω;have h4:(l.getD j default).at_<=(l.getD (j+1) default).at_:=Kz (j+1) h2;omega
 .obtain⟨i,hi,rfl⟩:=Up.1 he;have h:(kx (l.getD i default).pk c.ZX != 0)=false:=hq hi (k:=2) π;rw[Q5,QP hi]at h;have h:(kx (l[i]).pk c.ZX != 0)=false:=h;have Jp:=K.l2;unfold kx at h;split at h
  .cases h
  .split at h
   .cases h
   .rename_i h5;have h5:¬¬(1<=(l[i]).len/\(l[i]).len<=c.ZX):=h5;omega
def QBp{c}(K:WM c)(ops:List ZV)(hl:ops.length<=1000)(ZM:∀o∈ops,ZV.Ok o)(hs:∀o∈ops.tail,o.kind≠1){u}{k}{lv}
  (hu:Qx (Zn (S0 c) ops).1.M.T u=some k) (CT:uG (Zn (S0 c) ops).1.M.T u (Je k.ul) lv):wW (Je k.ul) c.ZX.toNat lv ⟨0,[],0⟩ (Zn (S0 c) ops).2.2:=by
 cases ops with
 | nil=>trivial
 | cons o l=>
  have hs:∀b∈l,b.kind≠1:=hs;have hT:(Zn (S0 c) (o::l)).1.M.T=(JM (S0 c) o).S.M.T:=QjZ l _ hs;rw[hT]at hu CT;have hlen:=gN (x:=⟨c,o::l⟩) K hl (QB _) ZM;have hlen:((JM (S0 c) o).l++(Zn (JM (S0 c) o).S l).2.2).length<100000000:=hlen;rw[ZW]at hlen;by_cases ho:o.kind=1
  .have e:JM (S0 c) o=⟨{ S0 c with ops:=1,M:=K0 (M0 c) (decide ((S0 c).XI<=(S0 c).Qf)) o.changes },⟨jh (M0 c) (decide ((S0 c).XI<=(S0 c).Qf)) o.changes,x6 (M0 c) o.changes,0⟩,[]⟩:=by
    unfold JM VX;rw[Qd ho];rfl
   have K6:=(ZM o J2).2.1.2;have I:=(Jd.gM K).do (o:=o) K6;show wW (Je k.ul) c.ZX.toNat lv ⟨0,[],0⟩ ((JM (S0 c) o).l++(Zn (JM (S0 c) o).S l).2.2);rw[show (JM (S0 c) o).l=[] by rw[e],zK];refine QjP CT l I ⟨rfl,?_,?_,?_⟩ (λb hb=>⟨hs b hb,ZM b (JR _ hb)⟩) (by show 0+_<=_;omega)
   .have hz:∀j,Zj (JM (S0 c) o).S.M j=[]:=λj=>by rw[e];exact QyP _ _ j
    show 0=X4 (Zj (JM (S0 c) o).S.M) lv;rw[OX (W:=λ_=>[]) λj _=>hz j,Qjw]
   .rw[e];show (K0 (M0 c) _ o.changes).lk.ZX.toNat=_;rw[OE];rfl
   .obtain⟨n,h1,h2⟩:=I.I.Lb hu;refine⟨n,h1,by rw[h2],?_⟩;rw[e]at h1;obtain⟨h3,h4,_⟩:=QBo _ _ _ _ h1;rw[h3,h4];exact⟨Jh _,λh=>absurd rfl h,λh=>(by cases h),λx hx=>(by cases hx)⟩
  .rw[QjY ho]at hu;cases hu
def vE(T:List Qq)(lv:List Int):Bool:=lv.all λid=>match Qx T id with|some c=>!decide (1<QR c.rt)|none=>false
def Qj1{T}{u j}(hu:u≠0):j∈qA T u↔j∈wV T/\u∈Jr T 16 j:=by
 unfold qA Wl;rw[Jt];unfold BK;have h0:(u==0)=false:=by simpa using hu
 rw[h0];simp
def QBq{T}(I:JG T)(Kl:kb T){u}{k:Qq}(hu:Qx T u=some k)(hc:1<QR k.ul)(hf:vE T (qA T u)=true):uG T u (Je k.ul) (qA T u):=by
 obtain⟨hk,Q8⟩:=(J6 I.rising).1 hu;have hu0:u≠0:=by
  have:=I.ids k hk;omega
 refine⟨QBm (I.right k hk) (Kl k hk).nn.2.2 hc,λj c hj hl=>?_,λj hj c hc=>?_,?_⟩
 .obtain⟨yu,jx⟩:=(J6 I.rising).1 hj;rw[Qj1 hu0];have:j∈wV T:=by
   unfold wV;exact Z2.2 ⟨c,Jt.2 ⟨yu,hl⟩,jx⟩
  exact⟨λh=>h.2,λh=>⟨this,h⟩⟩
 .have h1:=XK.1 hf j hj;rw[hc]at h1;have h1:¬1<QR c.rt:=by simpa using h1
  obtain⟨yu,jx⟩:=(J6 I.rising).1 hc;refine⟨h1,?_⟩;rw[Qj1 hu0]at hj;obtain⟨d,hd,e⟩:=Z2.1 hj.1;obtain⟨Yl,KI⟩:=Jt.1 hd;have:Qx T j=some d:=(J6 I.rising).2 ⟨Yl,e⟩;rw[hc]at this;cases this;exact QBn (I.right c yu) KI h1
 .unfold qA wV Wl;refine Uk List.filter_sublist ?_;have h1:(T.map (·.iD)).Nodup:=by
   unfold List.Nodup;rw[L6];exact I.rising.imp λh e=>ω
  exact Uk (List.Sublist.map _ List.filter_sublist) h1
def Qj3{c}(K:WM c)(ops:List ZV)(hl:ops.length<=1000)(ZM:∀o∈ops,ZV.Ok o)(hs:∀o∈ops.tail,o.kind≠1)(I:JG (Zn (S0 c) ops).1.M.T)(Kl:kb (Zn (S0 c) ops).1.M.T){u}{k}
  (hu:Qx (Zn (S0 c) ops).1.M.T u=some k) (hc:1<QR k.ul) (hf:vE (Zn (S0 c) ops).1.M.T (qA (Zn (S0 c) ops).1.M.T u)=true) :
  (∀j,j<(Z6 (qA (Zn (S0 c) ops).1.M.T u) (Zn (S0 c) ops).2.2 (Zn (S0 c) ops).2.2.length).length->∀i,i<(Zn (S0 c) ops).2.2.length->q6 (Je k.ul).a (Je k.ul).d (Je k.ul).b c.ZX (qA (Zn (S0 c) ops).1.M.T u) (Zn (S0 c) ops).2.2 ((Z6 (qA (Zn (S0 c) ops).1.M.T u) (Zn (S0 c) ops).2.2 (Zn (S0 c) ops).2.2.length).getD j default) i=false) /\
  (∀s∈Z6 (qA (Zn (S0 c) ops).1.M.T u) (Zn (S0 c) ops).2.2 (Zn (S0 c) ops).2.2.length,∀i,i<(Zn (S0 c) ops).2.2.length->s.fst<(i:Int)->0<=s.V8/\s.V8<=((Zn (S0 c) ops).2.2.getD i default).at_ /\
   pk (qA (Zn (S0 c) ops).1.M.T u) (Zn (S0 c) ops).2.2 s.fst (i+1)<=Am (Je k.ul).a (Je k.ul).d (Je k.ul).b (((Zn (S0 c) ops).2.2.getD i default).at_ - s.V8).toNat c.ZX.toNat):=by
 have CT:=QBq I Kl hu hc hf;have H:=QBp K ops hl ZM hs hu CT;have E:=Qj0 K ops hl ZM (qA (Zn (S0 c) ops).1.M.T u);exact⟨QBl E H,λs hs i hi=>QjX E H hs hi⟩
end Go.Fg.X
namespace Go.Fg.X.SP
open Go.Proofs Go.Fg
open Go.Proofs.Tryz
structure Good (l:List Ev) (out:List Sp) (k n:Nat):Prop where
 a:∀i,i<out.length->∃f:Nat,(out.getD i default).fst=f/\f<k/\(out.getD i default).V8=(l.getD f default).at_ /\
  ((out.getD i default).zI=false->∃t:Nat,(out.getD i default).Aj=t/\f<t/\t<k/\(out.getD i default).to=(l.getD t default).at_)
 b:∀i,i+1<out.length->(out.getD i default).zI=false/\(out.getD i default).Aj<(out.getD (i+1) default).fst
 c:0<n↔0<out.length/\(out.getD (out.length - 1) default).zI=true
def ES(lv)(l:List Ev):∀k,Good l (Z6 lv l k) k (X5 lv l k)
 | 0=>⟨λi h=>by simp[Z6]at h,λi h=>by simp[Z6]at h,by simp[Z6,X5]⟩
 | k+1=>by
  have G:=ES lv l k;have mono:∀i,i<(Z6 lv l k).length->∃f:Nat,((Z6 lv l k).getD i default).fst=f/\f<k+1/\((Z6 lv l k).getD i default).V8=(l.getD f default).at_ /\
    (((Z6 lv l k).getD i default).zI=false->∃t:Nat,((Z6 lv l k).getD i default).Aj=t/\f<t/\t<k+1/\((Z6 lv l k).getD i default).to=(l.getD t default).at_):=λi hi=>by
   obtain⟨f,h1,h2,h3,h4⟩:=G.a i hi;exact⟨f,h1,ω,h3,λe=>let ⟨t,t1,t2,t3,t4⟩:=h4 e;⟨t,t1,t2,ω,t4⟩⟩
  have G:=G;simp only[Z6,X5,Fa];generalize Z6 lv l k=out at *;generalize X5 lv l k=n at *;generalize Ai n (l.getD k default) lv=m at *;by_cases h1:n=0/\0<m
  .rw[Qd h1];have hc:¬ (0<out.length/\(out.getD (out.length - 1) default).zI=true):=λh=>by have:=G.c.2 h;omega
   refine⟨λi hi=>?_,λi hi=>?_,?_⟩
   .by_cases VH:i<out.length
    .rw[nz _ _ _ _ VH];exact mono i VH
    .have:i=out.length:=by simp at hi;omega
     subst this;rw[nA];exact⟨k,rfl,ω,rfl,λe=>by cases e⟩
   .simp only[ZW,Kv,Uo]at hi;rw[nz _ _ _ _ ω];by_cases VH:i+1<out.length
    .rw[nz _ _ _ _ VH];exact G.b i VH
    .have e:i+1=out.length:=ω;rw[e,nA];have G8:(out.getD i default).zI=false:=by
      cases ho:(out.getD i default).zI
      .rfl
      .exact absurd ⟨ω,by rw[show out.length - 1=i by omega];exact ho⟩ hc
     obtain⟨f,h1,h2,h3,h4⟩:=G.a i ω;obtain⟨t,t1,t2,t3,t4⟩:=h4 G8;exact⟨G8,by rw[t1];simp;omega⟩
   .simp only[ZW,Kv,Uo,Nat.add_sub_cancel,JD];rw[nA];exact⟨λ_=>⟨ω,rfl⟩,λ_=>h1.2⟩
  .rw[Qc h1];by_cases h2:0<n/\m=0
   .rw[Qd h2];obtain⟨c1,c2⟩:=G.c.1 h2.1;obtain⟨f,f1,f2,f3,f4⟩:=G.a (out.length - 1) ω;refine⟨λi hi=>?_,λi hi=>?_,?_⟩
    .rw[Wu]at hi;by_cases VH:i=out.length - 1
     .subst VH;rw[nB _ _ _ _ ω];exact⟨f,f1,ω,f3,λ_=>⟨k,rfl,f2,ω,rfl⟩⟩
     .rw[nC _ _ _ _ _ (Q3 VH)];exact mono i hi
    .rw[Wu]at hi;rw[nC _ _ _ _ _ (show out.length - 1≠i from ω)];by_cases VH:i+1=out.length - 1
     .rw[VH,nB _ _ _ _ ω];have:=G.b i hi;rw[VH]at this;exact this
     .rw[nC _ _ _ _ _ (Q3 VH)];exact G.b i hi
    .rw[Wu,nB _ _ _ _ ω];exact⟨λh=>ω,λh=>by cases h.2⟩
   .rw[Qc h2];refine⟨mono,G.b,?_⟩;rw[<- G.c];omega
end Go.Fg.X.SP
namespace Go.Fg.X
open Go.Proofs Go.Fg
open Go.Proofs.Tryz
def uL(a d b t)(lm:Int)(ht:t<18446744073709551616)(XF:-9223372036854775808<=lm/\lm<=9223372036854775807):QW prog 29 [Bn a d b,u64 t,Qa lm] (QN (u64 (Am a d b t lm.toNat))):=by
 have hs:=Qfg a d b t ht;have w1:IntKind.u64.wrap (max lm 0)=((lm.toNat:Nat):Int):=η;obtain⟨S,hS⟩:∃S,S=Wj a d b t:=⟨_,rfl⟩;have s1:=Qfh a d b t ht;have hm:Am a d b t lm.toNat=min (S / 65536+lm.toNat) 18446744073709551615:=by rw[hS];rfl
 rw[<- hS]at hs s1;rw[hm];obtain⟨q,hq⟩:∃q,q=S / 65536:=⟨_,rfl⟩;have s2:=QtB S 65536 ω π π;rw[<- hq]at s2 ⊢;refine xT 0 func29 ntmps29 results29 λbase w hb=>?_;simp only[go_sem];apply ZK hb Qdb s1;apply Qn hb;refine cT hb QpU ?_ s2 ?_
 .simp only[go_sem,Qff]
 apply Qn hb;have nv:ID q=if q<18446744073709551616 then q else 0:=rfl;have ne:Gy q=if q<18446744073709551616 then 0 else 20:=rfl;by_cases h:q<18446744073709551616
 .rw[Qd h]at nv ne;have w2:IntKind.u64.wrap (18446744073709551615 - (lm.toNat:Int))=((18446744073709551615 - lm.toNat:Nat):Int):=η;have n0:((0:Int) != 0)=false:=rfl;simp only[go_sem,w1,w2,nv,ne,n0];by_cases h2:18446744073709551615 - lm.toNat<q
  .simp only[go_sem,QU h2];rw[show min (q+lm.toNat) 18446744073709551615=18446744073709551615 by omega];rfl
  .have w3:=nY q lm.toNat ω;simp only[go_sem,QI h2,w3];rw[show min (q+lm.toNat) 18446744073709551615=q+lm.toNat by omega]
 .rw[Qc h]at nv ne;have n0:((20:Int) != 0)=true:=rfl;simp only[go_sem,w1,nv,ne,n0];rw[show min (q+lm.toNat) 18446744073709551615=18446744073709551615 by omega];rfl
def Ev.kz(x:Ev):Prop:=(Lit.int .u64 x.at_).wf=true/\(Lit.int .i64 x.len).wf=true
def QBr(d:D)(hs:List Ob):D->List Ob->Prop:=λd' h=>d'=d/\h=hs
attribute [go_sem] QBr
@[go_sem] def ob1(n:Nat):Ob:=⟨.one,0,1,1,λ_=>[u64 n]⟩
@[go_sem] def ob2(n:Nat):Ob:=⟨.one,0,2,1,λ_=>[u64 (n / 18446744073709551616),u64 (n % 18446744073709551616)]⟩
structure Cm where
 t:Nat
 b:Nat
instance:Inhabited Cm:=⟨⟨0,0⟩⟩
structure Bu where
 last:Nat
 sum:Nat
 fill:Nat
 uM:Nat
def gV(b:Nat):Nat:=min b 1099511627777
def Bu.next(m:Nat)(s:Bu)(c:Cm):Bu:=⟨c.t,gV (s.sum+gV c.b),(s.fill - m*(c.t - s.last))+gV c.b*65536,max s.uM ((s.fill - m*(c.t - s.last))+gV c.b*65536)⟩
def Ev.QGT(e:Ev)(cls:Int):Bool:=e.J8&&(e.cls==cls)
def Cm.Ok(c:Cm):Prop:=c.t<18446744073709551616/\c.b<9223372036854775808
def QBs:(default:Ev).kz:=by
 refine⟨?_,?_⟩<;>rfl
def uN{l:List Ev}(h:∀e∈l,e.kz)(k):(l.getD k default).kz:=by
 by_cases hk:k<l.length
 .rw[Q5,QP hk];exact h _ (YU hk)
 .rw[Q5,Ar ω];exact QBs
def QBt{e:Ev}(h:e.kz):IntKind.u64.wrap (max e.len 0)=(e.bN:Int):=by
 have h2:=wf_i64 h.2;rw[IntKind.wrap_u64];show _=((e.len.toNat:Nat):Int);omega
structure QGU (n:Nat) (s:Bu):Prop where
 last:s.last<18446744073709551616
 sum:s.sum<=1099511627777
 fill:s.fill<=n*72057594037993472
 uM:s.uM<=n*72057594037993472
end Go.Fg.X
