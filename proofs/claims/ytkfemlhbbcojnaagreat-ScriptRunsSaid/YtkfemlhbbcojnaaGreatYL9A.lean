/- Contracts and laws on the way to the statement. No conditions. -/
import Derived.Test.YtkfemlhbbcojnaaGreatTA3A
import Derived.Test.YtkfemlhbbcojnaaGreatCA3A
import Derived.Test.YtkfemlhbbcojnaaGreatSCaA
set_option maxRecDepth 100000
set_option maxHeartbeats 16000000
set_option linter.unusedVariables false
set_option linter.unusedSimpArgs false
set_option linter.unusedSectionVars false
set_option linter.defProp false
namespace Go.Fg.X
open Go.Proofs Go.Fg
open Go.Proofs.Tryz
def Qzp(h:List Ob):QH prog 82 h [] (λd h'=>d=.ptr (h.length+2) 0 0 0/\h'=h++[QK .i64 0 [],QK .i64 0 [],tP h.length (h.length+1)]):=by
 refine QQ func82 ntmps82 results82 λbase w pl hb=>?_;simp only[go_sem,Qe]
def EX.put{S}{h h'}{p cm rm c1}{Zx}{c2}{Z1}{s}(T:EX S h p cm rm c1 Zx c2 Z1 s){cls}{d}{l}(lo)
  (hc:h'[cm]? = some (JZ .i64 c1 Zx cls d)) (ho:∀j o,h[j]? = some o->j≠cm->j≠lo->h'[j]? = some o) (hd:LG (more S h) h' d l) (hl:∀j g off n,d=.ref j g off n->j=lo)
  (hs:∀k j g off n,k≠cls->ZL Zx k=some (.ref j g off n)->j≠lo) (hp:p≠lo) (hr:rm≠lo) :
  YS (more S h) h' p { s with Jc:=λk=>if k=cls then l else s.Jc k }:=by
 obtain⟨c',es',h3,h4⟩:=Qaz .i64 c1 Zx cls d;have Rh:p≠cm:=λe=>by have:=T.o;rw[e,T.co]at this;cases this
 refine⟨cm,rm,c',es',c2,Z1,ho _ _ T.o Rh hp,by rw[hc,h3],ho _ _ T.ro (Q3 T.ne) hr,T.ne,.inl T.sp,.inl T.sc,.inl T.sr,λk=>?_,λk1 k2 j g off n g' vQ n' h1 h2=>?_,T.rw_⟩
 .rw[h4 k];by_cases hk:k=cls
  .rw[Qd hk];dsimp only;rw[Qd hk];exact hd
  .rw[Qc hk];dsimp only;rw[Qc hk];rcases T.ca k with ⟨h1,h2⟩|⟨j,g,off,row,h1,h2,h5,h6⟩
   .exact .inl ⟨h1,h2⟩
   .have Jf:ZL Zx k=some (.ref j g off (s.Jc k).length):=by
     cases ha:ZL Zx k with
     | none=>rw[ha]at h1;cases h1
     | some d'=>rw[ha]at h1;exact congrArg some h1
    refine .inr ⟨j,g,off,row,h1,.inl h2,ho j _ h5 (λe=>?_) (hs k _ _ _ _ hk Jf),h6⟩;rw[e,T.co]at h5;cases h5
 .rw[h4 k1]at h1;rw[h4 k2]at h2;by_cases a1:k1=cls<;>by_cases a2:k2=cls
  .rw[a1,a2]
  .rw[Qd a1]at h1;rw[Qc a2]at h2;exact absurd (hl _ _ _ _ (Mf h1)) (hs k2 _ _ _ _ a2 h2)
  .rw[Qc a1]at h1;rw[Qd a2]at h2;exact absurd (hl _ _ _ _ (Mf h2)) (hs k1 _ _ _ _ a1 h1)
  .rw[Qc a1]at h1;rw[Qc a2]at h2;exact T.sep k1 k2 j g off n g' vQ n' h1 h2
def Qzq{S}{h}{p}{s:Da}(T:YS S h p s)(cls:Int)(a)(hb:(s.Jc cls).length<1000000):
  QH prog 149 h [.ptr p 0 0 0,Qa cls,u64 a] (λd h'=>d=Qa 0/\Step S h h'/\YS (more S h) h' p (vw s cls a)):=by
 obtain⟨cm,rm,c1,Zx,c2,Z1,T⟩:=T;have ho:=T.o;have hm:=T.co;have Ql:=Qb ho;have Zg:=Qb hm;have hp:=T.ca cls;have Rh:p≠cm:=λe=>by rw[e,hm]at ho;cases ho
 have ZO:vw s cls a={ s with Jc:=λk=>if k=cls then s.Jc cls++[a] else s.Jc k }:=by
  unfold vw;congr 1;funext k;by_cases hk:k=cls
  .rw[Qd hk,Qd hk,hk]
  .rw[Qc hk,Qc hk]
 rw[ZO];have PM:∀k j g off n,ZL Zx k=some (.ref j g off n)->j<h.length:=λk j g off n hk=>by
  rcases T.ca k with ⟨h1,_⟩|⟨j',_,_,_,h1,_,h3,_⟩
  .rw[hk]at h1;cases h1
  .rw[hk]at h1;cases h1;exact Qb h3
 have new:(ZL Zx cls=none\/ZL Zx cls=some .nil)->s.Jc cls=[]->Step S h (h.set cm (JZ .i64 c1 Zx cls (.ref (h.length+1) 0 0 1))++[⟨.arr,0,1,1,λ_=>[u64 a]⟩,⟨.arr,0,1,1,λ_=>[u64 a]⟩]) /\
   YS (more S h) (h.set cm (JZ .i64 c1 Zx cls (.ref (h.length+1) 0 0 1))++[⟨.arr,0,1,1,λ_=>[u64 a]⟩,⟨.arr,0,1,1,λ_=>[u64 a]⟩]) p { s with Jc:=λk=>if k=cls then s.Jc cls++[a] else s.Jc k }:=λhk hw=>by
  refine⟨⟨λl hl hn=>?_,π⟩,T.put (d:=.ref (h.length+1) 0 0 1) (h.length+1) ?_ (λj o hj h1 h2=>?_) (.inr ⟨h.length+1,0,0,λ_=>[u64 a],by simp[hw],.inr ω,?_,λi hi=>?_⟩) (λj g off n e=>by cases e;rfl) (λk j g off n _ Jf=>by have:=PM k _ _ _ _ Jf;omega) ω (by have:=Qb T.ro;omega)⟩
  .rw[QG (by simpa using hl),Qr (λe=>hn (by rw[<- e];exact T.sc))]
  .rw[QG (by simpa using Zg),QE Zg]
  .rw[QG (by simpa using Qb hj),Qr (Q3 h1),hj]
  .rw[VD (k:=1) π,hw];rfl
  .rw[hw]at hi ⊢;simp at hi;subst hi;rfl
 cases hk:ZL Zx cls with
 | none=>
  rw[hk]at hp;have fin:=new (.inl hk) hp.nil;refine QQ func149 ntmps149 results149 λbase w pl hb=>?_;have Ql:=Qb ho;have Zg:=Qb hm;simp only[go_sem];apply Vk [] hb [0,1,2,4,5,6,7,8,9,10,11] [3,12,13,14];simp only[go_sem,Qe,ho,Ql,hm,Zg,hk];simp only[go_sem]at fin ⊢
  repeat' apply And.intro
  all_goals first|exact fin.1|exact fin.2
 | some d=>
  rw[hk]at hp;rcases hp with ⟨h2,h3⟩|⟨lo,g,off,row,h2,hS,h3,h4⟩
  .simp only[KR]at h2;subst h2;have fin:=new (.inr hk) h3;refine QQ func149 ntmps149 results149 λbase w pl hb=>?_;have Ql:=Qb ho;have Zg:=Qb hm;simp only[go_sem];apply Vk [] hb [0,1,2,4,5,6,7,8,9,10,11] [3,12,13,14];simp only[go_sem,Qe,ho,Ql,hm,Zg,hk];simp only[go_sem]at fin ⊢
   repeat' apply And.intro
   all_goals first|exact fin.1|exact fin.2
  .simp only[KR]at h2;subst h2;have n1:lo≠p:=λe=>by rw[e,ho]at h3;cases h3
   have n2:lo≠cm:=λe=>by rw[e,hm]at h3;cases h3
   have n3:lo≠rm:=λe=>by rw[e,T.ro]at h3;cases h3
   have CI:(s.Jc cls).length<=4294967295:=ω;have h9:(s.Jc cls).length+1<=4294967295:=ω;have KB:=Qb h3;have fin:Step S h ((h.set lo ⟨.arr,g+1,1,(s.Jc cls).length+1,Kt (s.Jc cls).length off row λ_=>[u64 a]⟩).set cm (JZ .i64 c1 Zx cls (.ref lo (g+1) 0 ((s.Jc cls).length+1)))++[⟨.arr,0,1,1,λ_=>[u64 a]⟩]) /\
     YS (more S h) ((h.set lo ⟨.arr,g+1,1,(s.Jc cls).length+1,Kt (s.Jc cls).length off row λ_=>[u64 a]⟩).set cm (JZ .i64 c1 Zx cls (.ref lo (g+1) 0 ((s.Jc cls).length+1)))++[⟨.arr,0,1,1,λ_=>[u64 a]⟩]) p { s with Jc:=λk=>if k=cls then s.Jc cls++[a] else s.Jc k }:=by
    refine⟨⟨λl hl hn=>?_,π⟩,T.put (d:=.ref lo (g+1) 0 ((s.Jc cls).length+1)) lo ?_ (λj o hj h1 h2=>?_) (.inr ⟨lo,g+1,0,Kt (s.Jc cls).length off row λ_=>[u64 a],π,.inl hS,?_,λi hi=>?_⟩) (λj g off n e=>by cases e;rfl) (λk j g' vQ n' QA ZJ e=>?_) (Q3 n1) (Q3 n3)⟩
    .rw[QG (by simpa using hl),Qr (λe=>hn (by rw[<- e];exact T.sc)),Qr (λe=>hn (by rw[<- e];exact hS))]
    .rw[QG (by simpa using Zg),QE (by simpa using Zg)]
    .rw[QG (by simpa using Qb hj),Qr (Q3 h1),Qr (Q3 h2),hj]
    .rw[QG (by simpa using KB),Qr (Q3 n2),QE KB];simp
    .simp at hi;rw[JD];by_cases qh:i<(s.Jc cls).length
     .rw[Az qh,h4 i qh];simp[qh,JC qh]
     .have:i=(s.Jc cls).length:=ω;subst this;rw[xk (QB _)];simp
    .subst e;exact QA (T.sep _ _ _ _ _ _ _ _ _ ZJ hk)
   refine QQ func149 ntmps149 results149 λbase w pl hb=>?_;have Ql:=Qb ho;have Zg:=Qb hm;have KB:=Qb h3;simp only[go_sem];apply Vk [] hb [0,1,2,4,5,6,7,8,9,10,11] [3,12,13,14];simp only[go_sem,Qe,ho,Ql,hm,Zg,hk,Qr,h3,KB,n1,n2,CI];simp only[go_sem]at fin ⊢
   repeat' apply And.intro
   all_goals first|exact fin.1|exact fin.2
def EX.row{S}{h h'}{p cm rm c1}{Zx}{c2}{Z1}{s}(T:EX S h p cm rm c1 Zx c2 Z1 s){cls}{r}
  (hr:h'[rm]? = some (JZ .i64 c2 Z1 cls (.agg r.cells))) (ho:∀j o,h[j]? = some o->j≠rm->h'[j]? = some o) :
  ∃c2' Ep,EX S h' p cm rm c1 Zx c2' Ep { s with rows:=λk=>if k=cls then r else s.rows k }:=by
 obtain⟨c',es',h3,h4⟩:=Qaz .i64 c2 Z1 cls (.agg r.cells);have Db:p≠rm:=λe=>by have:=T.o;rw[e,T.ro]at this;cases this
 refine⟨c',es',ho _ _ T.o Db,ho _ _ T.co T.ne,by rw[hr,h3],T.ne,T.sp,T.sc,T.sr,λk=>?_,T.sep,λk=>?_⟩
 .rcases T.ca k with h1|⟨j,g,off,row,h1,h2,h5,h6⟩
  .exact .inl h1
  .refine .inr ⟨j,g,off,row,h1,h2,ho j _ h5 (λe=>?_),h6⟩;rw[e,T.ro]at h5;cases h5
 .rw[h4 k];dsimp only;by_cases hk:k=cls
  .rw[Qd hk,Qd hk];rfl
  .rw[Qc hk,Qc hk];exact T.rw_ k
def ji.Qzr{a b:ji}(h:a.cells=b.cells):a=b:=by
 obtain⟨a1,a2,a3,a4,a5⟩:=a;obtain⟨b1,b2,b3,b4,b5⟩:=b;simp only[ji.cells,u64,Hc,D.raw.injEq,Value.int.injEq,vO,lB]at h;obtain⟨h1,h2,h3,h4,h5⟩:=h;congr 1<;>omega
def OJ(a b:Nat):IntKind.u64.wrap ((a:Int)+(b:Int))=(((a+b) % 18446744073709551616:Nat):Int):=by
 rw[IntKind.wrap_u64];omega
def Qzs{S}{h}{p}{s}(T:YS S h p s)(cls){done}(hd:done<18446744073709551616){bytes}(J5:1<=bytes)(ZB:bytes<=16384)(real):
  QH prog 190 h [.ptr p 0 0 0,Qa cls,u64 done,Qa bytes,QT real] (λd h'=>Step S h h'/\YS (more S h) h' p (YP s cls done bytes real)):=by
 obtain⟨cm,rm,c1,Zx,c2,Z1,T⟩:=T;have ho:=T.o;have hm:=T.co;have hr:=T.ro;have QA:=T.ne;have Ql:=Qb ho;have Zg:=Qb hm;have Y0:=Qb hr;have hp:=T.ca cls;have Rh:p≠cm:=λe=>by rw[e,hm]at ho;cases ho
 have Db:p≠rm:=λe=>by rw[e,hr]at ho;cases ho
 have same:∀g:List Ob,YP s cls done bytes real=s->Step S h (h++g)/\YS (more S h) (h++g) p (YP s cls done bytes real):=λg e=>by
  rw[e];exact⟨Step.app S h g,YS.step (λj hj h1=>⟨.inl h1,QG hj⟩) ⟨cm,rm,c1,Zx,c2,Z1,T⟩⟩
 have gu:YP s cls done bytes real=s->Step S h h/\YS (more S h) h p (YP s cls done bytes real):=λe=>by
  have:=same [] e;rwa [JI]at this
 obtain⟨r,Av⟩:∃r,r=s.rows cls:=⟨_,rfl⟩;have ZG:=T.rw_ cls;rw[<- Av]at ZG;cases hk:ZL Zx cls with
 | none=>
  rw[hk]at hp;have h0:=hp.nil;have fin:=gu (by unfold YP;rw[h0]);refine QQ func190 ntmps190 results190 λbase w pl hb=>?_;have Ql:=Qb ho;have Zg:=Qb hm;simp only[go_sem,ho,hm,hk];exact fin
 | some d=>
  rw[hk]at hp;rcases hp with ⟨h2,h3⟩|⟨lo,g,off,row,h2,hS,h3,h4⟩
  .simp only[KR]at h2;subst h2;have fin:=gu (by unfold YP;rw[h3]);refine QQ func190 ntmps190 results190 λbase w pl hb=>?_;have Ql:=Qb ho;have Zg:=Qb hm;simp only[go_sem,ho,hm,hk];exact fin
  .simp only[KR]at h2;subst h2;have KB:=Qb h3;cases hc:s.Jc cls with
   | nil=>
    have fin:=gu (by unfold YP;rw[hc]);rw[hc]at hk;refine QQ func190 ntmps190 results190 λbase w pl hb=>?_;have Ql:=Qb ho;have Zg:=Qb hm;simp only[go_sem,ho,hm,hk];exact fin
   | cons a l=>
    rw[hc]at hk h3 h4;have ha:=h4 0 π;simp only[go_sem,BP,List.getD_cons_zero]at ha;have d1:decide (bytes<1)=false:=QI ω;have d0:(((l.length+1:Nat):Int)==0)=false:=δ;have g1:(0:Int)<((l.length+1:Nat):Int):=ω;have g2:off<off+(l.length+1):=ω;have n1:lo≠p:=λe=>by rw[e,ho]at h3;cases h3
    have n2:lo≠cm:=λe=>by rw[e,hm]at h3;cases h3
    have n3:rm≠lo:=λe=>by rw[<- e,hr]at h3;cases h3
    have PM:∀k j g off n,ZL Zx k=some (.ref j g off n)->j<h.length:=λk j g off n hk=>by
     rcases T.ca k with ⟨h1,_⟩|⟨j',_,_,_,h1,_,h3,_⟩
     .rw[hk]at h1;cases h1
     .rw[hk]at h1;cases h1;exact Qb h3
    have su:∀(R2:ji) (o:Ob),YP s cls done bytes real=⟨λk=>if k=cls then l else s.Jc k,λk=>if k=cls then R2 else s.rows k⟩ ->
      Step S h ((h.set rm (JZ .i64 c2 Z1 cls (.agg R2.cells))).set cm (JZ .i64 c1 Zx cls (.ref lo g (off+1) l.length))++[o])/\YS (more S h) ((h.set rm (JZ .i64 c2 Z1 cls (.agg R2.cells))).set cm (JZ .i64 c1 Zx cls (.ref lo g (off+1) l.length))++[o]) p (YP s cls done bytes real):=λR2 o e=>by
     rw[e];obtain⟨c2',Ep,T1⟩:=T.row (h':=h.set rm (JZ .i64 c2 Z1 cls (.agg R2.cells))) (r:=R2) (cls:=cls) (QE Y0) (λj o hj h1=>by rw[Qr (Q3 h1)];exact hj);have hlen:(h.set rm (JZ .i64 c2 Z1 cls (.agg R2.cells))).length=h.length:=π;have SQ:more S (h.set rm (JZ .i64 c2 Z1 cls (.agg R2.cells)))=more S h:=by unfold more;rw[hlen]
     refine⟨⟨λj hj hn=>?_,π⟩,?_⟩
     .rw[QG (by simpa using hj),Qr (λe=>hn (by rw[<- e];exact T.sc)),Qr (λe=>hn (by rw[<- e];exact T.sr))]
     .rw[<- SQ];refine T1.put (d:=.ref lo g (off+1) l.length) lo ?_ (λj o hj h1 h2=>?_) (.inr ⟨lo,g,off+1,row,rfl,.inl hS,?_,λi hi=>?_⟩) (λj g off n e=>by cases e;rfl) (λk j g' vQ n' QA ZJ e=>?_) (Q3 n1) n3
      .rw[QG (by simpa using Zg),QE (by simpa using Zg)]
      .rw[QG (by have:=Qb hj;simpa using this),Qr (Q3 h1),hj]
      .rw[QG (by simpa using KB),Qr (Q3 n2),Qr n3,h3];simp only[Kv,QY,Ob.mk.injEq,vO,lB];omega
      .rw[show off+1+i=off+(i+1) by omega,h4 (i+1) (by simpa using hi)];simp
      .subst e;exact QA (T.sep _ _ _ _ _ _ _ _ _ ZJ hk)
    by_cases h5:done<a
    .have d2:=QU h5;have fin:=gu (by unfold YP;rw[hc];dsimp only;rw[Qc ω,Qd h5]);refine QQ func190 ntmps190 results190 λbase w pl hb=>?_;have Ql:=Qb ho;have Zg:=Qb hm;have KB:=Qb h3;simp only[go_sem,ho,hm,h3,hk,d0,d1,d2,ha];exact⟨g1,g2,fin⟩
    .have d2:=QI h5;have e0:YP s cls done bytes real=⟨λk=>if k=cls then l else s.Jc k,λk=>if k=cls then ya r a done bytes real else s.rows k⟩:=by
      unfold YP;rw[hc];dsimp only;rw[Qc ω,Qc h5];congr 1;funext k;by_cases zj:k=cls
      .rw[Qd zj,Qd zj,zj,<- Av]
      .rw[Qc zj,Qc zj]
     have fin:∀(o:Ob) (R2:ji),R2=ya r a done bytes real->∀n,n=l.length->Step S h ((h.set rm (JZ .i64 c2 Z1 cls (.agg R2.cells))).set cm (JZ .i64 c1 Zx cls (.ref lo g (off+1) n))++[o])/\YS (more S h) ((h.set rm (JZ .i64 c2 Z1 cls (.agg R2.cells))).set cm (JZ .i64 c1 Zx cls (.ref lo g (off+1) n))++[o]) p (YP s cls done bytes real):=λo R2 sQ n hn=>by
      subst hn;exact su R2 o (by rw[e0,sQ])
     have w1:IntKind.u64.wrap ((r.p:Int)+1)=(((r.p+1) % 18446744073709551616:Nat):Int):=OJ r.p 1;have w2:IntKind.u64.wrap bytes=((bytes.toNat:Nat):Int):=κ;have w3:=OJ r.b bytes.toNat
     have w4:IntKind.u64.wrap ((r.r:Int)+1)=(((r.r+1) % 18446744073709551616:Nat):Int):=OJ r.r 1;have w5:IntKind.u64.wrap ((done:Int) - (a:Int))=((done - a:Nat):Int):=κ;have w6:=OJ r.w (done - a);have w7:max ((r.l:Nat):Int) ((done - a:Nat):Int)=((max r.l (done - a):Nat):Int):=ω;have w8:(((l.length+1:Nat):Int) - 1).toNat=l.length:=ω;have Jf:(ZL Z1 cls=some (.agg r.cells))\/(ZL Z1 cls=none/\r=default):=by
      cases hh:ZL Z1 cls with
      | some d=>rw[hh]at ZG;exact .inl (congrArg some ZG)
      | none=>
       rw[hh]at ZG;have ZG:D.agg (default:ji).cells=D.agg r.cells:=ZG;exact .inr ⟨rfl,(ji.Qzr (D.agg.inj ZG)).symm⟩
     rcases Jf with Jf|⟨Jf,WQ⟩
     .refine QQ func190 ntmps190 results190 λbase w pl hb=>?_;have Ql:=Qb ho;have Zg:=Qb hm;have KB:=Qb h3;have Y0:=Qb hr;simp only[go_sem,Qe,ho,hm,h3,hr,hk,d0,d1,d2,ha,Jf,w1,w2,w3];cases real with
      | true=>
       have xZ:=fin ⟨.one,0,5,1,λ_=>(ya r a done bytes true).cells⟩ _ rfl _ w8;simp only[go_sem,ya,↓reduceIte,w8]at xZ;simp only[go_sem,Qe,w4];repeat (refine And.intro (by first|exact g1|exact g2|omega) ?_)
       apply QF hb O3;simp only[go_sem,Qe,h3,KB,ha,w5,w6];repeat (refine And.intro (by first|exact g1|exact g2|omega) ?_)
       apply QF hb O3;simp only[go_sem,Qe,h3,KB,ha,w5,w7];repeat (refine And.intro (by first|exact g1|exact g2|omega) ?_)
       apply QF hb uk;simp only[go_sem,Qe,ho,Ql,hr,Y0];repeat (refine And.intro (by first|exact g1|exact g2|omega) ?_)
       apply QF hb O1;simp only[go_sem,Qe,ho,Ql,h3,KB,hm,Zg,Qr Db.symm,Qr QA.symm,Qr n3];repeat (refine And.intro (by first|exact g1|exact g2|omega) ?_)
       simp only[go_sem,w8];exact xZ
      | false=>
       have xZ:=fin ⟨.one,0,5,1,λ_=>(ya r a done bytes false).cells⟩ _ rfl _ w8;simp only[go_sem,ya,↓reduceIte,w8,q7]at xZ;simp only[go_sem];repeat (refine And.intro (by first|exact g1|exact g2|omega) ?_)
       apply QF hb O3;simp only[go_sem,Qe,h3,KB,ha,w5,w6];repeat (refine And.intro (by first|exact g1|exact g2|omega) ?_)
       apply QF hb O3;simp only[go_sem,Qe,h3,KB,ha,w5,w7];repeat (refine And.intro (by first|exact g1|exact g2|omega) ?_)
       apply QF hb uk;simp only[go_sem,Qe,ho,Ql,hr,Y0];repeat (refine And.intro (by first|exact g1|exact g2|omega) ?_)
       apply QF hb O1;simp only[go_sem,Qe,ho,Ql,h3,KB,hm,Zg,Qr Db.symm,Qr QA.symm,Qr n3];repeat (refine And.intro (by first|exact g1|exact g2|omega) ?_)
       simp only[go_sem,w8];exact xZ
     .have WQ:r=⟨0,0,0,0,0⟩:=WQ;subst WQ;have v1:IntKind.u64.wrap 1=1:=rfl;have v3:IntKind.u64.wrap (0+((bytes.toNat:Nat):Int))=(((0+bytes.toNat) % 18446744073709551616:Nat):Int):=OJ 0 bytes.toNat
      have v6:IntKind.u64.wrap (0+((done - a:Nat):Int))=(((0+(done - a)) % 18446744073709551616:Nat):Int):=OJ 0 (done - a);have v7:max (0:Int) ((done - a:Nat):Int)=((max 0 (done - a):Nat):Int):=ω;refine QQ func190 ntmps190 results190 λbase w pl hb=>?_;have Ql:=Qb ho;have Zg:=Qb hm;have KB:=Qb h3;have Y0:=Qb hr;simp only[go_sem,Qe,ho,hm,h3,hr,hk,d0,d1,d2,ha,Jf,w2,v1,v3];cases real with
      | true=>
       have xZ:=fin ⟨.one,0,5,1,λ_=>(ya ⟨0,0,0,0,0⟩ a done bytes true).cells⟩ _ rfl _ w8;simp only[go_sem,ya,↓reduceIte,w8]at xZ;simp only[go_sem,Qe,v1];repeat (refine And.intro (by first|exact g1|exact g2|omega) ?_)
       apply QF hb O3;simp only[go_sem,Qe,h3,KB,ha,w5,v6];repeat (refine And.intro (by first|exact g1|exact g2|omega) ?_)
       apply QF hb O3;simp only[go_sem,Qe,h3,KB,ha,w5,v7];repeat (refine And.intro (by first|exact g1|exact g2|omega) ?_)
       apply QF hb uk;simp only[go_sem,Qe,ho,Ql,hr,Y0];repeat (refine And.intro (by first|exact g1|exact g2|omega) ?_)
       apply QF hb O1;simp only[go_sem,Qe,ho,Ql,h3,KB,hm,Zg,Qr Db.symm,Qr QA.symm,Qr n3];repeat (refine And.intro (by first|exact g1|exact g2|omega) ?_)
       simp only[go_sem,w8];exact xZ
      | false=>
       have xZ:=fin ⟨.one,0,5,1,λ_=>(ya ⟨0,0,0,0,0⟩ a done bytes false).cells⟩ _ rfl _ w8;simp only[go_sem,ya,↓reduceIte,w8,q7]at xZ;simp only[go_sem];repeat (refine And.intro (by first|exact g1|exact g2|omega) ?_)
       apply QF hb O3;simp only[go_sem,Qe,h3,KB,ha,w5,v6];repeat (refine And.intro (by first|exact g1|exact g2|omega) ?_)
       apply QF hb O3;simp only[go_sem,Qe,h3,KB,ha,w5,v7];repeat (refine And.intro (by first|exact g1|exact g2|omega) ?_)
       apply QF hb uk;simp only[go_sem,Qe,ho,Ql,hr,Y0];repeat (refine And.intro (by first|exact g1|exact g2|omega) ?_)
       apply QF hb O1;simp only[go_sem,Qe,ho,Ql,h3,KB,hm,Zg,Qr Db.symm,Qr QA.symm,Qr n3];repeat (refine And.intro (by first|exact g1|exact g2|omega) ?_)
       simp only[go_sem,w8];exact xZ
@[go_sem] def QGl(k:List Int):List D:=k.map λn=>.raw (.int .u16 n)
def QiH:QW prog 138 [] (QN (.agg [.raw (.int .u16 65535),.raw (.int .u16 65535),.raw (.int .u16 65535),.raw (.int .u16 65535)])):=by
 refine xT 0 func138 ntmps138 results138 λbase w hb=>?_;simp only[go_sem]
def QiI(a0 a1 a2 a3 b0 b1 b2 b3):QW prog 137 [.agg [.raw (.int .u16 a0),.raw (.int .u16 a1),.raw (.int .u16 a2),.raw (.int .u16 a3)],.agg [.raw (.int .u16 b0),.raw (.int .u16 b1),.raw (.int .u16 b2),.raw (.int .u16 b3)]]
  (QN (.agg [.raw (.int .u16 (vz a0 b0)),.raw (.int .u16 (vz a1 b1)),.raw (.int .u16 (vz a2 b2)),.raw (.int .u16 (vz a3 b3))])):=by
 refine xT 0 func137 ntmps137 results137 λbase w hb=>?_;simp only[go_sem];have w1:IntKind.i64.wrap 1=1:=rfl;have w2:IntKind.i64.wrap 2=2:=rfl;have w3:IntKind.i64.wrap 3=3:=rfl;have w4:IntKind.i64.wrap 4=4:=rfl;refine wv 4 ?_;apply Qn hb;apply QF hb um;simp only[go_sem];apply Qn hb;apply QF hb um;simp only[go_sem];apply Qn hb;apply QF hb um;simp only[go_sem];apply Qn hb;apply QF hb um;simp only[go_sem];apply Qn hb;apply Qn hb;rfl
theorem Qzt(r:JT)(x:Pk):qY r (ZR x)=(vz x.wc r.yI==r.Ia&&(vz x.wg r.yJ==r.Ib&&(vz x.wh r.DV==r.Ic&&(vz x.wi r.Cg==r.DW&&true)))):=rfl
@[go_sem] def gv(x:Pk):List D:=[.raw (.int .u16 x.wc),.raw (.int .u16 x.wg),.raw (.int .u16 x.wh),.raw (.int .u16 x.wi)]
def QiJ(r:JT)(x):QW prog 184 [.agg r.cells,.agg (gv x)] (QN (QT (qY r (ZR x)))):=by
 rw[Qzt];refine xT 0 func184 ntmps184 results184 λbase w hb=>?_;simp only[go_sem];apply QF hb [0,1,2,4,5,1003,6,7];simp only[go_sem];apply Jb hb mO (QiI x.wc x.wg x.wh x.wi r.yI r.yJ r.DV r.Cg);exact Iq hb
structure QiK (h:List Ob) (p:Nat) (dr:D) (le:Nat) (dm:D) (c:Nat) (es:List Xi) (ms:List Nat) (R:List JT):Prop where
 o:(h.map Ob.ro)[p]? = some (LF dr le dm).ro
 eo:(h.map Ob.ro)[le]? = some (kQ c es).ro
 rs:(dr=.nil/\R=[])\/∃lo g row,dr=.ref lo g 0 R.length/\(h.map Ob.ro)[lo]? = some ⟨.yl,g,9,R.length,row⟩/\∀i,i<R.length->row i=(R.getD i default).cells
 mo:(dm=.nil/\ms=[])\/∃lo g row,dm=.ref lo g 0 ms.length/\(h.map Ob.ro)[lo]? = some ⟨.yl,g,1,ms.length,row⟩/\∀i,i<ms.length->row i=[Qa ((ms.getD i 0:Nat):Int)]
 I:Yr R R.length es ms
 ok:qy R=0
def tQ.toR{S}{h}{p}{dr}{le}{dm}{c}{es}{ms}{R}(T:tQ S h p dr le dm c es ms R):QiK h p dr le dm c es ms R:=
 ⟨ZC T.o,ZC T.eo,T.rs.imp id λ⟨lo,g,row,h1,_,h3,h4⟩=>⟨lo,g,row,h1,ZC h3,h4⟩,T.mo.imp id λ⟨lo,g,row,h1,_,h3,h4⟩=>⟨lo,g,row,h1,ZC h3,h4⟩,T.I,T.ok⟩
def tS{R}(h:qy R=0):∀r∈R,1<=r.cls:=λr hr=>by
 unfold qy at h;split at h
 .cases h
 .split at h
  .rename_i h2;have:=XK.1 h2 r hr;unfold yc at this;simp only[Zy,XL]at this;exact this.1.1
  .cases h
def inc_le:∀(ms:List Nat) (n b:Nat),ms.Pairwise (·<·)->(∀j∈ms,b<=j/\j<n)->ms.length<=n - b
 | [],n,b,_,_=>Jh _
 | a::ms,n,b,hi,h=>by
  rw[yj]at hi;have h1:=h a π;have:=inc_le ms n (a+1) hi.2 λj hj=>⟨hi.1 j hj,(h j (by simp[hj])).2⟩;simp only[Kv];omega
def Qzu{h}{p}{dr}{le}{dm}{c}{es}{ms}{R}(T:QiK h p dr le dm c es ms R)(x)(hx:TI x):
  Q6 prog 147 h [.ptr p 0 0 0,.agg (gv x)] (λd=>d=.tup [Qa (Kr R (ZR x)),Qa (if Kr R (ZR x)=0 then 31 else 0)]):=by
 have ho:=T.o;have he:=T.eo;have h4:=T.I.four;obtain⟨q,hq⟩:∃q,q=WT es (ZR x):=⟨_,rfl⟩;have Dc:=hq;simp only[ZR]at Dc;have ms0:∀j,j<ms.length->ms.getD j 0∈ms:=λj hj=>qg ms 0 j hj;have TM:∀i∈ms,∃j,j<ms.length/\ms.getD j 0=i:=λi hi=>by
  obtain⟨j,hj,e⟩:=wZ hi;exact⟨j,hj,by rw[Q5,QP hj];exact e⟩
 have yv:ms.length<=32:=by
  have h1:=inc_le ms R.length 0 T.I.inc λj hj=>⟨Jh j,((T.I.mem j).1 hj).1⟩;have h2:R.length<=32:=by
   have:=T.ok;unfold qy at this;split at this
   .cases this
   .omega
  omega
 have Qzv:∀j k,j<k->k<ms.length->ms.getD j 0<ms.getD k 0:=λj k VY hk=>by
  have:=List.pairwise_iff_getElem.1 T.I.inc j k ω hk VY;rw[Q5,Q5,QP hk,QP (show j<ms.length from ω)];exact this
 have tT:∀j k,j<ms.length->ms.getD j 0<ms.getD k 0->j<k:=λj k hj h=>kC λhc=>by
  rcases Nat.lt_or_eq_of_le (Nat.le_of_not_lt hc) with h2|h2
  .have:=Qzv k j h2 hj;omega
  .rw[h2]at h;omega
 cases q with
 | none=>
  have out:(∀j∈ms,qY (JB R j) (ZR x)=false)->Kr R (ZR x)=0:=λZP=>by
   unfold Kr;rw[T.I.none hx hq.symm ZP]
  rcases T.mo with ⟨rfl,rfl⟩|⟨lm,gm,tU,rfl,hm,qm⟩
  .rw[out (λj hj=>by cases hj),Qd rfl];refine xD func147 ntmps147 results147 λbase w pl F hF Q7 hb=>?_;rw[<- hF]at ho he;have Ql:=Qb ho;have WK:=Qb he;simp only[go_sem];apply QF hb O7;simp only[go_sem,Qe,ho,Ql,he,WK,<- Dc];refine⟨h4,?_⟩;refine wv 0 ?_;apply Qn hb;apply Qn hb;all_goals exact cD
  .refine xD func147 ntmps147 results147 λbase w pl F hF Q7 hb=>?_;rw[<- hF]at ho he hm;have Ql:=Qb ho;have WK:=Qb he;have Zg:=Qb hm;simp only[go_sem];apply QF hb O7;simp only[go_sem,Qe,ho,Ql,he,WK,<- Dc];refine⟨h4,?_⟩;refine Z3 (λk s=>(∀j,j<k->qY (JB R (ms.getD j 0)) (ZR x)=false)/\s=⟨[(0,.ptr p 0 0 0),(3,.ptr F.length 0 0 0),(6,Qa 0),(7,QT false),(24,.ref lm gm 0 ms.length),(25,Qa ms.length),(26,Qa k)],F++[(⟨.one,0,4,1,λ_=>gv x⟩:Ob)]⟩) ms.length QM ⟨λj hj=>absurd hj (WZ j),rfl⟩ ?_;rintro k _ hk ⟨ZP,rfl⟩;by_cases Qj:k<ms.length
   .have dk:=QU Qj;have Zb:=J9 (show k<4611686018427387904 from ω);obtain⟨i,hi⟩:∃i,i=ms.getD k 0:=⟨_,rfl⟩;have Ir:=ms0 k Qj;rw[<- hi]at Ir;obtain⟨vC,tV⟩:=(T.I.mem i).1 Ir;have wm:=qm k Qj;rw[<- hi]at wm;rcases T.rs with ⟨h1,h2⟩|⟨lr,gr,gw,rfl,hr,Av⟩
    .rw[h2]at vC;simp at vC
    rw[<- hF]at hr;have Y0:=Qb hr;have wJ:gw i=(JB R i).cells:=Av i vC;obtain⟨r,WQ⟩:∃r,r=JB R i:=⟨_,rfl⟩;rw[<- WQ]at wJ;have M:=QiJ r x;simp only[go_sem]at wJ wm;cases CG:qY r (ZR x) with
    | false=>
     rw[CG]at M;apply Qg hb;simp only[go_sem,Qe,Qj,hm,Zg,wm,Go.undef];apply QF hb um;simp only[go_sem,Qe,ho,Ql,hr,Y0,wJ,vC];apply Jb hb cE M;apply Cs hb;repeat (refine And.intro η ?_)
     refine⟨_,Qz.frame (fr':=[(0,.ptr p 0 0 0),(3,.ptr F.length 0 0 0),(6,Qa 0),(7,QT false),(24,.ref lm gm 0 ms.length),(25,Qa ms.length),(26,Qa (k+1:Nat))]) (by simp only[go_sem,Zb]),λj hj=>?_,rfl⟩;rcases vM.1 hj with h5|rfl
     .exact ZP j h5
     .rw[<- hi,<- WQ];exact CG
    | true=>
     rw[CG]at M;have e0:Kr R (ZR x)=r.cls:=by
      unfold Kr;rw[T.I.Xh hx vC tV (by rw[<- WQ];exact CG) (λj hj kU=>?_) (λa' VI=>?_),<- WQ]
      .obtain⟨j2,e1,e2⟩:=TM j hj;rw[<- e2];exact ZP j2 (tT j2 k e1 ω)
      .rw[<- hq]at VI;cases VI
     have yu:=tS T.ok r (by rw[WQ];exact qg R default i vC);rw[e0,Qc ω];apply Qg hb;simp only[go_sem,Qe,Qj,hm,Zg,wm,Go.undef];apply QF hb um;simp only[go_sem,Qe,ho,Ql,hr,Y0,wJ,vC];apply Jb hb cE M;apply ZH hb;simp only[go_sem,Qe,ho,Ql,hr,Y0,wJ,vC];all_goals exact cD
   .have Jf:k=ms.length:=ω;have dk:=QI Qj;subst Jf;have Kj:∀j∈ms,qY (JB R j) (ZR x)=false:=λj hj=>by
     obtain⟨j2,e1,e2⟩:=TM j hj;rw[<- e2];exact ZP j2 e1
    rw[out Kj,Qd rfl];apply Qg hb;simp only[go_sem,dk];apply Qn hb;all_goals exact cD
 | some d=>
  obtain⟨a,rfl,LH,ML,SV,han⟩:=T.I.yes _ _ hq.symm;rcases T.rs with ⟨h1,h2⟩|⟨lr,gr,gw,rfl,hr,Av⟩
  .rw[h2]at LH;simp at LH
  have TN:gw a=(JB R a).cells:=Av a LH;obtain⟨ra,tW⟩:∃r,r=JB R a:=⟨_,rfl⟩;rw[<- tW]at TN;have gy:=tS T.ok ra (by rw[tW];exact qg R default a LH);have out:(∀j∈ms,j<a->qY (JB R j) (ZR x)=false)->Kr R (ZR x)=ra.cls:=λZP=>by
   unfold Kr;rw[(T.I.whole hx hq.symm ZP).2,<- tW]
  simp only[go_sem]at TN;rcases T.mo with ⟨rfl,rfl⟩|⟨lm,gm,tU,rfl,hm,qm⟩
  .rw[out (λj hj=>by cases hj),Qc ω];refine xD func147 ntmps147 results147 λbase w pl F hF Q7 hb=>?_;rw[<- hF]at ho he hr;have Ql:=Qb ho;have WK:=Qb he;have Y0:=Qb hr;simp only[go_sem];apply QF hb O7;simp only[go_sem,Qe,ho,Ql,he,WK,<- Dc];refine⟨h4,?_⟩;refine wv 0 ?_;apply Qn hb;apply Qg hb;simp only[go_sem,Qe,ho,Ql,hr,Y0,TN,LH];all_goals exact cD
  .refine xD func147 ntmps147 results147 λbase w pl F hF Q7 hb=>?_;rw[<- hF]at ho he hr hm;have Ql:=Qb ho;have WK:=Qb he;have Y0:=Qb hr;have Zg:=Qb hm;simp only[go_sem];apply QF hb O7;simp only[go_sem,Qe,ho,Ql,he,WK,<- Dc];refine⟨h4,?_⟩;refine Z3 (λk s=>(∀j,j<k->qY (JB R (ms.getD j 0)) (ZR x)=false)/\s=⟨[(0,.ptr p 0 0 0),(3,.ptr F.length 0 0 0),(6,Qa a),(7,QT true),(24,.ref lm gm 0 ms.length),(25,Qa ms.length),(26,Qa k)],F++[(⟨.one,0,4,1,λ_=>gv x⟩:Ob)]⟩) ms.length QM ⟨λj hj=>absurd hj (WZ j),rfl⟩ ?_;rintro k _ hk ⟨ZP,rfl⟩;by_cases Qj:k<ms.length
   .have dk:=QU Qj;have Zb:=J9 (show k<4611686018427387904 from ω);obtain⟨i,hi⟩:∃i,i=ms.getD k 0:=⟨_,rfl⟩;have Ir:=ms0 k Qj;rw[<- hi]at Ir;obtain⟨vC,tV⟩:=(T.I.mem i).1 Ir;have wm:=qm k Qj;rw[<- hi]at wm;have wJ:gw i=(JB R i).cells:=Av i vC;obtain⟨r,WQ⟩:∃r,r=JB R i:=⟨_,rfl⟩;rw[<- WQ]at wJ;have M:=QiJ r x;simp only[go_sem]at wJ wm;by_cases NW:a<i
    .have da:=QU NW;rw[out (λj hj hja=>by
      obtain⟨j2,e1,e2⟩:=TM j hj;rw[<- e2];exact ZP j2 (tT j2 k e1 ω)),Qc ω]
     apply Qg hb;simp only[go_sem,Qe,Qj,hm,Zg,wm,da];apply Qg hb;simp only[go_sem,Qe,ho,Ql,hr,Y0,TN,LH];all_goals exact cD
    .have da:=QI NW;cases CG:qY r (ZR x) with
     | false=>
      rw[CG]at M;apply Qg hb;simp only[go_sem,Qe,Qj,hm,Zg,wm,da];apply QF hb um;simp only[go_sem,Qe,ho,Ql,hr,Y0,wJ,vC];apply Jb hb cE M;apply Cs hb;repeat (refine And.intro η ?_)
      refine⟨_,Qz.frame (fr':=[(0,.ptr p 0 0 0),(3,.ptr F.length 0 0 0),(6,Qa a),(7,QT true),(24,.ref lm gm 0 ms.length),(25,Qa ms.length),(26,Qa (k+1:Nat))]) (by simp only[go_sem,Zb]),λj hj=>?_,rfl⟩;rcases vM.1 hj with h5|rfl
      .exact ZP j h5
      .rw[<- hi,<- WQ];exact CG
     | true=>
      rw[CG]at M;have e0:Kr R (ZR x)=r.cls:=by
       unfold Kr;rw[T.I.Xh hx vC tV (by rw[<- WQ];exact CG) (λj hj kU=>?_) (λa' VI=>?_),<- WQ]
       .obtain⟨j2,e1,e2⟩:=TM j hj;rw[<- e2];exact ZP j2 (tT j2 k e1 ω)
       .rw[<- hq]at VI;have:=Mf VI;simp only[Qa,D.raw.injEq,Value.int.injEq,vO]at this;omega
      have yu:=tS T.ok r (by rw[WQ];exact qg R default i vC);rw[e0,Qc ω];apply Qg hb;simp only[go_sem,Qe,Qj,hm,Zg,wm,da];apply QF hb um;simp only[go_sem,Qe,ho,Ql,hr,Y0,wJ,vC];apply Jb hb cE M;apply ZH hb;simp only[go_sem,Qe,ho,Ql,hr,Y0,wJ,vC];all_goals exact cD
   .have Jf:k=ms.length:=ω;have dk:=QI Qj;subst Jf;rw[out (λj hj _=>by
     obtain⟨j2,e1,e2⟩:=TM j hj;rw[<- e2];exact ZP j2 e1),Qc ω]
    apply Qg hb;simp only[go_sem,dk];apply Qg hb;simp only[go_sem,Qe,ho,Ql,hr,Y0,TN,LH];all_goals exact cD
end Go.Fg.X
namespace Go.Fg
open Go.RowKit (Below)
variable {Z:Nat->Prop}
section
variable {P:Program}{L:Z8}{base nt:Nat}{s:St}{o:Oper}
end
section
variable {P:Program}{L:Z8}{base nt:Nat}{w0:Start}{Q:Exit->St->Prop}
end
def gz:D->Bool
 | .imm _ _ _=>true
 | .ref _ _ _ _=>true
 | .nil=>true
 | _=>false
section
variable {P:Program}{L:Z8}{base nt:Nat}{s:St}{o:Oper}
end
section
variable {P:Program}{L:Z8}{base nt:Nat}{w0:Start}{Q:Exit->St->Prop}
end
def TO:D->Nat
 | .imm _ n _=>n
 | _=>0
def Qzw{h}{pl}{w}{d}{v}(r:QC Z h pl w d v)(hd:gz d=true):∃a n cap,v=.slice a n cap/\(a.isNone=true->TO d=0):=by
 cases d<;>simp only[gz,q7]at hd;all_goals first
  | (obtain⟨a,e⟩:=Dp r;exact⟨_,_,_,e,λ_=>rfl⟩)
  | (obtain⟨a,cap,_,_,_,e,h0,_⟩:=PF r;refine⟨_,_,_,e,λhn=>Nat.eq_zero_of_not_pos λhp=>?_⟩;have hq:0<_:=hp;simp only[TO]at hq;rw[h0 hq]at hn;cases hn)
  | (obtain⟨_,_,a,cap,e,_⟩:=Dq r;exact⟨_,_,_,e,λ_=>rfl⟩)
section
variable {P:Program}{L:Z8}{base nt:Nat}{w0:Start}{Q:Exit->St->Prop}
def Qzx(hL:Z5 P L){Q:Exit->St->Prop}{o:Oper}{rest:List (Oper × G)}{s:St}{t t' e a b:Nat}{x:Operand}{zt:List Value}(ho:o.op=.binOp .eql t x (.const (.slice none 0 0)) t')(hx:gz (Qo s.fr x)=true)(ht:ty L t=some ⟨.slice e,a,b,zt⟩)(hd:Zk nt o.dst=true)
  (hk:∀b:Bool,(b=true->TO (Qo s.fr x)=0)->AG P base nt w0 rest Q ⟨Za s.fr o.dst (.raw (.bool b)),s.h⟩):AG P base nt w0 ((o,none)::rest) Q s:=by
 intro Z z pl ac w r b;obtain⟨ad,n,cap,hv,hb⟩:=Qzw (r.eval x) hx;have hc:ac.eval (.const (.slice none 0 0))=.slice none 0 0:=rfl;have Ze:(execOp ac.eval o).run P w=.ok (.value (.bool ad.isNone)) w:=by
  have hu:=xi (hL _ _ ht) rfl;have he:(Op.equal t (.slice ad n cap) (.slice none 0 0)).run P w=.ok ad.isNone w:=iG λm=>by
   cases ad<;>simp[Op.equalIn,run_underlying hu]
  have hq:(eqGuard .eql t x (.const (.slice none 0 0)) (.slice ad n cap) (.slice none 0 0)).run P w=.ok () w:=by simp[eqGuard]
  simp[execOp,ho,hv,hc,Go.binOp,he,hq]
 simp only[Yx,W3,Vs];unfold Oper.wp;rw[Ze];simp only[Oper.upon_value];refine hk _ hb Z z pl _ w ?_ b;cases hdd:o.dst with
 | none=>exact r
 | some t=>rw[hdd]at hd;exact r.to (Tr.ext r.o λ_ _=>rfl) r.o (jE hd) (.cl _ _ (.raw _))
def Qzz(hL:Z5 P L){k:List Item}{dst:Option Nat}{Ei:TypeId}{pos:String}{after:Array Edge}{gd:Option (Nat × Bool)}{r:List (Oper × G)}{s:St}{t t' e a b:Nat}{x:Operand}{zt:List Value}
  (hx:gz (Qo s.fr x)=true) (ht:ty L t=some ⟨.slice e,a,b,zt⟩) (hd:Zk nt dst=true) (h1:∀b:Bool,(b=true->TO (Qo s.fr x)=0)->Qv P base nt w0 Q (.ops r::k) .normal ⟨Za s.fr dst (.raw (.bool b)),s.h⟩) :
  Qv P base nt w0 Q (.ops ((⟨dst,.binOp .eql t x (.const (.slice none 0 0)) t',Ei,pos,after,gd⟩,none)::r)::k) .normal s:=by
 simp only[Qv]at h1 ⊢;exact Qzx hL rfl hx ht hd h1
end
end Go.Fg
namespace Go.Fg.X
open Go.Proofs Go.Fg
open Go.Proofs.Tryz
@[go_sem] def EY(l:List JT):D:=.imm 9 l.length (JT.rows l)
def QzA(h:List Ob)(l:List JT)(hl:l.length<1000000):QH prog 136 h [EY l] (λd h'=>∃g,h'=h++g/\zF (λj=>h.length<=j) (h++g) 9 JT.cells d l):=by
 refine QQ func136 ntmps136 results136 λbase w pl hb=>?_;simp only[go_sem];refine Qzz yG (by simp only[go_sem];rfl) rfl rfl λb Zp=>?_;cases b with
 | true=>
  have h0:=Zp rfl;simp only[go_sem,TO]at h0;apply Qn hb;exact⟨[],(JI h).symm,.inl ⟨rfl,Di.1 h0⟩⟩
 | false=>
  apply JH hb;refine⟨ω,_,rfl,.inr ⟨h.length,_,_,rfl,QB _,KV rfl,λi hi=>?_⟩⟩;rw[xk (Jh _)];rfl
def QzB(r:JT):(TG r.want r.mask==r.want)=(vz r.Ia r.yI==r.Ia&&(vz r.Ib r.yJ==r.Ib&&(vz r.Ic r.DV==r.Ic&&vz r.DW r.Cg==r.DW))):=by
 rw[<- Bool.and_true (vz r.DW r.Cg==r.DW)];rfl
structure zG (h H:List Ob) (l:List JT) (k p:Nat) (dr:D) (le:Nat) (dm:D) (c:Nat) (es:List Xi) (ms:List Nat):Prop where
 ex:Vj h H
 o:H[p]? = some (LF dr le dm)
 eo:H[le]? = some (kQ c es)
 rs:zF (λj=>h.length<=j) H 9 JT.cells dr l
 mo:zF (λj=>h.length<=j) H 1 (λi:Nat=>[Qa i]) dm ms
 hp:h.length<=p
 he:h.length<=le
 I:Yr l k es ms
 ok:∀j,j<k->yc (JB l j)=true
def zG.app{h H}{l}{k p}{dr}{le}{dm}{c}{es}{ms}(N:zG h H l k p dr le dm c es ms)(g):zG h (H++g) l k p dr le dm c es ms:=
 ⟨N.ex.app g,(QG (Qb N.o)).trans N.o,(QG (Qb N.eo)).trans N.eo,N.rs.step λj hj h1=>⟨h1,QG hj⟩,N.mo.step λj hj h1=>⟨h1,QG hj⟩,N.hp,N.he,N.I,N.ok⟩
def zG.next{h H}{l}{k p}{dr}{le}{dm}{c}{es}{ms}(N:zG h H l k p dr le dm c es ms){H':List Ob}{tX}{c'}{es'}{tY}(hx:Vj h H')(ho:H'[p]? = some (LF dr le tX))(he:H'[le]? = some (kQ c' es'))
  (hk:∀(j:Nat) (o:Ob),H[j]? = some o->o.kd=.arr->o.sz=9->H'[j]? = some o) (hm:zF (λj=>h.length<=j) H' 1 (λi:Nat=>[Qa i]) tX tY) (I:Yr l (k+1) es' tY) (ZM:∀j,j<k+1->yc (JB l j)=true):zG h H' l (k+1) p dr le tX c' es' tY:=
 ⟨hx,ho,he,N.rs.imp id λ⟨lo,g,row,h1,h2,h3,h4⟩=>⟨lo,g,row,h1,h2,hk lo _ h3 rfl rfl,h4⟩,hm,N.hp,N.he,I,ZM⟩
def yd{H:List Ob}{a b:Nat}{o o':Ob}(h1:H[a]? = some o)(h2:H[b]? = some o')(h:o.kd≠o'.kd\/o.sz≠o'.sz):a≠b:=λe=>by
 rw[e,h2]at h1;cases h1;rcases h with h|h<;>exact h rfl
def zG.yI{h H}{l}{k p}{dr}{le}{c}{es}(N:zG h H l k p dr le .nil c es [])(hw:qz (JB l k)=false)(ZM:∀j,j<k+1->yc (JB l j)=true)(o):
  zG h (H.set p (LF dr le (.ref (H.length+2) 0 0 1))++[o,⟨.arr,0,1,1,λ_=>[Qa k]⟩,⟨.arr,0,1,1,λ_=>[Qa k]⟩]) l (k+1) p dr le (.ref (H.length+2) 0 0 1) c es ([]++[k]):=by
 have hp:=Qb N.o;have QA:p≠le:=yd N.o N.eo (.inl nofun);refine N.next ((N.ex.set N.hp _).app _) ?_ ?_ (λj o hj h1 h2=>?_) (.inr ⟨H.length+2,0,λ_=>[Qa k],rfl,by have:=N.ex.len;omega,VD (k:=2) π,λi hi=>?_⟩) (N.I.mask hw) ZM
 .rw[QG (by simpa using hp),QE hp]
 .rw[QG (by simpa using Qb N.eo),Qr QA];exact N.eo
 .rw[QG (by simpa using Qb hj),Qr (yd N.o hj (.inl (by rw[h1];nofun)))];exact hj
 .simp at hi;subst hi;rfl
def zG.yJ{h H:List Ob}{l}{k p}{dr}{le}{c}{es}{ms:List Nat}{lo g}{row}(N:zG h H l k p dr le (.ref lo g 0 ms.length) c es ms)(Zq:h.length<=lo)(hl:H[lo]? = some ⟨.arr,g,1,ms.length,row⟩)(ZG:∀i,i<ms.length->row i=[Qa ((ms.getD i default:Nat):Int)])
  (hw:qz (JB l k)=false) (ZM:∀j,j<k+1->yc (JB l j)=true) (o o':Ob) :
  zG h ((H.set lo ⟨.arr,g+1,1,ms.length+1,Kt ms.length 0 row λ_=>[Qa k]⟩).set p (LF dr le (.ref lo (g+1) 0 (ms.length+1)))++[o,o']) l (k+1) p dr le (.ref lo (g+1) 0 (ms.length+1)) c es (ms++[k]):=by
 have hp:=Qb N.o;have Xy:=Qb hl;have QA:p≠le:=yd N.o N.eo (.inl nofun);have KJ:lo≠p:=yd hl N.o (.inl nofun);have KO:lo≠le:=yd hl N.eo (.inl nofun);refine N.next (((N.ex.set Zq _).set N.hp _).app _) ?_ ?_ (λj o hj h1 h2=>?_) (.inr ⟨lo,g+1,Kt ms.length 0 row λ_=>[Qa k],π,Zq,?_,λi hi=>?_⟩) (N.I.mask hw) ZM
 .rw[QG (by simpa using hp),QE (by simpa using hp)]
 .rw[QG (by simpa using Qb N.eo),Qr QA,Qr KO];exact N.eo
 .rw[QG (by simpa using Qb hj),Qr (yd N.o hj (.inl (by rw[h1];nofun))),Qr (yd hl hj (.inr (by rw[h2];show (1:Nat)≠9;decide)))];exact hj
 .rw[QG (by simpa using Xy),Qr (Q3 KJ),QE Xy];simp
 .simp at hi;by_cases qh:i<ms.length
  .rw[Az qh,JD,ZG i qh];simp[qh,JC qh]
  .have:i=ms.length:=ω;subst this;rw[xk (QB _)];simp
def zG.new{h H}{l}{k p:Nat}{dr}{le}{dm}{c}{es}{ms}(N:zG h H l k p dr le dm c es ms)(hw:qz (JB l k)=true)(hn:WT es (JB l k).want=none)(ZM:∀j,j<k+1->yc (JB l j)=true)(o):
  zG h (H.set le (kQ (c+1) (es++[⟨(JB l k).want,Qa k,c⟩]))++[o]) l (k+1) p dr le dm (c+1) (es++[⟨(JB l k).want,Qa k,c⟩]) ms:=by
 have hl:=Qb N.eo;have keep:∀(j:Nat) (o':Ob),H[j]? = some o'->o'.kd≠.map->(H.set le (kQ (c+1) (es++[⟨(JB l k).want,Qa k,c⟩]))++[o])[j]? = some o':=λj o' hj h1=>by
  rw[QG (by simpa using Qb hj),Qr (yd N.eo hj (.inl (Q3 h1)))];exact hj
 refine N.next ((N.ex.set N.he _).app _) (keep _ _ N.o nofun) ?_ (λj o' hj h1 h2=>keep j o' hj (by rw[h1];nofun)) (N.mo.imp id λ⟨lo,g,row,h1,h2,h3,h4⟩=>⟨lo,g,row,h1,h2,keep _ _ h3 nofun,h4⟩) (N.I.new hw hn c) ZM;rw[QG (by simpa using hl),QE hl]
def QiM(h)(l:List JT)(hl:l.length<1000000):
  QH prog 81 h [EY l] (λd h'=>∃g,h'=h++g/\(qy l=0->∃p,d=.tup [.ptr p 0 0 0,Qa 0]/\G1 (λj=>h.length<=j) (h++g) p l)/\(qy l≠0->d=.tup [.raw (.pointer none),Qa (qy l)])):=by
 by_cases GG:32<l.length
 .have d0:decide ((32:Int)<(l.length:Int))=true:=QU ω;have e:qy l=2:=by unfold qy;rw[Qd GG]
  rw[e];refine QQ func81 ntmps81 results81 λbase w pl hb=>?_;simp only[go_sem,d0];exact⟨[],(JI h).symm⟩
 .have d0:decide ((32:Int)<(l.length:Int))=false:=QI ω;refine QQ func81 ntmps81 results81 λbase w pl hb=>?_;simp only[go_sem,d0];refine Zw hb Qp6 (QzA h l hl) λd h1 hR=>?_;obtain⟨g1,rfl,XR⟩:=hR;have e0:=QaJ .i64;simp only[QK]at e0;have hcd:XP d=some [d]:=by rcases XR with ⟨rfl,_⟩|⟨_,_,_,rfl,_⟩<;>rfl
  have hod:d.Vn=true:=by rcases XR with ⟨rfl,_⟩|⟨_,_,_,rfl,_⟩<;>rfl
  apply Qg hb;simp only[go_sem,Qe,hcd,hod];obtain⟨H,hH⟩:∃H,H=h++(g1++[QK .i64 0 [],LF d (h.length+g1.length) .nil]):=⟨_,rfl⟩;have N0:zG h H l 0 (h.length+(g1.length+1)) d (h.length+g1.length) .nil 0 [] []:=by
   rw[<- V9]at hH;subst hH;refine⟨((Vj.refl h).app g1).app _,?_,?_,XR.step λj hj h1=>⟨h1,QG hj⟩,.inl ⟨rfl,rfl⟩,ω,ω,Yr.nil l,λj hj=>absurd hj (WZ j)⟩
   .rw[show h.length+(g1.length+1)=(h++g1).length+1 by simp;omega];exact VD (k:=1) rfl
   .rw[<- QaJ .i64,show h.length+g1.length=(h++g1).length by simp];exact KV rfl
  simp only[go_sem]at hH;rw[<- hH];obtain⟨p,hp⟩:∃p,p=h.length+(g1.length+1):=⟨_,rfl⟩;rw[<- hp]at N0 ⊢;clear hH;refine Z3 (λk s=>∃H dr le dm c es ms,zG h H l k p dr le dm c es ms/\s=⟨[(4,.ptr p 0 0 0),(17,EY l),(18,Qa l.length),(19,Qa k)],H⟩) l.length QM ⟨H,_,_,_,_,_,_,N0,rfl⟩ ?_;clear N0 XR hcd hod e0 H hp d g1;rintro k _ hk ⟨H,dr,le,dm,c,es,ms,N,rfl⟩;by_cases Qj:k<l.length
  .have dk:=QU Qj;obtain⟨r,hr⟩:∃r,r=JB l k:=⟨_,rfl⟩;have Jy:l.getD k default=r:=hr.symm;have WH:r∈l:=by rw[hr];exact qg l default k Qj
   have Zb:=J9 (show k<4611686018427387904 from ω);have ho:=N.o;have Ql:=Qb ho;have he:=N.eo;have WK:=Qb he;have h4:=N.I.four;have hu:=QzB r;have bad:yc r=false->qy l=1:=λhb=>by
    unfold qy;rw[Qc GG,Qc];intro Kj;have:=XK.1 Kj r WH;rw[hb]at this;cases this
   have U:=QiI r.Ia r.Ib r.Ic r.DW r.yI r.yJ r.DV r.Cg;by_cases c1:r.cls<1
   .have d1:=QU c1;rw[bad (by unfold yc;rw[QI (show ¬1<=r.cls from ω)];rfl)];apply Qg hb;simp only[go_sem,Qe,Qj,Jy];apply QF hb uy;simp only[go_sem,Qe,d1,Go.undef];exact N.ex.app _
   have d1:=QI c1;by_cases c2:65536<r.cls
   .have d2:=QU c2;rw[bad (by unfold yc;rw[QI (show ¬r.cls<=65536 from ω),Bool.and_false];rfl)];apply Qg hb;simp only[go_sem,Qe,Qj,Jy];apply QF hb uy;simp only[go_sem,Qe,d1,d2,Go.undef];exact N.ex.app _
   have d2:=QI c2;cases AT:TG r.want r.mask==r.want with
   | false=>
    rw[bad (by unfold yc;rw[AT,Bool.and_false])];rw[AT]at hu;apply Qg hb;simp only[go_sem,Qe,Qj,Jy];apply QF hb uy;simp only[go_sem,Qe,d1,d2];apply Jb hb mO U;apply ZH hb;simp only[go_sem,Qe,<- hu];exact N.ex.app _
   | true=>
    rw[AT]at hu;have ZM:∀j,j<k+1->yc (JB l j)=true:=λj hj=>by
     rcases vM.1 hj with h5|rfl
     .exact N.ok j h5
     .rw[<- hr];unfold yc;rw[AT,QU (show 1<=r.cls from ω),QU (show r.cls<=65536 from ω)];rfl
    obtain⟨q,hq⟩:∃q,q=WT es r.want:=⟨_,rfl⟩;have Dc:=hq;simp only[JT.want]at Dc;have hw:qz r=(r.yI==65535&&(r.yJ==65535&&(r.DV==65535&&r.Cg==65535))):=rfl;obtain⟨b,ZB⟩:∃b,b=qz r:=⟨_,rfl⟩;rw[<- ZB]at hw;apply Qg hb;simp only[go_sem,Qe,Qj,Jy];apply QF hb uy;simp only[go_sem,Qe,d1,d2];apply Jb hb mO U;apply ZH hb;simp only[go_sem,Qe,<- hu];cases q with
    | none=>
     apply QF hb [0,1,2,3,4,5,6,7,8,9,10,11];simp only[go_sem,Qe,ho,Ql,he,WK,<- Dc];refine⟨h4,?_⟩;apply QF hb [0,1,1002,3,4];simp only[go_sem,Qe];apply Jb hb Qdj QiH;apply ZH hb;simp only[go_sem,Qe,<- hw];cases b with
     | false=>
      rcases N.mo with ⟨rfl,rfl⟩|⟨lm,gm,tU,rfl,XF,hm,qm⟩
      .have N2:=N.yI (by rw[<- hr,<- ZB]) ZM ⟨.one,0,9,1,λ_=>r.cells⟩;simp only[go_sem,Qe,ho,Ql];refine⟨Qj,_,Qz.frame (fr':=[(4,.ptr p 0 0 0),(17,EY l),(18,Qa l.length),(19,Qa (k+1:Nat))]) (by simp only[go_sem,Zb]),_,_,_,_,_,_,_,N2,rfl⟩
      .have N2:=N.yJ XF hm qm (by rw[<- hr,<- ZB]) ZM ⟨.one,0,9,1,λ_=>r.cells⟩ ⟨.arr,0,1,1,λ_=>[Qa k]⟩;have Zg:=Qb hm;have Es:lm≠p:=yd hm ho (.inl nofun);have tZ:ms.length<=4294967295:=by
        have:=inc_le ms k 0 N.I.inc λj hj=>⟨Jh j,((N.I.mem j).1 hj).1⟩;omega
       have QzC:ms.length+1<=4294967295:=by
        have:=inc_le ms k 0 N.I.inc λj hj=>⟨Jh j,((N.I.mem j).1 hj).1⟩;omega
       simp only[go_sem,Qe,ho,Ql,hm,Zg,Qr Es,tZ];repeat (refine And.intro η ?_)
       refine⟨_,Qz.frame (fr':=[(4,.ptr p 0 0 0),(17,EY l),(18,Qa l.length),(19,Qa (k+1:Nat))]) (by simp only[go_sem,Zb]),_,_,_,_,_,_,_,N2,rfl⟩
     | true=>
      simp only[go_sem];apply QF hb O1;simp only[go_sem,Qe,ho,Ql,he,WK,<- Dc];have N2:=N.new (by rw[<- hr,<- ZB]) (by rw[<- hr];exact hq.symm) ZM ⟨.one,0,9,1,λ_=>r.cells⟩;rw[<- hr]at N2;refine⟨h4,Qj,_,Qz.frame (fr':=[(4,.ptr p 0 0 0),(17,EY l),(18,Qa l.length),(19,Qa (k+1:Nat))]) (by simp only[go_sem,Zb]),_,_,_,_,_,_,_,N2,rfl⟩
    | some d=>
     apply QF hb [0,1,2,3,4,5,6,7,8,9,10,11];simp only[go_sem,Qe,ho,Ql,he,WK,<- Dc];refine⟨h4,?_⟩;apply QF hb [0,1,1002,3,4];simp only[go_sem,Qe];apply Jb hb Qdj QiH;apply ZH hb;simp only[go_sem,Qe,<- hw];cases b with
     | false=>
      rcases N.mo with ⟨rfl,rfl⟩|⟨lm,gm,tU,rfl,XF,hm,qm⟩
      .have N2:=N.yI (by rw[<- hr,<- ZB]) ZM ⟨.one,0,9,1,λ_=>r.cells⟩;simp only[go_sem,Qe,ho,Ql];refine⟨Qj,_,Qz.frame (fr':=[(4,.ptr p 0 0 0),(17,EY l),(18,Qa l.length),(19,Qa (k+1:Nat))]) (by simp only[go_sem,Zb]),_,_,_,_,_,_,_,N2,rfl⟩
      .have N2:=N.yJ XF hm qm (by rw[<- hr,<- ZB]) ZM ⟨.one,0,9,1,λ_=>r.cells⟩ ⟨.arr,0,1,1,λ_=>[Qa k]⟩;have Zg:=Qb hm;have Es:lm≠p:=yd hm ho (.inl nofun);have tZ:ms.length<=4294967295:=by
        have:=inc_le ms k 0 N.I.inc λj hj=>⟨Jh j,((N.I.mem j).1 hj).1⟩;omega
       have QzC:ms.length+1<=4294967295:=by
        have:=inc_le ms k 0 N.I.inc λj hj=>⟨Jh j,((N.I.mem j).1 hj).1⟩;omega
       simp only[go_sem,Qe,ho,Ql,hm,Zg,Qr Es,tZ];repeat (refine And.intro η ?_)
       refine⟨_,Qz.frame (fr':=[(4,.ptr p 0 0 0),(17,EY l),(18,Qa l.length),(19,Qa (k+1:Nat))]) (by simp only[go_sem,Zb]),_,_,_,_,_,_,_,N2,rfl⟩
     | true=>
      simp only[go_sem];have N1:=N.app [⟨.one,0,9,1,λ_=>r.cells⟩];have N2:zG h (H++[⟨.one,0,9,1,λ_=>r.cells⟩]) l (k+1) p dr le dm c es ms:=⟨N1.ex,N1.o,N1.eo,N1.rs,N1.mo,N1.hp,N1.he,N.I.there (by rw[<- hr,<- ZB]) (by rw[<- hr,<- hq];rfl),ZM⟩;refine⟨Qj,_,Qz.frame (fr':=[(4,.ptr p 0 0 0),(17,EY l),(18,Qa l.length),(19,Qa (k+1:Nat))]) (by simp only[go_sem,Zb]),_,_,_,_,_,_,_,N2,rfl⟩
  .have Jf:k=l.length:=ω;have dk:=QI Qj;subst Jf;have e0:qy l=0:=by
    unfold qy;rw[Qc GG,Qd];rw[XK];intro r hr;obtain⟨j,hj,e⟩:=wZ hr;have:=N.ok j hj;unfold JB at this;rw[Q5,QP hj]at this;rw[<- e];exact this
   apply Qg hb;simp only[go_sem,dk];apply Qn hb;obtain⟨g,rfl⟩:=N.ex;refine⟨g,rfl,λ_=>⟨p,rfl,dr,le,dm,c,es,ms,N.o,N.eo,N.rs,N.mo,N.hp,N.he,N.I,e0⟩,λh=>absurd e0 h⟩
@[go_sem] def Ag(d:D):Ob:=⟨.one,0,1,1,λ_=>[d]⟩
structure q5 (n:Nat) (own:Nat->Tag) (tw:Nat->TT) (h:List Ob) (bp bo op:Nat) (L:List Ev):Prop where
 hp:h[bp]? = some (Ag (Qa op))
 ho:∃d,h[bo]? = some (Ag d)/\zF (λl=>n<=l/\own l=.no/\tw l=.no/\l≠bp/\l≠bo) h 12 Ev.cells d L
 np:n<=bp
 no:n<=bo
 op:own bp=.no
 oo:own bo=.no
 tp:tw bp=.no
 to:tw bo=.no
 ne:bp≠bo
def q5.yf{n}{own own'}{tw Jg}{h h':List Ob}{bp bo op}{L}(E:q5 n own tw h bp bo op L)(D:Jo h.length own tw h own' Jg h'):q5 n own' Jg h' bp bo op L:=by
 obtain⟨d,h1,h2⟩:=E.ho;have lp:=Qb E.hp;have lo:=Qb h1;exact⟨(D.keep _ lp E.op E.tp).trans E.hp,⟨d,(D.keep _ lo E.oo E.to).trans h1,h2.step λj hj ⟨a,b,c,e,f⟩=>⟨⟨a,(D.s1 j hj).trans b,(D.s2 j hj).trans c,e,f⟩,D.keep j hj b c⟩⟩,E.np,E.no,(D.s1 _ lp).trans E.op,(D.s1 _ lo).trans E.oo,(D.s2 _ lp).trans E.tp,(D.s2 _ lo).trans E.to,E.ne⟩
def Jo.Yd{m n}{own own'}{tw Jg}{h h'}(hm:m<=n)(D:Jo n own tw h own' Jg h'):Jo m own tw h own' Jg h':=⟨D.s1,D.s2,λl hl=>D.keep l (kG hl hm),D.my,D.len⟩
def QzD{n}{own}{tw}{h h':List Ob}{bo lo}(hn:n<=bo)(h1:own bo=.no)(h2:tw bo=.no)(hl:lo<h.length->n<=lo/\own lo=.no/\tw lo=.no)(hh:n<=h.length)(len:h.length<=h'.length)
  (k:∀j,j<h.length->j≠bo->j≠lo->h'[j]? = h[j]?):Jo n own tw h (QV own h .no) (Z4 tw h .no) h'/\gp own tw h (QV own h .no) (Z4 tw h .no) h':=by
 refine⟨⟨λl hl=>Kg hl,λl hl=>Vh hl,λl Jp _ _=>k l ω ω λe=>?_,λl Qb hm=>k l Qb (λe=>by rw[e,h2]at hm;cases hm) λe=>?_,len⟩,λl Qb=>⟨λhv=>⟨Kg Qb,k l Qb (λe=>hv.1 (by rw[e,h1])) λe=>?_⟩,λhv _=>⟨Vh Qb,k l Qb (λe=>hv (by rw[e,h2])) λe=>?_⟩⟩⟩
 .have:=(hl ω).1;omega
 .rw[e,(hl ω).2.2]at hm;cases hm
 .exact hv.1 (by rw[e];exact(hl ω).2.1)
 .exact hv (by rw[e];exact(hl ω).2.2)
def gA{own}{tw}{h}(ap:∀l,tw l≠.no->own l=.no):∀l,Z4 tw h .no l≠.no->QV own h .no l=.no:=λl hl=>by
 by_cases h1:l<h.length
 .rw[Vh h1]at hl;rw[Kg h1];exact ap l hl
 .exact jj ω
def QiP{n}{own}{tw}{h:List Ob}{bp bo op}{L:List Ev}(E:q5 n own tw h bp bo op L)(hn:n<=h.length)(hL:L.length<1000000000)(e:Ev):
  QH prog 83 h [.agg e.cells,.ptr bp 0 0 0,.ptr bo 0 0 0] (λd h'=>d=.tup []/\q5 n (QV own h .no) (Z4 tw h .no) h' bp bo op (L++[{ e with op:=op }])/\Jo n own tw h (QV own h .no) (Z4 tw h .no) h'/\gp own tw h (QV own h .no) (Z4 tw h .no) h'):=by
 have hp:=E.hp;obtain⟨d,ho,hd⟩:=E.ho;have QA:=E.ne;have lp:=Qb hp;have lo:=Qb ho;have fin:∀(h':List Ob) (d':D) (sl:Nat),h'[bp]? = some (Ag (Qa op))->h'[bo]? = some (Ag d')->zF (λl=>n<=l/\QV own h .no l=.no/\Z4 tw h .no l=.no/\l≠bp/\l≠bo) h' 12 Ev.cells d' (L++[{ e with op:=op }])->(sl<h.length->n<=sl/\own sl=.no/\tw sl=.no)->h.length<=h'.length ->
   (∀j,j<h.length->j≠bo->j≠sl->h'[j]? = h[j]?)->q5 n (QV own h .no) (Z4 tw h .no) h' bp bo op (L++[{ e with op:=op }])/\Jo n own tw h (QV own h .no) (Z4 tw h .no) h'/\gp own tw h (QV own h .no) (Z4 tw h .no) h':=λh' d' sl a1 a2 a3 a4 a5 a6=>
  ⟨⟨a1,⟨d',a2,a3⟩,E.np,E.no,(Kg lp).trans E.op,(Kg lo).trans E.oo,(Vh lp).trans E.tp,(Vh lo).trans E.to,E.ne⟩,QzD E.no E.oo E.to a4 hn a5 a6⟩
 rcases hd with ⟨rfl,rfl⟩|⟨sl,g,row,rfl,⟨s1,s2,s3,s4,s5⟩,hs,hr⟩
 .have fin:=fin (h.set bo (Ag (.ref (h.length+2) 0 0 1))++[⟨.one,0,12,1,λ_=>({ e with op:=op }:Ev).cells⟩,⟨.arr,0,12,1,λ_=>({ e with op:=op }:Ev).cells⟩,⟨.arr,0,12,1,λ_=>({ e with op:=op }:Ev).cells⟩]) (.ref (h.length+2) 0 0 1) h.length
   (by rw[QG (by simpa using lp),Qr QA.symm];exact hp) (by rw[QG (by simpa using lo),QE lo])
   (.inr ⟨h.length+2,0,λ_=>({ e with op:=op }:Ev).cells,rfl,⟨ω,jj ω,EW ω,ω,ω⟩,VD (k:=2) π,λi hi=>by
    simp at hi;subst hi;rfl⟩) (λh=>absurd h (Mb _)) π (λj hj h1 h2=>by rw[QG (by simpa using hj),Qr (Q3 h1)])
  refine QQ func83 ntmps83 results83 λbase w pl hb=>?_;have OK:=Qb hp;have Ql:=Qb ho;simp only[go_sem,Qe,hp,OK,ho,Ql];simp only[go_sem]at fin ⊢;exact fin
 .have GQ:=Qb hs;have TA:L.length<=4294967295:=ω;have fR:L.length+1<=4294967295:=ω;have fin:=fin ((h.set sl ⟨.arr,g+1,12,L.length+1,Kt L.length 0 row λ_=>({ e with op:=op }:Ev).cells⟩).set bo (Ag (.ref sl (g+1) 0 (L.length+1)))++[⟨.one,0,12,1,λ_=>({ e with op:=op }:Ev).cells⟩,⟨.arr,0,12,1,λ_=>({ e with op:=op }:Ev).cells⟩]) (.ref sl (g+1) 0 (L.length+1)) sl
   (by rw[QG (by simpa using lp),Qr QA.symm,Qr s4];exact hp) (by rw[QG (by simpa using lo),QE (by simpa using lo)])
   (.inr ⟨sl,g+1,Kt L.length 0 row λ_=>({ e with op:=op }:Ev).cells,π,⟨s1,(Kg GQ).trans s2,(Vh GQ).trans s3,s4,s5⟩,by rw[QG (by simpa using GQ),Qr s5.symm,QE GQ];simp,λi hi=>by
    simp at hi;by_cases qh:i<L.length
    .rw[Az qh,JD,hr i qh];simp[qh,JC qh]
    .have:i=L.length:=ω;subst this;rw[xk (QB _)];simp⟩) (λ_=>⟨s1,s2,s3⟩) π (λj hj h1 h2=>by rw[QG (by simpa using hj),Qr (Q3 h1),Qr (Q3 h2)])
  refine QQ func83 ntmps83 results83 λbase w pl hb=>?_;have OK:=Qb hp;have Ql:=Qb ho;have GQ:=Qb hs;simp only[go_sem,Qe,hp,OK,ho,Ql,hs,GQ,Qr s5,TA];simp only[go_sem]at fin ⊢;repeat (refine And.intro η ?_)
  exact fin
def QzE{own}{tw}{h}{p}{S}(T:Wr own tw h p S):Q6 prog 151 h [.ptr p 0 0 0] (λd=>d=u64 (Zs S)):=by
 obtain⟨ps,pl,pr,pt,T⟩:=T;have ho:=ZC T.o;obtain⟨a,b,c,hl⟩:=T.ln;have hl:=ZC hl;obtain⟨L,C⟩:=T.co.ex;have hD:=QhI C.ro T.co.I;have hU:=λ(F:List Ob) (hF:F=h.map Ob.ro)=>Qzg (h:=F) (KC hF _ _ hl);have hD:=λ(F:List Ob) (hF:F=h.map Ob.ro)=>QhI (C.ro.more (KC hF)) T.co.I;clear T C;unfold Zs;obtain⟨v,hv⟩:∃v,v=zB S.M:=⟨_,rfl⟩;rw[<- hv]at hD ⊢;refine xD func151 ntmps151 results151 λbase w pl F hF Q7 hb=>?_;rw[<- hF]at ho hl;have Ql:=Qb ho;have df:=Qb hl;simp only[go_sem];apply QF hb [0,1,2,3,4,5,6,7,9,10,11,12,1008,1013,1014,15];simp only[go_sem,ho];apply Wz hb Qqt (hU F hF);apply ZA hb;apply Wz hb Qqu (hD F hF);apply ZA hb;apply Jb hb Qqs (Qzo S.Qf S.XI v);apply ZA hb;all_goals exact cD
def QiQ{n}{own}{tw}{h:List Ob}{p}{S}(T:Wr own tw h p S)(V:Jd S){bp bo op}{L:List Ev}(E:q5 n own tw h bp bo op L)(hn:n<=h.length)(hL:L.length<100000000):
  QH prog 150 h [.ptr p 0 0 0,u64 S.Qf,.clo 83 0 [.ptr bp 0 0 0,.ptr bo 0 0 0]] (λd h'=>d=.tup []/\∃own' Jg,Wr own' Jg h' p (Js S op S.Qf).1/\q5 n own' Jg h' bp bo op (L++(Js S op S.Qf).2)/\Jo n own tw h own' Jg h'):=by
 obtain⟨ps,lp,pr,pt,T⟩:=T;have ho:=T.o;obtain⟨a,b,c,hl⟩:=T.ln;have gB:=tR (ZC hl) S.Qf;by_cases hu:S.XI<=S.Qf
 .have du:=QU hu;rw[du]at gB;refine QQ func150 ntmps150 results150 λbase w pl hb=>?_;have Ql:=Qb ho;simp only[go_sem,ho];apply ZQ hb Qgz gB;apply Qg hb;simp only[go_sem,ho];refine Zw hb Qqp (QyH T.co S.Qf) λd h1 hR=>?_;obtain⟨rfl,Jl,C1,D1⟩:=hR;have T1:=T.core D1 C1 (LD S.M S.Qf);have K1:Jo h.length own tw h Jl (Z4 tw h .no) h1:=Jo.core T.ap (QB _) D1;obtain⟨Vr,QzF⟩:∃t,t=Z4 tw h .no:=⟨_,rfl⟩;rw[<- QzF]at T1 K1;have E1:=E.yf K1;have fA:=K1.len;obtain⟨j,hj⟩:∃j,j=Kq S.M S.Qf:=⟨_,rfl⟩;obtain⟨k,hk⟩:∃k,k=Kh S.M S.Qf:=⟨_,rfl⟩;obtain⟨b,Xf⟩:∃b,b=Yq S.M S.Qf:=⟨_,rfl⟩;cases ht:Xt S.M S.Qf with
  | false=>
   have e:Js S op S.Qf=({ S with M:=takeN S.M S.Qf },[]):=by unfold Js;rw[Qc ω,Qc (by rw[ht];exact Ao)]
   rw[e,<- hj,<- hk,<- Xf];apply JH hb;have T2:=T1.BG [⟨.one,0,8,1,λ_=>qu j k b⟩];have K2:=Jo.app (n:=h1.length) Jl Vr h1 [⟨.one,0,8,1,λ_=>qu j k b⟩] .my (QB _);exact⟨_,_,⟨_,_,_,_,T2⟩,E1.yf K2,(K1.Yd hn).trans hn (K2.Yd ω)⟩
  | true=>
   have hlen:=V.take_len ht;have vS:=gh V.K hlen;rw[<- hk]at hlen vS;have XF:=V.K.l2;have Z7:=V.cl;obtain⟨done,QiR⟩:∃d,d=S.Qf+YQ S.M.lk k.len:=⟨_,rfl⟩;have e:Js S op S.Qf=({ S with M:=takeN S.M S.Qf,XI:=done,st:=YP S.st j done k.len b },[vA op b S.Qf done j k]):=by
    unfold Js;rw[Qc ω,Qd ht,<- hk,<- QiR,<- hj,<- Xf]
   rw[e,<- hj,<- hk,<- Xf];have T2:=T1.BG [⟨.one,0,8,1,λ_=>qu j k b⟩];have K2:=K1.trans (QB _) ((Jo.app (n:=h1.length) Jl Vr h1 [⟨.one,0,8,1,λ_=>qu j k b⟩] .my (QB _)).Yd fA);have E2:=E.yf K2;have ZB:(h1++[(⟨.one,0,8,1,λ_=>qu j k b⟩:Ob)])[h1.length]? = some ⟨.one,0,8,1,λ_=>qu j k b⟩:=KV rfl;have n2:QV Jl h1 .no h1.length=.no:=jj (QB _);have m2:Z4 Vr h1 .my h1.length=.my:=EW (QB _);apply JH hb;obtain⟨h2,OL⟩:∃h2,h2=h1++[(⟨.one,0,8,1,λ_=>qu j k b⟩:Ob)]:=⟨_,rfl⟩;rw[<- OL]at T2 K2 E2 ZB;simp only[go_sem,qu]at OL;rw[<- OL];clear OL;generalize QV Jl h1 .no=JW at T2 K2 E2 n2;generalize Z4 Vr h1 .my=Xd at T2 K2 E2 m2;have K6:=T2.o;have EL:=Qb K6;have CQ:=Qb ZB;obtain⟨a2,b2,c2,Jp⟩:=T2.ln;have YL:(takeN S.M S.Qf).lk=S.M.lk:=LD S.M S.Qf;have gC:=Qzk h2 Jp (by show 1<=(takeN S.M S.Qf).lk.t;rw[YL];exact V.K.t1) (by show (takeN S.M S.Qf).lk.t<=65536;rw[YL];exact V.K.t2) Z7 hu k ⟨hlen.1,ω⟩;have QzG:S.Qf+k.len.toNat*(takeN S.M S.Qf).lk.t.toNat=done:=by rw[YL,QiR];rfl
   have gC:QH prog 189 h2 [.ptr lp 0 0 0,u64 S.Qf,.agg k.cells] (λd h'=>d=.tup [u64 done,Qa 0]/\∃a' b' c' g,h'=h2.set lp (zE a' b' c' (takeN S.M S.Qf).lk.t done)++g):=by
    rw[<- QzG];exact gC
   simp only[go_sem,qu]at ZB;apply Vk [7] hb [0,1,2,3,4,5,6,1007,8,9,10,11,12] [];simp only[go_sem,K6,ZB];refine jZ hb Qqq gC λd h3 hR=>?_;obtain⟨rfl,a3,b3,c3,g3,TP⟩:=hR;have t2l:=T2.tl;have s3:Step (λl=>Xd l=.ln) h2 h3:=by
    rw[TP];exact⟨λl hl QA=>by rw[QG (by simpa using hl),Qr (λe=>QA (by rw[<- e];exact t2l))],π⟩
   have Cz:h3[lp]? = some (zE a3 b3 c3 (takeN S.M S.Qf).lk.t done):=by rw[TP,QG (by simpa using Qb Jp),QE (Qb Jp)]
   have T3:=T2.link s3 Cz;have K3:=K2.trans (QB _) ((Jo.part (n:=h2.length) (own:=JW) (t:=.ln) ⟨π,π⟩ (QB _) s3).Yd K2.len);have E3:=E.yf K3;have qn:h3[h1.length]? = some _:=(s3.keep _ CQ (by rw[m2];simp)).trans ZB;have n3:QV JW h2 .no h1.length=.no:=(Kg CQ).trans n2;have m3:Z4 Xd h2 .ln h1.length=.my:=(Vh CQ).trans m2;clear TP gC;generalize QV JW h2 .no=y9 at T3 K3 E3 n3;generalize Z4 Xd h2 .ln=gD at T3 K3 E3 m3;have X1:=T3.o;have Li:=Qb X1;have S5:=Qb qn;apply ZA hb;have QzI:=Qzs T3.st j (done:=done) ω (bytes:=k.len) hlen.1 ω b;apply Vk [12] hb [0,1,2,3,4,5,6,7,8,9,10,11,1012] [];simp only[go_sem,X1,qn];refine jZ hb Qqr QzI λd h4 hR=>?_;obtain⟨s4,ua⟩:=hR;have T4:=T3.stat s4 ua;have K4:=K3.trans (QB _) ((Jo.part (n:=h3.length) (own:=y9) (t:=.st) ⟨π,π⟩ (QB _) s4).Yd K3.len);have E4:=E.yf K4;have CI:h4[h1.length]? = some _:=(s4.keep _ S5 (by rw[m3];simp)).trans qn;generalize QV y9 h3 .no=CS at T4 K4 E4;generalize Z4 gD h3 .st=G3 at T4 K4 E4;have QGo:=Qb CI;apply ZH hb;simp only[go_sem,CI];have TC:n<=h4.length:=Ki hn K4.len;refine YB hb Qdd rfl ?_ (QiP E4 TC ω (vA 0 b S.Qf done j k)) rfl λd h5 hR=>?_
   .simp only[go_sem,vA]
   obtain⟨rfl,E5,K5,st5⟩:=hR;have T5:=T4.step st5 (gA T4.ap);have AD:({ vA 0 b S.Qf done j k with op:=(op:Int) }:Ev)=vA op b S.Qf done j k:=rfl;rw[AD]at E5;apply Qn hb;exact⟨_,_,⟨_,_,_,_,T5⟩,E5,(K4.Yd hn).trans hn K5⟩
 .have du:=QI hu;rw[du]at gB;have e:Js S op S.Qf=(S,[]):=by unfold Js;rw[Qd ω]
  rw[e];refine QQ func150 ntmps150 results150 λbase w pl hb=>?_;have Ql:=Qb ho;simp only[go_sem,ho];apply ZQ hb Qgz gB;apply Qn hb;exact⟨own,tw,⟨_,_,_,_,T⟩,E,Jo.refl n own tw h⟩
@[go_sem] def kv.cells(r:kv):List D:=[Qa r.err,Qa r.place,Qa r.cls]
def q5.loc{n}{own}{tw}{h:List Ob}{bp bo op}{L}(E:q5 n own tw h bp bo op L){l}{o1:Ob}(hl:h[l]? = some o1)(hk:o1.kd≠.arr)(h1:l≠bp)(h2:l≠bo)(o):q5 n own tw (h.set l o) bp bo op L:=by
 obtain⟨d,a1,a2⟩:=E.ho;exact⟨by rw[Qr h1];exact E.hp,⟨d,by rw[Qr h2];exact a1,a2.imp id λ⟨lo,g,row,b1,b2,b3,b4⟩=>⟨lo,g,row,b1,b2,by rw[Qr (yd hl b3 (.inl hk))];exact b3,b4⟩⟩,E.np,E.no,E.op,E.oo,E.tp,E.to,E.ne⟩
def Jo.CK{n}{own own'}{tw Jg}{h H:List Ob}(D:Jo n own tw h own' Jg H){l}(hl:n<=l)(hm:h.length<=l)(o):Jo n own tw h own' Jg (H.set l o):=⟨D.s1,D.s2,λj h1 h2 h3=>by rw[Qr ω];exact D.keep j h1 h2 h3,λj h1 h2=>by rw[Qr ω];exact D.my j h1 h2,by simpa using D.len⟩
def QzK{n}{own}{tw}{h:List Ob}{p}{S:ZF}(T:Wr own tw h p S)(V:Jd S){bp bo op}{L:List Ev}(E:q5 n own tw h bp bo op L)(hn:n<=h.length)(hL:L.length<10000000)(gy:∀k,(S.st.Jc k).length<1000000)(x)(hx:TI x):
  QH prog 86 h [.ptr p 0 0 0,.agg x.cells,.clo 83 0 [.ptr bp 0 0 0,.ptr bo 0 0 0]] (λd h'=>d=.agg (YR S op x).r.cells/\∃own' Jg,Wr own' Jg h' p (YR S op x).S/\q5 n own' Jg h' bp bo op (L++(YR S op x).l)/\Jo n own tw h own' Jg h'):=by
 obtain⟨ps,lp,pr,pt,T⟩:=T;have Z7:=V.cl;have T1:=T.BG [⟨.one,0,6,1,λ_=>x.cells⟩,⟨.one,0,3,1,λ_=>[Qa 0,Qa 0,Qa 0]⟩];have K1:=Jo.app (n:=h.length) own tw h [⟨.one,0,6,1,λ_=>x.cells⟩,⟨.one,0,3,1,λ_=>[Qa 0,Qa 0,Qa 0]⟩] .my (QB _);have E1:=E.yf K1;have Xz:(h++[(⟨.one,0,6,1,λ_=>x.cells⟩:Ob),⟨.one,0,3,1,λ_=>[Qa 0,Qa 0,Qa 0]⟩])[h.length]? = some ⟨.one,0,6,1,λ_=>x.cells⟩:=KV rfl;have We:(h++[(⟨.one,0,6,1,λ_=>x.cells⟩:Ob),⟨.one,0,3,1,λ_=>[Qa 0,Qa 0,Qa 0]⟩])[h.length+1]? = some ⟨.one,0,3,1,λ_=>[Qa 0,Qa 0,Qa 0]⟩:=VD (k:=1) rfl;have n1:∀i,h.length<=i->QV own h .no i=.no:=λi hi=>jj hi;have m1:∀i,h.length<=i->Z4 tw h .my i=.my:=λi hi=>EW hi;have fA:h.length+2=(h++[(⟨.one,0,6,1,λ_=>x.cells⟩:Ob),⟨.one,0,3,1,λ_=>[Qa 0,Qa 0,Qa 0]⟩]).length:=π;refine QQ func86 ntmps86 results86 λbase w pl hb=>?_;simp only[go_sem,Qe];obtain⟨h1,BH⟩:∃h1,h1=h++[(⟨.one,0,6,1,λ_=>x.cells⟩:Ob),⟨.one,0,3,1,λ_=>[Qa 0,Qa 0,Qa 0]⟩]:=⟨_,rfl⟩;rw[<- BH]at T1 K1 E1 Xz We fA;simp only[go_sem]at BH;rw[<- BH];clear BH;generalize QV own h .no=Jl at T1 K1 E1 n1;generalize Z4 tw h .my=Vr at T1 K1 E1 m1;have ZN:=T1.o;have Lf:=Qb ZN;have LI:=Qb Xz;have OM:=Qb We;obtain⟨dr,le,dm,cc,es,ms,Tb⟩:=T1.tb;have F:=Qzu Tb.toR x hx;obtain⟨cls,G4⟩:∃c,c=Kr S.R (ZR x):=⟨_,rfl⟩;rw[<- G4]at F;by_cases h0:cls=0
 .have e:YR S op x=⟨S,⟨31,0,0⟩,[]⟩:=by unfold YR;rw[Qd (by rw[<- G4];exact h0)]
  rw[e];rw[Qd h0,h0]at F;simp only[go_sem]at Xz;apply QF hb [0,1,2,3,4,5,1006,7,8,9,10,11];simp only[go_sem,ZN,Xz];apply Wz hb Qdl F;apply ZH hb;simp only[go_sem,We,QE OM];exact⟨Jl,Vr,⟨_,_,_,_,T1.loc (n1 _ ω) (.inr (m1 _ ω)) _⟩,E1.loc We nofun (by have:=Qb E.hp;omega) (by obtain⟨d,h1,_⟩:=E.ho;have:=Qb h1;omega) _,(K1.Yd hn).CK ω ω _⟩
 .have nb:h.length+1≠bp/\h.length+1≠bo:=by
   obtain⟨d,h1,_⟩:=E.ho;have:=Qb h1;have:=Qb E.hp;omega
  rw[Qc h0]at F;have P:=QyG T1.co S.Qf ω cls x;simp only[go_sem]at Xz;obtain⟨err,QgI⟩:∃e,e=km S.M S.Qf cls x:=⟨_,rfl⟩;rw[<- QgI]at P;apply QF hb [0,1,2,3,4,5,1006,7,8,9,10,11];simp only[go_sem,ZN,Xz];apply Wz hb Qdl F;apply ZA hb;apply Vk [10] hb [0,1,2,3,4,5,6,7,8,9,1010,11] [];simp only[go_sem,ZN,Xz];refine jZ hb Qqa P λd h2 hR=>?_;obtain⟨rfl,JW,C2,D2⟩:=hR;have T2:=T1.core D2 C2 (LC S.M S.Qf cls x);have K2':Jo h1.length Jl Vr h1 JW (Z4 Vr h1 .no) h2:=Jo.core T1.ap (QB _) D2;have K2:=K1.trans (QB _) (K2'.Yd K1.len);have E2:=E1.yf K2';have Wf:h2[h.length]? = some _:=(D2.keep _ LI (n1 _ (QB _))).trans Xz;have Jy:h2[h.length+1]? = some _:=(D2.keep _ OM (n1 _ ω)).trans We;have n2:JW (h.length+1)=.no:=(D2.same _ OM).trans (n1 _ ω);have n2x:JW h.length=.no:=(D2.same _ LI).trans (n1 _ ω);have m2:Z4 Vr h1 .no (h.length+1)=.my:=(Vh OM).trans (m1 _ ω);have m2x:Z4 Vr h1 .no h.length=.my:=(Vh LI).trans (m1 _ ω);generalize Z4 Vr h1 .no=Xd at T2 K2 E2 m2 m2x;have K6:=T2.o;have EL:=Qb K6;have QzL:=Qb Wf;have vD:=Qb Jy;apply ZA hb;by_cases he:err=0
  .have Of:(err != 0)=false:=by simpa using he
   have hS':Jd { S with M:=Jx S.M S.Qf cls x,st:=vw S.st cls S.Qf }:=(V.put cls x).Jc cls S.Qf (by show S.Qf<_;omega);have e:YR S op x=⟨(Js { S with M:=Jx S.M S.Qf cls x,st:=vw S.st cls S.Qf } op S.Qf).1,⟨0,0,cls⟩,inE op S.Qf cls x::(Js { S with M:=Jx S.M S.Qf cls x,st:=vw S.st cls S.Qf } op S.Qf).2⟩:=by
    unfold YR;rw[Qc (by rw[<- G4];exact h0),Qd (by rw[<- G4,<- QgI];exact he),<- G4]
   rw[e];have QzN:=Qzq T2.st cls S.Qf (gy cls);simp only[go_sem,Of];apply Vk [9] hb [0,1,2,3,4,5,6,7,8,1009] [];simp only[go_sem,K6];refine jZ hb Qqb QzN λd h3 hR=>?_;obtain⟨rfl,s3,st3⟩:=hR;have T3:=T2.stat s3 st3;have K3':Jo h2.length JW Xd h2 (QV JW h2 .no) (Z4 Xd h2 .st) h3:=Jo.part ⟨π,π⟩ (QB _) s3;have K3:=K2.trans (QB _) (K3'.Yd K2.len);have E3:=E2.yf K3';have IB:h3[h.length]? = some _:=(s3.keep _ QzL (by rw[m2x];simp)).trans Wf;have zw:h3[h.length+1]? = some _:=(s3.keep _ vD (by rw[m2];simp)).trans Jy;have n3:QV JW h2 .no (h.length+1)=.no:=(Kg vD).trans n2;have m3:Z4 Xd h2 .st (h.length+1)=.my:=(Vh vD).trans m2;generalize QV JW h2 .no=y9 at T3 K3 E3 n3;generalize Z4 Xd h2 .st=gD at T3 K3 E3 m3;have X1:=T3.o;have Li:=Qb X1;have QGq:=Qb IB;have LJ:=Qb zw;have yP:n<=h3.length:=Ki hn K3.len;apply ZA hb;apply Vk [8] hb [0,1,2,3,4,5,6,7,1008] [];simp only[go_sem,X1,IB];refine xI hb Qdd rfl ?_ (QiP E3 yP ω (inE 0 S.Qf cls x)) rfl λd h4 hR=>?_
   .simp only[go_sem,inE]
   obtain⟨rfl,E4,gF,ua⟩:=hR;have T4:=T3.step ua (gA T3.ap);have K4:=(K3.Yd hn).trans hn gF;have NV:h4[h.length+1]? = some _:=(gF.my _ LJ m3).trans zw;have n4:QV y9 h3 .no (h.length+1)=.no:=(Kg LJ).trans n3;have m4:Z4 gD h3 .no (h.length+1)=.my:=(Vh LJ).trans m3;have AD:({ inE 0 S.Qf cls x with op:=(op:Int) }:Ev)=inE op S.Qf cls x:=rfl;rw[AD]at E4;generalize QV y9 h3 .no=CS at T4 E4 K4 gF n4;generalize Z4 gD h3 .no=G3 at T4 E4 K4 gF m4;have Oh:=T4.o;have Qwv:=Qb Oh;have ub:=Qb NV;have TC:n<=h4.length:=Ki hn K4.len;apply ZH hb;simp only[go_sem,Oh];have QzP:=QiQ (T:=⟨_,_,_,_,T4⟩) hS' E4 TC δ;refine Zw hb Qdm QzP λd h5 hR=>?_;obtain⟨rfl,wN,TQ,⟨_,_,_,_,T5⟩,E5,K5⟩:=hR;have uc:h5[h.length+1]? = some _:=(K5.my _ ub m4).trans NV;have n5:=(K5.s1 _ ub).trans n4;have m5:=(K5.s2 _ ub).trans m4;have QzQ:=Qb uc;rw[V9]at E5;apply Qg hb;simp only[go_sem,uc,QE QzQ];exact⟨wN,TQ,⟨_,_,_,_,T5.loc n5 (.inr m5) _⟩,E5.loc uc nofun nb.1 nb.2 _,(K4.trans hn K5).CK ω ω _⟩
  .have e:YR S op x=⟨{ S with M:=Jx S.M S.Qf cls x },⟨err,0,cls⟩,[]⟩:=by unfold YR;rw[Qc (by rw[<- G4];exact h0),Qc (by rw[<- G4,<- QgI];exact he),<- G4,<- QgI]
   have Of:(err != 0)=true:=by simpa using he
   rw[e];simp only[go_sem,Of,Jy,QE vD];exact⟨JW,Xd,⟨_,_,_,_,T2.loc n2 (.inr m2) _⟩,E2.loc Jy nofun nb.1 nb.2 _,(K2.Yd hn).CK ω ω _⟩
def zC.q64{own}{h}{p}{M}(C:zC own h p M)(j:Int):(Zj M j).length<=64:=by
 unfold Zj Qw;cases hn:Qh M.N j with
 | none=>exact Jh _
 | some n=>
  show n.q.l.length<=64;cases hl:n.c.leaf with
  | true=>
   obtain⟨L,c⟩:=C.ex;obtain⟨k,hk,r,Q⟩:=c.WX j n hn hl;have:=Q.ring.pF;omega
  | false=>rw[C.V.x7 j n hn hl];exact Jh _
def ud(f:Qq->Nat)(b):∀l:List Qq,(∀c∈l,f c<=b)->(l.map f).sum<=l.length*b
 | [],_=>π
 | c::l,h=>by
  have h1:=h c π;have h2:=ud f b l λd hd=>h d (by simp[hd]);simp only[JQ,List.sum_cons,Kv,Vz,Me];omega
def zC.gG{own}{h}{p}{M}(C:zC own h p M):VR M<=4096:=by
 have h1:=ud (λc=>(Zj M c.iD).length) 64 M.T λc _=>C.q64 c.iD;have h2:=C.I.tree.len;unfold VR;have h3:M.T.length*64<=64*64:=X7 64 h2;omega
def TR(S:ZF)(op now:Nat):(Js S op now).2.length<=1:=by
 unfold Js;split
 .exact Jh _
 .split
  .exact QB _
  .exact Jh _
def Jo.ue{n}{own own'}{tw Jg}{h H:List Ob}(D:Jo n own tw h own' Jg H){p}(hp:tw p=.sys)(o):Jo n own tw h own' Jg (H.set p o):=
 ⟨D.s1,D.s2,λj h1 h2 h3=>by rw[Qr (λe=>by rw[<- e,hp]at h3;cases h3)];exact D.keep j h1 h2 h3,λj h1 h2=>by rw[Qr (λe=>by rw[<- e,hp]at h2;cases h2)];exact D.my j h1 h2,by simpa using D.len⟩
structure QiV (n:Nat) (own:Nat->Tag) (tw:Nat->TT) (h:List Ob) (p:Nat) (S:ZF) (bp bo op e:Nat) (L:List Ev) (r k:Nat) (own':Nat->Tag) (Jg:Nat->TT) (H:List Ob) (S':ZF) (L':List Ev):Prop where
 T:Wr own' Jg H p S'
 V:Jd S'
 E:q5 n own' Jg H bp bo op (L++L')
 K:Jo n own tw h own' Jg H
 hr:H[r]? = some ⟨.one,0,3,1,λ_=>[Qa 0,Qa 0,Qa 0]⟩
 nr:own' r=.no
 mr:Jg r=.my
 hk:VR S'.M+k=VR S.M
 cl:S'.Qf<=e
 go:Vg op e (VR S.M+1) S=((Vg op e (VR S'.M+1) S').1,L'++(Vg op e (VR S'.M+1) S').2)
 ln:L'.length<=k
def QzS{n}{own}{tw}{h:List Ob}{p}{S}(T:Wr own tw h p S)(V:Jd S){bp bo op}{L:List Ev}(E:q5 n own tw h bp bo op L)(hn:n<=h.length)(hL:L.length<10000000)(Wi)(vS:Wi<18446744073709551616):
  QH prog 87 h [.ptr p 0 0 0,u64 Wi,.clo 83 0 [.ptr bp 0 0 0,.ptr bo 0 0 0]] (λd h'=>d=.agg (qZ S op Wi).r.cells/\∃own' Jg,Wr own' Jg h' p (qZ S op Wi).S/\q5 n own' Jg h' bp bo op (L++(qZ S op Wi).l)/\Jo n own tw h own' Jg h'):=by
 obtain⟨ps,lp,pr,pt,T⟩:=T;have Z7:=V.cl;have nb:h.length≠bp/\h.length≠bo:=by
  obtain⟨d,h1,_⟩:=E.ho;have:=Qb h1;have:=Qb E.hp;omega
 have T1:=T.BG [⟨.one,0,3,1,λ_=>[Qa 0,Qa 0,Qa 0]⟩];have K1:=Jo.app (n:=h.length) own tw h [⟨.one,0,3,1,λ_=>[Qa 0,Qa 0,Qa 0]⟩] .my (QB _);have E1:=E.yf K1;have We:(h++[(⟨.one,0,3,1,λ_=>[Qa 0,Qa 0,Qa 0]⟩:Ob)])[h.length]? = some ⟨.one,0,3,1,λ_=>[Qa 0,Qa 0,Qa 0]⟩:=KV rfl;have n1:QV own h .no h.length=.no:=jj (QB _);have m1:Z4 tw h .my h.length=.my:=EW (QB _);have ho:=T.o;have Ql:=Qb ho;have w1:IntKind.u64.wrap ((4611686018427387904:Int) - (S.Qf:Int))=((4611686018427387904 - S.Qf:Nat):Int):=κ;by_cases h0:4611686018427387904 - S.Qf<Wi
 .have e:qZ S op Wi=⟨S,⟨27,0,0⟩,[]⟩:=by unfold qZ;rw[Qd h0]
  rw[e];have d0:=QU h0;refine QQ func87 ntmps87 results87 λbase w pl hb=>?_;have Ql:=Qb ho;simp only[go_sem,Qe,ho,Ql,w1,d0];exact⟨_,_,⟨_,_,_,_,T.BG _⟩,E.yf (Jo.app own tw h _ .my (QB _)),(Jo.app own tw h _ .my (QB _)).Yd hn⟩
 .have d0:=QI h0;obtain⟨e,he⟩:∃e,e=S.Qf+Wi:=⟨_,rfl⟩;have w2:IntKind.u64.wrap ((S.Qf:Int)+(Wi:Int))=((e:Nat):Int):=κ;have hA:qZ S op Wi=⟨(Vg op e (VR S.M+1) S).1,⟨0,0,0⟩,(Vg op e (VR S.M+1) S).2⟩:=by unfold qZ;rw[Qc h0,<- he]
  rw[hA];refine QQ func87 ntmps87 results87 λbase w pl hb=>?_;have Ql:=Qb ho;simp only[go_sem,Qe,ho,Ql,w1,d0,w2];have A0:QiV n own tw h p S bp bo op e L h.length 0 (QV own h .no) (Z4 tw h .my) (h++[(⟨.one,0,3,1,λ_=>[Qa 0,Qa 0,Qa 0]⟩:Ob)]) S []:=
   ⟨⟨_,_,_,_,T1⟩,V,by rw[JI];exact E1,K1.Yd hn,We,n1,m1,ω,ω,rfl,QB _⟩
  have QGr:=T.co.gG;refine Z3 (λk s=>∃own' Jg H S' L',QiV n own tw h p S bp bo op e L h.length k own' Jg H S' L'/\s=⟨[(0,.ptr p 0 0 0),(2,.clo 83 0 [.ptr bp 0 0 0,.ptr bo 0 0 0]),(6,.ptr h.length 0 0 0),(7,u64 e)],H⟩) (VR S.M) QM ⟨_,_,_,S,[],A0,rfl⟩ ?_;clear A0 T1 K1 E1 We n1 m1;rintro k _ hk ⟨JW,Xd,H,S2,L2,A,rfl⟩;obtain⟨ON,OO,OP,OQ,T2⟩:=A.T;have K6:=T2.o;have EL:=Qb K6;have N:=QzE ⟨ON,OO,OP,OQ,T2⟩;obtain⟨nx,zy⟩:∃nx,nx=Zs S2:=⟨_,rfl⟩;rw[<- zy]at N;have Jy:=A.hr;have vD:=Qb Jy;have pb:p≠bp/\p≠bo:=⟨λe=>(by have h1:=T2.tp;rw[e,A.E.tp]at h1;cases h1),λe=>(by have h1:=T2.tp;rw[e,A.E.to]at h1;cases h1)⟩;have Db:p≠h.length:=λe=>by have:=T.o;have:=Qb this;omega
  apply Qn hb;apply ZQ hb Qqc N;apply Qn hb;by_cases QA:e<nx
  .have d1:=QU QA;have vX:Vg op e (VR S2.M+1) S2=({ S2 with Qf:=e },[]):=by
    unfold Vg;rw[Qd (by rw[<- zy];exact QA)]
   have hg:=A.go;rw[vX,JI]at hg;rw[hg];simp only[go_sem,Qe,d1,K6,Qr Db,Jy,vD,QE];have hr9:(H.set p (zD ON OO OP OQ e S2.ops))[h.length]? = some ⟨.one,0,3,1,λ_=>[Qa 0,Qa 0,Qa 0]⟩:=(Qr Db).trans Jy;exact⟨JW,Xd,⟨_,_,_,_,(T2.clock e S2.ops).loc A.nr (.inr A.mr) _⟩,(A.E.loc K6 nofun pb.1 pb.2 _).loc hr9 nofun nb.1 nb.2 _,(A.K.ue T.tp _).CK hn (QB _) _⟩
  .have d1:=QI QA;have hle:Zs S2<=e:=ω;obtain⟨V3,c1,c2,c3⟩:=Qzb A.V op ω hle;have vX:Vg op e (VR S2.M+1) S2=((Vg op e (VR S2.M) (Js { S2 with Qf:=Zs S2 } op (Zs S2)).1).1,(Js { S2 with Qf:=Zs S2 } op (Zs S2)).2++(Vg op e (VR S2.M) (Js { S2 with Qf:=Zs S2 } op (Zs S2)).1).2):=by
    conv=>lhs;unfold Vg
    rw[Qc (by rw[<- zy];exact QA)]
   have hg:=A.go;rw[vX,<- c1,<- V9]at hg;have Zh:=TR { S2 with Qf:=Zs S2 } op (Zs S2);subst zy;have T3:=T2.clock (Zs S2) S2.ops;have V2:Jd { S2 with Qf:=Zs S2,ops:=S2.ops }:=A.V.at_ c2 ω;have E3:=A.E.loc K6 nofun pb.1 pb.2 (zD ON OO OP OQ (Zs S2) S2.ops);have zw:(H.set p (zD ON OO OP OQ (Zs S2) S2.ops))[h.length]? = some _:=(Qr Db).trans Jy;have K3:=A.K.ue T.tp (zD ON OO OP OQ (Zs S2) S2.ops);have yP:n<=(H.set p (zD ON OO OP OQ (Zs S2) S2.ops)).length:=Ki hn K3.len;have DL:=A.ln;have jC:=A.hk;have P:=QiQ (T:=⟨_,_,_,_,T3⟩) V2 E3 yP (by rw[ZW];omega);simp only[go_sem,d1,K6];refine Zw hb Qdm P λd h5 hR=>?_;obtain⟨rfl,wN,TQ,T5,E5,K5⟩:=hR;have LJ:=Qb zw;apply Qn hb;have QzU:VR (Js { S2 with Qf:=Zs S2 } op (Zs S2)).1.M+(k+1)=VR S.M:=ω;have QzV:(L2++(Js { S2 with Qf:=Zs S2 } op (Zs S2)).2).length<=k+1:=by rw[ZW];omega
   refine⟨ω,_,Qz.frame (fr':=[(0,.ptr p 0 0 0),(2,.clo 83 0 [.ptr bp 0 0 0,.ptr bo 0 0 0]),(6,.ptr h.length 0 0 0),(7,u64 e)]) (by simp only[go_sem]),wN,TQ,h5,_,L2++(Js { S2 with Qf:=Zs S2 } op (Zs S2)).2,⟨T5,V3,by rw[<- V9];exact E5,K3.trans hn K5,(K5.my _ LJ A.mr).trans zw,(K5.s1 _ LJ).trans A.nr,(K5.s2 _ LJ).trans A.mr,QzU,by rw[c3];exact hle,hg,QzV⟩,rfl⟩
def Ah(tw:Nat->TT)(n:Nat):Nat->TT:=λl=>if l=n+2\/l=n+3 then .no else if n<=l then .my else tw l
def gH{tw}{n l}(h:l<n):Ah tw n l=tw l:=by unfold Ah;rw[Qc ω,Qc ω]
def QiW{tw}{n l}(h:l=n+2\/l=n+3):Ah tw n l=.no:=by unfold Ah;rw[Qd h]
def QzW{tw}{n l}(h:n<=l)(h2:l≠n+2)(h3:l≠n+3):Ah tw n l=.my:=by unfold Ah;rw[Qc ω,Qd h]
structure OR (S:ZF):Prop where
 ca:∀k,(S.st.Jc k).length<=S.ops
structure EZ (own:Nat->Tag) (tw:Nat->TT) (h:List Ob) (p:Nat) (op:Nat) (S':ZF) (L:List Ev) (r:kv) (own':Nat->Tag) (Jg:Nat->TT) (H:List Ob) (d:D):Prop where
 T:Wr own' Jg H p S'
 E:q5 h.length own' Jg H (h.length+3) (h.length+2) op L
 K:Jo h.length own tw h own' Jg H
 AP:H[h.length+1]? = some ⟨.one,0,3,1,λ_=>[Qa 0,Qa 0,Qa 0]⟩
 hr:H[h.length+4]? = some ⟨.one,0,3,1,λ_=>r.cells⟩
 ho:H[h.length+2]? = some (Ag d)
 hs:zF (λl=>h.length<=l/\own' l=.no/\Jg l=.no/\l≠h.length+3/\l≠h.length+2) H 12 Ev.cells d L
 n1:own' (h.length+1)=.no
 m1:Jg (h.length+1)=.my
 n4:own' (h.length+4)=.no
 m4:Jg (h.length+4)=.my
def DoR(own:Nat->Tag)(tw:Nat->TT)(h:List Ob)(p:Nat)(Y:OG)(d:D)(h':List Ob):Prop:=
 ∃dl own' Jg,d=.tup [.agg Y.r.cells,dl]/\Wr own' Jg h' p Y.S/\zF (λl=>h.length<=l/\own' l=.no/\Jg l=.no) h' 12 Ev.cells dl Y.l/\Jo h.length own tw h own' Jg h'
def EZ.done{own}{tw}{h}{p op}{S'}{L}{r}{own'}{Jg}{H}{d}(I:EZ own tw h p op S' L r own' Jg H d)(o):
  DoR own tw h p ⟨S',r,L⟩ (.tup [.agg r.cells,d]) (H.set (h.length+1) o):=by
 obtain⟨ps,lp,pr,pt,T⟩:=I.T;refine⟨d,own',Jg,rfl,⟨_,_,_,_,T.loc I.n1 (.inr I.m1) o⟩,I.hs.imp id λ⟨lo,g,row,h1,h2,h3,h4⟩=>⟨lo,g,row,h1,⟨h2.1,h2.2.1,h2.2.2.1⟩,by rw[Qr (yd I.AP h3 (.inl nofun))];exact h3,h4⟩,I.K.CK ω ω o⟩
def EZ.next{own}{tw}{h}{p op}{S'}{L}{r}{Jl}{Vr}{H}{d}(I:EZ own tw h p op S' L r Jl Vr H d){S2}{L2}{JW}{Xd}{H2}
  (T2:Wr JW Xd H2 p S2) (E2:q5 h.length JW Xd H2 (h.length+3) (h.length+2) op L2) (K2:Jo h.length Jl Vr H JW Xd H2):∃d2,EZ own tw h p op S2 L2 r JW Xd H2 d2:=by
 obtain⟨d2,a1,a2⟩:=E2.ho;have l1:=Qb I.AP;have l4:=Qb I.hr;exact⟨d2,T2,E2,I.K.trans (QB _) K2,(K2.my _ l1 I.m1).trans I.AP,(K2.my _ l4 I.m4).trans I.hr,a1,a2,(K2.s1 _ l1).trans I.n1,(K2.s2 _ l1).trans I.m1,(K2.s1 _ l4).trans I.n4,(K2.s2 _ l4).trans I.m4⟩
def EZ.TS{own}{tw}{h:List Ob}{p op}{S'}{L}{r}{Jl}{Vr}{H:List Ob}{d}(I:EZ own tw h p op S' L r Jl Vr H d)(r2:kv):EZ own tw h p op S' L r2 Jl Vr (H.set (h.length+4) ⟨.one,0,3,1,λ_=>r2.cells⟩) d:=by
 obtain⟨ps,lp,pr,pt,T⟩:=I.T;exact⟨⟨_,_,_,_,T.loc I.n4 (.inr I.m4) _⟩,I.E.loc I.hr nofun ω ω _,I.K.CK ω ω _,by rw[Qr ω];exact I.AP,QE (Qb I.hr),by rw[Qr ω];exact I.ho,
  I.hs.imp id λ⟨lo,g,row,h1,h2,h3,h4⟩=>⟨lo,g,row,h1,h2,by rw[Qr (yd I.hr h3 (.inl nofun))];exact h3,h4⟩,I.n1,I.m1,I.n4,I.m4⟩
def QzX{own}{tw}{h}{p}{S:ZF}(T:Wr own tw h p S)(V:Jd S)(hC:OR S)(gI:S.ops<1000000)(o:ZV)(ho:ZV.Ok o)(hc:o.changes.length<1000000)(Kc:o.rules.length<1000000):
  QH prog 33 h [.ptr p 0 0 0,.agg o.cells] (λd h'=>DoR own tw h p (JM S o) d h'):=by
 obtain⟨ps,lp,pr,pt,T⟩:=T;have hp:=T.o;have OK:=Qb hp;have Zb:=J9 (show S.ops<4611686018427387904 from ω);have eS:JM S o=VX { S with ops:=S.ops+1 } S.ops o:=rfl;rw[eS];obtain⟨S1,NZ⟩:∃S1,S1={ S with ops:=S.ops+1 }:=⟨_,rfl⟩;have T0:Wq own tw (h.set p (zD ps lp pr pt S.Qf (S.ops+1))) p ps lp pr pt { S with ops:=S.ops+1 }:=T.clock S.Qf (S.ops+1);rw[<- NZ]at T0 ⊢;obtain⟨H,hH⟩:∃H,H=h.set p (zD ps lp pr pt S.Qf (S.ops+1))++[(⟨.one,0,10,1,λ_=>o.cells⟩:Ob),⟨.one,0,3,1,λ_=>[Qa 0,Qa 0,Qa 0]⟩,Ag .nil,Ag (Qa S.ops),⟨.one,0,3,1,λ_=>[Qa 1,Qa 0,Qa 0]⟩]:=⟨_,rfl⟩;have ql:(h.set p (zD ps lp pr pt S.Qf (S.ops+1))).length=h.length:=π;have ne:∀l,l<h.length->(Ah tw h.length l)=tw l:=λl hl=>gH hl;have T1:Wq (QV own h .no) (Ah tw h.length) H p ps lp pr pt S1:=by
  rw[hH];refine T0.step (λl hl=>⟨λ_=>⟨Kg (by rw[<- ql];exact hl),QG hl⟩,λ_ _=>⟨gH (by rw[<- ql];exact hl),QG hl⟩⟩) λl hl=>?_;by_cases h1:l<h.length
  .rw[gH h1]at hl;rw[Kg h1];exact T.ap l hl
  .exact jj ω
 have K1:Jo h.length own tw h (QV own h .no) (Ah tw h.length) H:=by
  rw[hH];refine⟨λl hl=>Kg hl,λl hl=>gH hl,λl hl h1 h2=>?_,λl hl h1=>?_,π⟩
  .rw[QG (by rw[ql];exact hl),Qr (λe=>by rw[<- e,T.tp]at h2;cases h2)]
  .rw[QG (by rw[ql];exact hl),Qr (λe=>by rw[<- e,T.tp]at h1;cases h1)]
 have at_:∀k x,[(⟨.one,0,10,1,λ_=>o.cells⟩:Ob),⟨.one,0,3,1,λ_=>[Qa 0,Qa 0,Qa 0]⟩,Ag .nil,Ag (Qa S.ops),⟨.one,0,3,1,λ_=>[Qa 1,Qa 0,Qa 0]⟩][k]? = some x->H[h.length+k]? = some x:=λk x hk=>by
  rw[hH,VD (k:=k) ql];exact hk
 have E1:q5 h.length (QV own h .no) (Ah tw h.length) H (h.length+3) (h.length+2) S.ops []:=
  ⟨at_ 3 _ rfl,⟨.nil,at_ 2 _ rfl,.inl ⟨rfl,rfl⟩⟩,ω,ω,jj ω,jj ω,QiW (.inr rfl),QiW (.inl rfl),ω⟩
 have ZN:H[h.length]? = some ⟨.one,0,10,1,λ_=>o.cells⟩:=at_ 0 _ rfl;have TU:=at_ 1 _ rfl;have TV:=at_ 2 _ rfl;have We:=at_ 4 _ rfl;have n1:∀i,h.length<=i->QV own h .no i=.no:=λi hi=>jj hi;have m1:∀i,h.length<=i->i≠h.length+2->i≠h.length+3->Ah tw h.length i=.my:=λi hi h2 h3=>QzW hi h2 h3;clear at_ ne ql;generalize DQ:QV own h .no=Jl at T1 K1 E1 n1;generalize OS:Ah tw h.length=Vr at T1 K1 E1 m1;have XN:=T1.o;have QzY:=Qb XN;have Lf:=Qb ZN;have QiY:=Qb TU;have QzZ:=Qb TV;have OM:=Qb We;have QGs:S1.Qf=S.Qf:=by rw[NZ]
 have V1:Jd S1:=by rw[NZ];exact V.ops _
 have KJ:h.length<=H.length:=K1.len;refine QQ func33 ntmps33 results33 λbase w pl hb=>?_;have OK:=Qb hp;simp only[go_sem,Qe,hp,OK,Zb];simp only[go_sem]at hH ZN We TU TV;rw[<- hH];clear hH;have OT:h.length+1≠h.length+2:=ω;have TW:h.length+4≠h.length+2:=ω;have TX:h.length+4≠h.length+1:=ω;have I0:EZ own tw h p S.ops S1 [] ⟨1,0,0⟩ Jl Vr H .nil:=⟨⟨_,_,_,_,T1⟩,E1,K1,TU,We,TV,.inl ⟨rfl,rfl⟩,n1 _ ω,m1 _ ω ω ω,n1 _ ω,m1 _ ω ω ω⟩;obtain⟨B3,⟨_,y8⟩,⟨_,hru⟩,hpk,vS,_⟩:=ho;by_cases k1:o.kind=1
 .have b1:(o.kind==1)=true:=by simpa using k1
  obtain⟨la,lb,lc,Jj⟩:=T1.ln;have F:=tR (ZC Jj) S1.Qf;obtain⟨bf,hbf⟩:∃b,b=decide (S1.XI<=S1.Qf):=⟨_,rfl⟩;have e:VX S1 S.ops o=⟨{ S1 with M:=K0 S1.M bf o.changes },⟨jh S1.M bf o.changes,x6 S1.M o.changes,0⟩,[]⟩:=by unfold VX;rw[Qd k1,<- hbf]
  rw[e];rw[<- hbf]at F;have C:=QyI T1.co bf o.changes y8 hc;obtain⟨ce,hce⟩:∃x,x=jh S1.M bf o.changes:=⟨_,rfl⟩;obtain⟨ca,gy⟩:∃x,x=x6 S1.M o.changes:=⟨_,rfl⟩;rw[<- hce,<- gy]at C ⊢;simp only[go_sem,b1];apply Vk [15] hb [0,1,2,3,4,5,6,7,8,9,10,11,13,14,1012,1015,16,17,18,19,20] [];simp only[go_sem,XN,ZN];apply Wz hb Qgz F;apply ZA hb;refine jZ hb QpY C λd h2 hR=>?_;obtain⟨rfl,JW,C2,D2⟩:=hR;have T2:=T1.core D2 C2 (OE S1.M bf o.changes);have K2:Jo H.length Jl Vr H JW (Z4 Vr H .no) h2:=Jo.core T1.ap (QB _) D2;obtain⟨d2,I2⟩:=I0.next ⟨_,_,_,_,T2⟩ (E1.yf K2) (K2.Yd KJ);have I:=I2.TS ⟨ce,ca,0⟩;have Jy:=I2.hr;have vD:=Qb Jy;have ZB:=I2.ho;have CQ:=Qb ZB;have Jv:=I2.AP;have CU:=Qb Jv;apply ZH hb;simp only[go_sem,Jy];apply Vk [] hb [0] [1,2,3];simp only[go_sem,Qe,vD,ZB,Jv,CU,QE,Qr OT,Qr TW,Qr TX];exact⟨I.done _,I.done _⟩
 have b1:(o.kind==1)=false:=by simpa using k1
 by_cases k2:o.kind=2
 .have b2:(o.kind==2)=true:=by simpa using k2
  have R:=QiM H o.rules Kc;by_cases GH:qy o.rules=0
  .have e:VX S1 S.ops o=⟨{ S1 with R:=o.rules },⟨0,0,0⟩,[]⟩:=by unfold VX;rw[Qc k1,Qd k2,Qd GH]
   rw[e];simp only[go_sem,b1,b2,ZN];refine Zw hb mK R λd h2 hR=>?_;obtain⟨g,rfl,uf,_⟩:=hR;obtain⟨p2,rfl,hT⟩:=uf GH;have T2:=T1.rules hT;have ug:(H++g)[p]? = some _:=(QG QzY).trans XN;have QGu:=Qb ug;have K2:Jo H.length Jl Vr H (QV Jl H .no) (Z4 Vr H .G0) (H++g):=Jo.app Jl Vr H g .G0 (QB _);have E2:=(E1.yf K2).loc ug nofun (by have:=Qb T.o;omega) (by have:=Qb T.o;omega) (zD ps lp p2 pt S1.Qf S1.ops);obtain⟨d2,I2⟩:=I0.next ⟨_,_,_,_,T2⟩ E2 ((K2.Yd KJ).ue T1.tp _);have I:=I2.TS ⟨0,0,0⟩;have Jy:=I2.hr;have vD:=Qb Jy;have ZB:=I2.ho;have CQ:=Qb ZB;have Jv:=I2.AP;have CU:=Qb Jv;have Zh:=Qb T.o;have p4:p≠h.length+4:=ω;have p2':p≠h.length+2:=ω;have p1':p≠h.length+1:=ω;have hrg:(H++g)[h.length+4]? = some _:=(QG OM).trans We;have uh:(H++g)[h.length+2]? = some _:=(QG QzZ).trans TV;have hsg:(H++g)[h.length+1]? = some _:=(QG QiY).trans TU;have Qz3:=Qb hrg;have Qz4:=Qb uh;have Qz5:=Qb hsg;have KI:d2=.nil:=by
    have h5:=I2.ho;rw[Qr p2',uh]at h5;simp only[Ag,QY,Ob.mk.injEq,vO]at h5;have:=congrFun h5 0;simp only[Hc,lB]at this;exact this.symm
   rw[KI]at I;have x4:h.length+4<H.length+g.length:=by have:=Qz3;simpa using this
   have x2:h.length+2<H.length+g.length:=by have:=Qz4;simpa using this
   have x1:h.length+1<H.length+g.length:=by have:=Qz5;simpa using this
   apply Qg hb;simp only[go_sem,ug,Qr p4,hrg];apply Vk [] hb [0] [1,2,3];simp only[go_sem,Qe,x4,x1,Qr p2',Qr p1',uh,hsg,QE,Qr OT,Qr TW,Qr TX];exact⟨I.done _,I.done _⟩
  .have e:VX S1 S.ops o=⟨S1,⟨qy o.rules,0,0⟩,[]⟩:=by unfold VX;rw[Qc k1,Qd k2,Qc GH]
   have Qi3:(qy o.rules==0)=false:=by simpa using GH
   rw[e];obtain⟨re,Qz6⟩:∃x,x=qy o.rules:=⟨_,rfl⟩;rw[<- Qz6]at R Qi3 GH ⊢;simp only[go_sem,b1,b2,ZN];refine Zw hb mK R λd h2 hR=>?_;obtain⟨g,rfl,_,uf⟩:=hR;have hd:=uf GH;subst hd;have K2:Jo H.length Jl Vr H (QV Jl H .no) (Z4 Vr H .my) (H++g):=Jo.app Jl Vr H g .my (QB _);obtain⟨d2,I2⟩:=I0.next ⟨_,_,_,_,T1.BG g⟩ (E1.yf K2) (K2.Yd KJ);have I:=I2.TS ⟨re,0,0⟩;have Jy:=I2.hr;have vD:=Qb Jy;have ZB:=I2.ho;have CQ:=Qb ZB;have Jv:=I2.AP;have CU:=Qb Jv;have x4:h.length+4<H.length+g.length:=by have:=vD;simpa using this
   have x2:h.length+2<H.length+g.length:=by have:=CQ;simpa using this
   have x1:h.length+1<H.length+g.length:=by have:=CU;simpa using this
   apply Qg hb;simp only[go_sem,Qi3,Jy];apply Vk [] hb [0] [1,2,3];simp only[go_sem,Qe,x4,x1,ZB,Jv,QE,Qr OT,Qr TW,Qr TX];exact⟨I.done _,I.done _⟩
 have b2:(o.kind==2)=false:=by simpa using k2
 by_cases k3:o.kind=3
 .have b3:(o.kind==3)=true:=by simpa using k3
  have e:VX S1 S.ops o=YR S1 S.ops o.ZI:=by unfold VX;rw[Qc k1,Qc k2,Qd k3]
  rw[e];obtain⟨BH,OL,TP,G5⟩:TI o.ZI:=by
   obtain⟨_,_,a0,a1,a2,a3,_⟩:=hpk;have:=wf_u16 a0;have:=wf_u16 a1;have:=wf_u16 a2;have:=wf_u16 a3;exact⟨⟨ω,ω⟩,⟨ω,ω⟩,⟨ω,ω⟩,⟨ω,ω⟩⟩
  have P:=QzK ⟨_,_,_,_,T1⟩ V1 E1 KJ π (λk=>by rw[NZ];have:=hC.ca k;show (S.st.Jc k).length<1000000;omega) o.ZI ⟨BH,OL,TP,G5⟩;obtain⟨Y,hY⟩:∃Y,Y=YR S1 S.ops o.ZI:=⟨_,rfl⟩;rw[<- hY]at P ⊢;simp only[go_sem,b1,b2,b3,ZN];refine Zw hb QpZ P λd h2 hR=>?_;obtain⟨rfl,JW,Xd,T2,E2,K2⟩:=hR;rw[zK]at E2;obtain⟨d2,I2⟩:=I0.next T2 E2 K2;have I:=I2.TS Y.r;have Jy:=I2.hr;have vD:=Qb Jy;have ZB:=I2.ho;have CQ:=Qb ZB;have Jv:=I2.AP;have CU:=Qb Jv;apply Qg hb;simp only[go_sem,Jy];apply Vk [] hb [0] [1,2,3];simp only[go_sem,Qe,vD,ZB,Jv,CU,QE,Qr OT,Qr TW,Qr TX];exact⟨I.done _,I.done _⟩
 have b3:(o.kind==3)=false:=by simpa using k3
 by_cases k4:o.kind=4
 .have b4:(o.kind==4)=true:=by simpa using k4
  have e:VX S1 S.ops o=qZ S1 S.ops o.Wi.toNat:=by unfold VX;rw[Qc k1,Qc k2,Qc k3,Qd k4]
  rw[e];have hw:=wf_u64 vS;have P:=QzS ⟨_,_,_,_,T1⟩ V1 E1 KJ π o.Wi.toNat ω;obtain⟨Y,hY⟩:∃Y,Y=qZ S1 S.ops o.Wi.toNat:=⟨_,rfl⟩;rw[<- hY,show u64 o.Wi.toNat=.raw (.int .u64 o.Wi) by show D.raw (.int .u64 (o.Wi.toNat:Int))=_;rw[Dh hw.1]]at P;rw[<- hY];simp only[go_sem,b1,b2,b3,b4,ZN];refine Zw hb Qp0 P λd h2 hR=>?_;obtain⟨rfl,JW,Xd,T2,E2,K2⟩:=hR;rw[zK]at E2;obtain⟨d2,I2⟩:=I0.next T2 E2 K2;have I:=I2.TS Y.r;have Jy:=I2.hr;have vD:=Qb Jy;have ZB:=I2.ho;have CQ:=Qb ZB;have Jv:=I2.AP;have CU:=Qb Jv;apply Qg hb;simp only[go_sem,Jy];apply Vk [] hb [0] [1,2,3];simp only[go_sem,Qe,vD,ZB,Jv,CU,QE,Qr OT,Qr TW,Qr TX];exact⟨I.done _,I.done _⟩
 have b4:(o.kind==4)=false:=by simpa using k4
 have e:VX S1 S.ops o=⟨S1,⟨1,0,0⟩,[]⟩:=by unfold VX;rw[Qc k1,Qc k2,Qc k3,Qc k4]
 rw[e];simp only[go_sem,b1,b2,b3,b4];apply Vk [] hb [0] [1,2,3];simp only[go_sem,We,TV,TU,QiY,QE,Qr OT];exact⟨I0.done _,I0.done _⟩
def Qz7(h:List Ob):QH prog 81 h [.nil] (λd h'=>∃g p,h'=h++g/\d=.tup [.ptr p 0 0 0,Qa 0]/\G1 (λj=>h.length<=j) (h++g) p []):=
 (QH.QbQ (cs':=[.nil]) (QiM h [] τ) ⟨rfl,trivial⟩).mono λd h' ⟨g,h1,h2,_⟩=>by
  obtain⟨p,h3,h4⟩:=h2 rfl;exact⟨g,p,h1,h3,h4⟩
def YS.fresh(h:List Ob)(S)(hS:∀j,h.length<=j->S j):YS S (h++[QK .i64 0 [],QK .i64 0 [],tP h.length (h.length+1)]) (h.length+2) ⟨λ_=>[],λ_=>default⟩:=
 ⟨h.length,h.length+1,0,[],0,[],VD (k:=2) rfl,KV rfl,VD (k:=1) rfl,ω,hS _ ω,hS _ ω,hS _ ω,λk=>.inl ⟨rfl,rfl⟩,λk k' lo g off n g' vQ n' h1=>(by cases h1),λk=>rfl⟩
def Qz8{own}{tw}(ap:∀l,tw l≠.no->own l=.no)(h){c}(K:WM c):
  QH prog 32 h [.agg c.cells] (λd h'=>∃own' Jg p,d=.tup [.ptr p 0 0 0,Qa 0]/\Wr own' Jg h' p (S0 c)/\Jo h.length own tw h own' Jg h'):=by
 have ZN:(h++[(⟨.one,0,2,1,λ_=>c.cells⟩:Ob)])[h.length]? = some ⟨.one,0,2,1,λ_=>c.cells⟩:=KV rfl;have hN:=QyJ (QV own h .no) (h++[(⟨.one,0,2,1,λ_=>c.cells⟩:Ob)]) K;have K1:=Jo.app own tw h [(⟨.one,0,2,1,λ_=>c.cells⟩:Ob)] .no (QB _);have gJ:=gA (h:=h) ap;have n1:QV own h .no h.length=.no:=jj (QB _);refine QQ func32 ntmps32 results32 λbase w pl hb=>?_;simp only[go_sem,Qe];obtain⟨h1,BH⟩:∃x,x=h++[(⟨.one,0,2,1,λ_=>c.cells⟩:Ob)]:=⟨_,rfl⟩;rw[<- BH]at ZN hN K1;simp only[go_sem]at BH;rw[<- BH];clear BH;have Lf:=Qb ZN;generalize QV own h .no=Jl at hN K1 gJ n1;generalize Z4 tw h .no=Vr at K1 gJ;refine Zw hb QpV hN λd h2 hR=>?_;obtain⟨JW,ps,rfl,C2,D2⟩:=hR;have K2:=K1.trans (QB _) ((Jo.core gJ (QB _) D2).Yd K1.len);have K6:h2[h.length]? = some _:=(D2.keep _ Lf n1).trans ZN;have EL:=Qb K6;apply Qg hb;simp only[go_sem,K6];refine Zw hb QpW (Qzf h2 K.t1 K.t2) λd h hR=>?_;obtain⟨rfl,rfl⟩:=hR;apply Qn hb;refine Zw hb mK (Qz7 _) λd h4 hR=>?_;obtain⟨g,pr,G5,rfl,Tb⟩:=hR;apply Qn hb;refine Zw hb QpX (Qzp h4) λd h5 hR=>?_;obtain⟨rfl,ui⟩:=hR;apply Qn hb;have G5:h4=(h2++[zE 0 0 0 c.t 0])++g:=G5;have Tb:G1 (λj=>(h2++[zE 0 0 0 c.t 0]).length<=j) ((h2++[zE 0 0 0 c.t 0])++g) pr []:=Tb;rw[<- G5]at Tb;have l3:(h2++[zE 0 0 0 c.t 0]).length=h2.length+1:=π;rw[l3]at Tb;have l4:h2.length+1<=h4.length:=by rw[G5,ZW,l3];omega
 have l5:h5.length=h4.length+3:=by rw[ui];simp
 have e4:∀l,l<h2.length->h4[l]? = h2[l]? := λl hl=>by rw[G5,V9,QG hl]
 have e5:∀l,l<h4.length->h5[l]? = h4[l]? := λl hl=>by rw[ui,QG hl]
 have DL:h4[h2.length]? = some (zE 0 0 0 c.t 0):=by rw[G5,V9];exact KV rfl
 have ZO:YS (λl=>h4.length<=l) h5 (h4.length+2) ⟨λ_=>[],λ_=>default⟩:=by rw[ui];exact YS.fresh h4 _ λ_ h=>h
 obtain⟨H,hH⟩:∃H,H=h5++[zD ps h2.length pr (h4.length+2) 0 0]:=⟨_,rfl⟩;have e6:∀l,l<h5.length->H[l]? = h5[l]? := λl hl=>by rw[hH,QG hl]
 have hp:H[h5.length]? = some (zD ps h2.length pr (h4.length+2) 0 0):=by rw[hH];exact KV rfl
 obtain⟨G6,OS⟩:∃t:Nat->TT,t=λl=>if l<h2.length then Z4 Vr h1 .no l else if l=h2.length then .ln else if l<h4.length then .G0 else if l<h5.length then .st else if l=h5.length then .sys else .no:=⟨_,rfl⟩;have t0:∀l,l<h2.length->G6 l=Z4 Vr h1 .no l:=λl hl=>by rw[OS];dsimp only;rw[Qd hl]
 have t1:G6 h2.length=.ln:=by rw[OS];dsimp only;rw[Qc ω,Qd rfl]
 have t2:∀l,h2.length+1<=l->l<h4.length->G6 l=.G0:=λl h1 h2=>by rw[OS];dsimp only;rw[Qc ω,Qc ω,Qd h2]
 have t3:∀l,h4.length<=l->l<h5.length->G6 l=.st:=λl h1 h2=>by rw[OS];dsimp only;rw[Qc ω,Qc ω,Qc ω,Qd h2]
 have t4:G6 h5.length=.sys:=by rw[OS];dsimp only;rw[Qc ω,Qc ω,Qc ω,Qc ω,Qd rfl]
 have X:Wq (QV JW h2 .no) G6 H h5.length ps h2.length pr (h4.length+2) (S0 c):=by
  refine⟨hp,t4,C2.step λl hl _=>⟨Kg hl,by rw[e6 l ω,e5 l ω,e4 l hl]⟩,⟨0,0,0,?_⟩,t1,Tb.step λj hj h1=>⟨t2 j h1 hj,by rw[e6 j ω,e5 j hj]⟩,ZO.step λj hj h1=>⟨t3 j h1 hj,e6 j hj⟩,λl hl=>?_⟩
  .rw[e6 _ ω,e5 _ ω];exact DL
  .by_cases h6:l<h2.length
   .rw[t0 l h6]at hl;rw[Kg h6];by_cases h7:l<h1.length
    .rw[Vh h7]at hl;rw[D2.same l h7];exact gJ l hl
    .rw[EW ω]at hl;exact absurd rfl hl
   .exact jj ω
 have KH:Jo h.length own tw h (QV JW h2 .no) G6 H:=by
  have hle:=K2.len;exact⟨λl hl=>by rw[Kg ω];exact K2.s1 l hl,λl hl=>by rw[t0 l ω];exact K2.s2 l hl,λl hl h1 h2=>by rw[e6 l ω,e5 l ω,e4 l ω];exact K2.keep l hl h1 h2,λl hl h1=>by rw[e6 l ω,e5 l ω,e4 l ω];exact K2.my l hl h1,by rw[hH];simp;omega⟩
 subst hH;exact⟨_,G6,_,rfl,⟨_,_,_,_,X⟩,KH⟩
end Go.Fg.X
namespace Go.Fg.X
open Go.Proofs Go.Fg
open Go.RowKit (Below)
open Go.Proofs.Tryz
def Qi4{P}{f}{args}{R}(d2:D)(hu:d2.upto 0=true)
  (hd:∀d hh,R d hh->Ke 6 d d2\/(∃lo g sz n row,hh[lo]? = some ⟨.arr,g,sz,n,row⟩/\(∀i,i<n->(row i).all D.qI=true)/\Ke 6 (D.fz lo g n sz row d) d2) \/
   ∃lo g sz n row LK g' gK n' JU,hh[lo]? = some ⟨.arr,g,sz,n,row⟩/\hh[LK]? = some ⟨.arr,g',gK,n',JU⟩/\LK≠lo/\(∀i,i<n->(row i).all D.qI=true)/\(∀i,i<n'->(JU i).all D.qI=true)/\Ke 6 (D.fz LK g' n' gK JU (D.fz lo g n sz row d)) d2) (h:QW P f args R):QW P f args (QN d2):=by
 intro Z base w pl vs h1 h2 h3 hl hc;have Zh:pl=[]:=by have:=h3.len;simpa using this
 subst Zh;refine(h Z base w [] vs h1 h2 h3 hl hc).mono λe w' he=>?_;obtain⟨v,d,hh,Qi,rfl,hR,hO,hV,hT,hB⟩:=he;suffices fin:QC Z [] [] w' d2 v by
  exact⟨v,_,[],[],rfl,⟨rfl,rfl⟩,Zi.nil,fin,⟨λb hb Qb=>⟨hb,(hT.J3 b hb Qb).2⟩,λl o p e=>by simp at e,λl o o' b q e=>by simp at e⟩,hB⟩
 rcases hd _ _ hR with hle|⟨lo,g,sz,n,row,Zq,Z7,hle⟩|⟨lo,g,sz,n,row,LK,g',gK,n',JU,Zq,uj,Qz9,Z7,Qi5,hle⟩
 .exact(v8 6 hle hV).take hu
 .have Qb:lo<Qi.length:=by rw[hO.len];exact(WC.1 Zq).1
  obtain⟨p,hp⟩:∃p,Qi[lo]? = some p:=⟨_,QP Qb⟩;have Cu:=hV.fz (l:=lo) (o:=⟨.arr,g,sz,n,row⟩) (p:=p) Zq hp rfl (λb q e=>by
   subst e;refine⟨h2 b ?_,λl' q' e'=>?_,(hO.at_ lo _ b q Zq hp).2.cells rfl⟩
   .rcases w9 b w.heap.size with Qb|Yb
    .exact absurd hp ((hT.J3 b (λi q e=>by simp at e) Qb).1 lo q)
    .exact Yb
   .exact hO.inj _ _ _ _ _ e' hp) Z7 (h':=hh.set lo (Ob.gone ⟨.arr,g,sz,n,row⟩)) (λl' o' QA e=>by
   exact⟨o',by rw[Jw (Q3 QA)];exact e,rfl,rfl,rfl⟩)
  exact(v8 6 hle Cu).take hu
 .have pos:∀{lo:Nat} {o:Ob},hh[lo]? = some o->∃p,Qi[lo]? = some p:=λ{lo o} Zq=>by
   have Qb:lo<Qi.length:=by rw[hO.len];exact(WC.1 Zq).1
   exact⟨_,QP Qb⟩
  have zb:∀{lo b q:Nat},Qi[lo]? = some (some (b,q))->Z b:=λ{lo b q} hp=>h2 b (by
   rcases w9 b w.heap.size with Qb|Yb
   .exact absurd hp ((hT.J3 b (λi q e=>by simp at e) Qb).1 lo q)
   .exact Yb)
  obtain⟨p,hp⟩:=pos Zq;obtain⟨p',ZS⟩:=pos uj;have r1:=hV.fz (l:=lo) (o:=⟨.arr,g,sz,n,row⟩) (p:=p) Zq hp rfl (λb q e=>by
   subst e;exact⟨zb hp,λl' q' e'=>hO.inj _ _ _ _ _ e' hp,(hO.at_ lo _ b q Zq hp).2.cells rfl⟩) Z7 (h':=hh) (λl' o' QA e=>⟨o',e,rfl,rfl,rfl⟩)
  have Zh:∀(l':Nat),l'≠lo->(Qi.set lo none)[l']? = Qi[l']? := λl' YY=>by rw[Jw (Q3 YY)]
  have QA:LK≠lo:=Qz9;have r2:=r1.fz (l:=LK) (o:=⟨.arr,g',gK,n',JU⟩) (p:=p') uj ((Zh _ QA).trans ZS) rfl (λb q e=>by
   subst e;refine⟨zb ZS,λl' q' e'=>?_,?_⟩
   .by_cases e1:l'=lo
    .subst e1;rw[Wt (Wc hp)]at e';cases e'
    .rw[Zh _ e1]at e';exact hO.inj _ _ _ _ _ e' ZS
   .obtain⟨c,el,c1,c2,c3,c4⟩:=(hO.at_ LK _ b q uj ZS).2.cells rfl;refine⟨c,el,c1,c2,c3,λi j hi hj=>?_⟩;obtain⟨v,hv,hr⟩:=c4 i j hi hj;have h5:=Qi5 i hi;rw[XK]at h5;have h6:j<(JU i).length:=by rw[c3 i hi];exact hj
    have h7:(nth (JU i) j).qI=true:=h5 _ (by
     simp only[nth,Q5,QP h6,KR];exact YU h6)
    exact⟨v,hv,.cl _ _ ((FO hr h7).mono (N':=free Z (Qi.set lo none)) (w':=w') λb hb _=>⟨⟨hb.1,λl q e=>by
     by_cases e1:l=lo
     .subst e1;rw[Wt (Wc hp)]at e;cases e
     .rw[Zh _ e1]at e;exact hb.2 l q e⟩,rfl⟩)⟩) Qi5 (h':=hh) (λl' o' QA e=>⟨o',e,rfl,rfl,rfl⟩)
  exact(v8 6 hle r2).take hu
end Go.Fg.X
namespace Go.Fg.X
open Go.Proofs Go.Fg
open Go.Proofs.Tryz
def Qi6(u)(a b):∀fr:List (Nat × D),put (put fr u a) u b=put fr u b
 | []=>by simp[put]
 | (t,e)::r=>by
  cases h:Nat.beq t u with
  | true=>simp[put,h]
  | false=>simp[put,h,Qi6 u a b r]
def QAa{α:Type}[Inhabited α]{w0:Start}(hF:w0.F=[])(hp:w0.pl=[]){S:Nat->Prop}{sz:Nat}{f:α->List D}(hf:∀a,(f a).all D.qI=true){fr:List (Nat × D)}{h:List Ob}{d:D}{L:List α}(t:Nat)(ht:get fr t=d)(hS:zF S h sz f d L):
  ∃row h',Qz w0 ⟨fr,h⟩ ⟨put fr t (.imm sz L.length row),h'⟩/\(∀i,i<L.length->row i=f (L.getD i default))/\h.length<=h'.length/\∀l,l<h.length->¬S l->h'[l]? = h[l]? := by
 have ql:w0.pl.length=w0.F.length:=by rw[hF,hp];rfl
 have hg:∀h:List Ob,oq w0.F h:=λh l o e=>by rw[hF]at e;simp at e
 have hz:∀n,w0.F.length<=n:=λn=>by rw[hF];exact Jh _
 rcases hS with ⟨rfl,rfl⟩|⟨lo,g,row,rfl,QAb,cZ,NN⟩
 .refine⟨rowFrom 0 (λ_=>[]),h++[(⟨.arr,0,sz,0,λ_=>[]⟩:Ob).gone],?_,λi hi=>absurd hi (WZ i),π,λl hl QA=>QG hl⟩;have W1:=Qz.Qir (w0:=w0) (h:=h) t sz ht;have W2:=Qz.ot ql (hg _) t h.length (hz _) (fr:=put fr t (.ref h.length 0 0 0)) (h:=h++[(⟨.arr,0,sz,0,λ_=>[]⟩:Ob)]) (o:=⟨.arr,0,sz,0,λ_=>[]⟩) (off:=0) (len:=0) (by rw[Fs,Qd rfl]) (KV rfl) (QB 0) rfl (λi hi=>absurd hi (WZ i));rw[Qi6,bF rfl]at W2;exact Qz.trans W1 W2
 .refine⟨rowFrom 0 row,_,Qz.ot ql (hg _) t lo (hz _) ht cZ (by show 0+L.length<=L.length;omega) rfl (λi hi=>?_),λi hi=>?_,π,λl hl QA=>?_⟩
  .show (row i).all D.qI=true;rw[NN i hi];exact hf _
  .rw[Rt,JD,NN i hi]
  .exact Qr λe=>QA (by rw[<- e];exact QAb)
def Wr.far{own}{tw}{h h':List Ob}{p}{S}(T:Wr own tw h p S)(hl:h.length<=h'.length)(e:∀l,l<h.length->¬(own l=.no/\tw l=.no)->h'[l]? = h[l]?):Wr (QV own h .no) (Z4 tw h .no) h' p S:=by
 obtain⟨ps,lp,pr,pt,T⟩:=T;exact⟨_,_,_,_,T.step (λl Qb=>⟨λhv=>⟨Kg Qb,e l Qb λh1=>hv.1 h1.1⟩,λhv _=>⟨Vh Qb,e l Qb λh1=>hv h1.2⟩⟩) (gA T.ap)⟩
structure ZV.Small (o:ZV):Prop where
 c:o.changes.length<1000000
 r:o.rules.length<1000000
def Qi7(S:ZF)(op now:Nat)(k:Int):((Js S op now).1.st.Jc k).length<=(S.st.Jc k).length:=by
 have hw:∀(s:Da) (cls:Int) (done:Nat) (bytes:Int) (real:Bool),((YP s cls done bytes real).Jc k).length<=(s.Jc k).length:=λs cls done bytes real=>by
  unfold YP;cases hc:s.Jc cls with
  | nil=>exact QB _
  | cons a l=>
   dsimp only;split
   .exact QB _
   .split
    .exact QB _
    .dsimp only;split
     .rename_i e;rw[e,hc];simp
     .exact QB _
 unfold Js;split
 .exact QB _
 .split
  .exact hw _ _ _ _ _
  .exact QB _
def Qi8(op e)(k:Int):∀(n:Nat) (S:ZF),((Vg op e n S).1.st.Jc k).length<=(S.st.Jc k).length
 | 0,S=>QB _
 | n+1,S=>by
  unfold Vg;split
  .exact QB _
  .exact Ki (Qi8 op e k n _) (Qi7 { S with Qf:=Zs S } op (Zs S) k)
def OR.do{S}(C:OR S)(o:ZV):OR (JM S o).S:=by
 refine⟨λk=>?_⟩;rw[QiC];have hk:=C.ca k;show ((VX { S with ops:=S.ops+1 } S.ops o).S.st.Jc k).length<=S.ops+1;unfold VX;split
 .show (S.st.Jc k).length<=_;omega
 .split
  .split<;>(show (S.st.Jc k).length<=_;omega)
  .split
   .unfold YR;split
    .show (S.st.Jc k).length<=_;omega
    .split
     .refine Ki (Qi7 _ _ _ k) ?_;show (if k=_ then S.st.Jc k++[S.Qf] else S.st.Jc k).length<=_;split
      .rw[ZW];show _+1<=_;omega
      .omega
     .show (S.st.Jc k).length<=_;omega
   .split
    .unfold qZ;split
     .show (S.st.Jc k).length<=_;omega
     .exact Ki (Qi8 _ _ k _ _) (by show (S.st.Jc k).length<=_;omega)
    .show (S.st.Jc k).length<=_;omega
def Wr.Qi9{own}{tw}{h h':List Ob}{p}{S}(T:Wr own tw h p S)(e:∀l,l<h.length->¬(own l=.no/\(tw l=.no\/tw l=.my))->h'[l]? = h[l]?):Wr (QV own h .no) (Z4 tw h .my) h' p S:=by
 obtain⟨ps,lp,pr,pt,T⟩:=T;refine⟨_,_,_,_,T.step (λl Qb=>⟨λhv=>⟨Kg Qb,e l Qb λh1=>hv.1 h1.1⟩,λhv hm=>⟨Vh Qb,e l Qb λh1=>h1.2.elim hv hm⟩⟩) λl hl=>?_⟩;by_cases h1:l<h.length
 .rw[Vh h1]at hl;rw[Kg h1];exact T.ap l hl
 .exact jj ω
def kv.rows(l:List kv):Nat->List D:=λi=>(l.getD i default).cells
@[go_sem] theorem kv.xA(l:List kv)(i):kv.rows l i=(l.getD i default).cells:=rfl
@[go_sem] def QGv(l:List kv):D:=.imm 3 l.length (kv.rows l)
structure QGw (x:YD) (p q k:Nat) (own:Nat->Tag) (tw:Nat->TT) (H:List Ob) (S:ZF) (R:List kv) (E:List Ev) (dR dE:D):Prop where
 T:Wr own tw H p S
 V:Jd S
 C:OR S
 ops:S.ops=k
 hx:H[0]? = some ⟨.one,0,3,1,λ_=>x.cells⟩
 hr:H[1]? = some ⟨.one,0,2,1,λ_=>[.nil,.nil]⟩
 hq:H[q]? = some ⟨.one,0,2,1,λ_=>[dR,dE]⟩
 q2:2<=q
 my:∀l,l=0\/l=1\/l=q->own l=.no/\tw l=.my
 sR:zF (λl=>own l=.no/\tw l=.my) H 3 kv.cells dR R
 sE:zF (λl=>own l=.no/\tw l=.my) H 12 Ev.cells dE E
 run:Zn (S0 x.config) (x.ops.take k)=(S,R,E)
 lR:R.length=k
 lE:E.length<=5000*k
def QAd(S:ZF)(o:ZV)(h:VR S.M<=4096):(JM S o).l.length<=5000:=by
 have hg:∀(op e n:Nat) (S:ZF),(Vg op e n S).2.length<=n:=by
  intro op e n;induction n with
  | zero=>exact λS=>QB _
  | succ n ih=>
   intro S;unfold Vg;split
   .exact Jh _
   .have h1:=ih (Js { S with Qf:=Zs S } op (Zs S)).1;have h2:=TR { S with Qf:=Zs S } op (Zs S);dsimp only;rw[ZW];omega
 show (VX { S with ops:=S.ops+1 } S.ops o).l.length<=5000;unfold VX;split
 .exact Jh _
 .split
  .split<;>exact Jh _
  .split
   .unfold YR;split
    .exact Jh _
    .split
     .have h2:=TR { { S with ops:=S.ops+1 } with M:=Jx S.M S.Qf (Kr S.R (ZR o.ZI)) o.ZI,st:=vw S.st (Kr S.R (ZR o.ZI)) S.Qf } S.ops S.Qf;show (_::_:List Ev).length<=5000;rw[Kv];exact Ki (Nat.succ_le_succ h2) τ
     .exact Jh _
   .split
    .unfold qZ;split
     .exact Jh _
     .have:=hg S.ops (S.Qf+o.Wi.toNat) (VR S.M+1) { S with ops:=S.ops+1 };exact Ki this ω
    .exact Jh _
def Jd.start{own}{tw}{h}{p}{c}(T:Wr own tw h p (S0 c)):Jd (S0 c):=by
 obtain⟨_,_,_,_,T⟩:=T;exact⟨T.co.I,T.co.V,T.co.K,λj x hx=>(by cases hx),QB _,Jh _,Jh _,λk=>⟨BQ _,BQ _,BQ _,BQ _,BQ _⟩,λk a ha=>(by cases ha)⟩
def QAe{α:Type}[Inhabited α]{f:α->List D}{L M:List α}{r1 r2:Nat->List D}(h1:∀i,i<L.length->r1 i=f (L.getD i default))(h2:∀i,i<M.length->r2 i=f (M.getD i default)):∀i,i<(L++M).length->Kt L.length 0 r1 r2 i=f ((L++M).getD i default):=by
 intro i hi;rw[ZW]at hi;rw[Q5];by_cases hl:i<L.length
 .rw[Az hl,JD,h1 i hl,JC hl,Q5]
 .rw[xk ω,h2 _ ω,Kb ω,Q5]
def QGw.next{x:YD}{p q k}{own}{tw}{H}{S}{R}{E}{dR dE}(I:QGw x p q k own tw H S R E dR dE)(hk:k<x.ops.length)(ho:∀c∈(x.ops.getD k default).changes,JN.Ok c){CS}{G3}{h4 h':List Ob}{Y:OG}(hY:Y=JM S (x.ops.getD k default))(T:Wr CS G3 h4 p Y.S)(hl:h4.length<=h'.length)(e:∀l,l<h4.length->¬(CS l=.no/\(G3 l=.no\/G3 l=.my))->h'[l]? = h4[l]?)
  (my:∀l o,l<H.length->own l=.no->tw l=.my->H[l]? = some o->CS l=.no/\G3 l=.my/\h4[l]? = some o) {dR' dE':D}
  (e0:h'[0]? = h4[0]?) (e1:h'[1]? = h4[1]?) (eq:h'[q]? = some ⟨.one,0,2,1,λ_=>[dR',dE']⟩)
  (sR:zF (λl=>h4.length<=l\/CS l=.no/\G3 l=.my) h' 3 kv.cells dR' (R++[Y.r])) (sE:zF (λl=>h4.length<=l\/CS l=.no/\G3 l=.my) h' 12 Ev.cells dE' (E++Y.l)) :
  QGw x p q (k+1) (QV CS h4 .no) (Z4 G3 h4 .my) h' Y.S (R++[Y.r]) (E++Y.l) dR' dE':=by
 have tg:∀l,(h4.length<=l\/CS l=.no/\G3 l=.my)->QV CS h4 .no l=.no/\Z4 G3 h4 .my l=.my:=λl hl=>by
  by_cases h1:l<h4.length
  .rw[Kg h1,Vh h1];exact hl.resolve_left ω
  .exact⟨jj ω,EW ω⟩
 have m0:=my 0 _ (Qb I.hx) (I.my 0 (.inl rfl)).1 (I.my 0 (.inl rfl)).2 I.hx;have m1:=my 1 _ (Qb I.hr) (I.my 1 (.inr (.inl rfl))).1 (I.my 1 (.inr (.inl rfl))).2 I.hr;have mq:=my q _ (Qb I.hq) (I.my q (.inr (.inr rfl))).1 (I.my q (.inr (.inr rfl))).2 I.hq;have hn:x.ops.take (k+1)=x.ops.take k++[x.ops.getD k default]:=by
  rw[Fo,QP hk,Q5,QP hk];rfl
 refine⟨T.Qi9 e,?_,?_,?_,e0.trans m0.2.2,e1.trans m1.2.2,eq,I.q2,λl hl=>?_,sR.step λj _ hj=>⟨tg j hj,rfl⟩,sE.step λj _ hj=>⟨tg j hj,rfl⟩,?_,?_,?_⟩
 .rw[hY];exact I.V.do ho
 .rw[hY];exact I.C.do _
 .rw[hY,QiC,I.ops]
 .rcases hl with rfl|rfl|rfl
  .exact tg _ (.inr ⟨m0.1,m0.2.1⟩)
  .exact tg _ (.inr ⟨m1.1,m1.2.1⟩)
  .exact tg _ (.inr ⟨mq.1,mq.2.1⟩)
 .rw[hn,Qix,I.run,hY];simp only[Zn,JI]
 .rw[ZW,I.lR];rfl
 .obtain⟨_,_,_,_,Tx⟩:=I.T;have h1:=QAd S (x.ops.getD k default) Tx.co.gG;have h2:=I.lE;rw[ZW,hY];omega
def Qrs{RR:List kv}{row}(h:∀i,i<RR.length->row i=kv.cells (RR.getD i default)){k}:Ke (k+1) (.imm 3 RR.length (rowFrom 0 row)) (QGv RR):=⟨rfl,rfl,λi hi=>by rw[Rt,JD,h i hi];exact HZ (DS _) _⟩
def QrN{RR:List Ev}{row}(h:∀i,i<RR.length->row i=Ev.cells (RR.getD i default)){k}:Ke (k+1) (.imm 12 RR.length (rowFrom 0 row)) (V0 RR):=⟨rfl,rfl,λi hi=>by rw[Rt,JD,h i hi];exact HZ (DS _) _⟩
def run_freeze{S}{hh}{dR dE}{RR}{EE}(h1:zF S hh 3 kv.cells dR RR)(h2:zF S hh 12 Ev.cells dE EE){d}(e:d=.tup [.agg [dR,dE],Qa 0]):
  Ke 6 d (.tup [.agg [QGv RR,V0 EE],Qa 0])\/(∃lo g sz n row,hh[lo]? = some ⟨.arr,g,sz,n,row⟩/\(∀i,i<n->(row i).all D.qI=true)/\Ke 6 (D.fz lo g n sz row d) (.tup [.agg [QGv RR,V0 EE],Qa 0])) \/
   ∃lo g sz n row LK g' gK n' JU,hh[lo]? = some ⟨.arr,g,sz,n,row⟩/\hh[LK]? = some ⟨.arr,g',gK,n',JU⟩/\LK≠lo/\(∀i,i<n->(row i).all D.qI=true)/\(∀i,i<n'->(JU i).all D.qI=true)/\Ke 6 (D.fz LK g' n' gK JU (D.fz lo g n sz row d)) (.tup [.agg [QGv RR,V0 EE],Qa 0]):=by
 subst e;have nb:∀{a b:Nat},a≠b->Nat.beq a b=false:=λ{a b} h=>by rw[<- Ys,Wa];exact h
 rcases h1 with ⟨rfl,rfl⟩|⟨IT,gR,Qb0,rfl,_,eB,hrR⟩
 .rcases h2 with ⟨rfl,rfl⟩|⟨G2,gE,o0,rfl,_,gX,tt⟩
  .exact .inl ⟨⟨rfl,rfl,trivial⟩,rfl,trivial⟩
  .refine .inr (.inl ⟨G2,gE,12,_,o0,gX,λi hi=>by rw[tt i hi];rfl,?_⟩);have e1:D.fz G2 gE EE.length 12 o0 (.tup [.agg [.nil,.ref G2 gE 0 EE.length],Qa 0])=.tup [.agg [.nil,.imm 12 EE.length (rowFrom 0 o0)],Qa 0]:=by simp[D.fz,kW,Rj,Qa]
   rw[e1];exact⟨⟨rfl,QrN tt,trivial⟩,rfl,trivial⟩
 .rcases h2 with ⟨rfl,rfl⟩|⟨G2,gE,o0,rfl,_,gX,tt⟩
  .refine .inr (.inl ⟨IT,gR,3,_,Qb0,eB,λi hi=>by rw[hrR i hi];rfl,?_⟩);have e1:D.fz IT gR RR.length 3 Qb0 (.tup [.agg [.ref IT gR 0 RR.length,.nil],Qa 0])=.tup [.agg [.imm 3 RR.length (rowFrom 0 Qb0),.nil],Qa 0]:=by simp[D.fz,kW,Rj,Qa]
   rw[e1];exact⟨⟨Qrs hrR,rfl,trivial⟩,rfl,trivial⟩
  .have QA:G2≠IT:=yd gX eB (.inr nofun);refine .inr (.inr ⟨IT,gR,3,_,Qb0,G2,gE,12,_,o0,eB,gX,QA,λi hi=>by rw[hrR i hi];rfl,λi hi=>by rw[tt i hi];rfl,?_⟩);have e1:D.fz G2 gE EE.length 12 o0 (D.fz IT gR RR.length 3 Qb0 (.tup [.agg [.ref IT gR 0 RR.length,.ref G2 gE 0 EE.length],Qa 0]))=.tup [.agg [.imm 3 RR.length (rowFrom 0 Qb0),.imm 12 EE.length (rowFrom 0 o0)],Qa 0]:=by simp[D.fz,kW,Rj,nb QA,Qa]
   rw[e1];exact⟨⟨Qrs hrR,QrN tt,trivial⟩,rfl,trivial⟩
def QIi(x:YD)(K:WM x.config)(hl:x.ops.length<=1000)(ZM:∀o∈x.ops,ZV.Ok o/\ZV.Small o):
  QW prog 14 [.agg x.cells] (QN (.tup [.agg [QGv (Zn (S0 x.config) x.ops).2.1,V0 (Zn (S0 x.config) x.ops).2.2],Qa 0])):=by
 have dl:decide ((1000:Int)<(x.ops.length:Int))=false:=QI ω;refine Qi4 (R:=λd hh=>∃(S:Nat->Prop) (dR dE:D),d=.tup [.agg [dR,dE],Qa 0]/\zF S hh 3 kv.cells dR (Zn (S0 x.config) x.ops).2.1/\zF S hh 12 Ev.cells dE (Zn (S0 x.config) x.ops).2.2) _ rfl (λd hh ⟨S,dR,dE,e,h1,h2⟩=>run_freeze h1 h2 e) ?_;refine bn Q4 200 func14 rfl ntmps14 results14 rfl λbase w hb=>?_;simp only[go_sem];have hN:=Qz8 (own:=λ_=>.no) (tw:=λ_=>.my) (λ_ _=>rfl) [(⟨.one,0,3,1,λ_=>x.cells⟩:Ob),⟨.one,0,2,1,λ_=>[.nil,.nil]⟩] K;refine Zw hb QpM hN λd h1 hR=>?_;obtain⟨Jl,Vr,p,rfl,T1,K1⟩:=hR;have Xz:h1[0]? = some _:=K1.my 0 π rfl;have We:h1[1]? = some _:=K1.my 1 π rfl;have LI:=Qb Xz;apply Qg hb;simp only[go_sem,Qe,Xz,LI,dl];have OM:=Qb We;have T1':=T1;obtain⟨_,_,_,_,T1x⟩:=T1';have I0:QGw x p h1.length 0 (QV Jl h1 .no) (Z4 Vr h1 .my) (h1++[(⟨.one,0,2,1,λ_=>[.nil,.nil]⟩:Ob)]) (S0 x.config) [] [] .nil .nil:=by
  refine⟨⟨_,_,_,_,T1x.BG _⟩,Jd.start T1,⟨λk=>Jh _⟩,rfl,(QG LI).trans Xz,(QG OM).trans We,KV rfl,by have:=K1.len;simpa using this,λl YY=>?_,.inl ⟨rfl,rfl⟩,.inl ⟨rfl,rfl⟩,rfl,rfl,Jh _⟩;rcases YY with rfl|rfl|rfl
  .exact⟨(Kg LI).trans (K1.s1 0 π),(Vh LI).trans (K1.s2 0 π)⟩
  .exact⟨(Kg OM).trans (K1.s1 1 π),(Vh OM).trans (K1.s2 1 π)⟩
  .exact⟨jj (QB _),EW (QB _)⟩
 obtain⟨q,hq⟩:∃q,q=h1.length:=⟨_,rfl⟩;rw[<- hq]at I0 ⊢;refine Z3 (λk s=>∃own tw H S R E dR dE,QGw x p q k own tw H S R E dR dE/\s=⟨[(2,.ptr 1 0 0 0),(3,Qa 0),(4,.ptr p 0 0 0),(5,Qa 0),(6,.ptr q 0 0 0),(29,.imm 10 x.ops.length (ZV.rows x.ops)),(30,Qa x.ops.length),(31,Qa k)],H⟩) x.ops.length QM ⟨_,_,_,_,_,_,_,_,I0,rfl⟩ ?_;clear I0 T1 T1x K1 Xz We LI OM hN hq;rintro k _ hk ⟨own,tw,H,S,R,E,dR,dE,I,rfl⟩;by_cases Qj:k<x.ops.length
 .have dk:=QU Qj;have Zb:=J9 (show k<4611686018427387904 from ω);obtain⟨o,ho⟩:∃o,o=x.ops.getD k default:=⟨_,rfl⟩;have gW:o∈x.ops:=by rw[ho];exact qg x.ops default k Qj
  obtain⟨⟨_,_,_,_,Tx⟩,hV,hC,gI⟩:=And.intro I.T (And.intro I.V (And.intro I.C I.ops));have T1:=Tx.BG [⟨.one,0,10,1,λ_=>o.cells⟩];have K1:=Jo.app (n:=H.length) own tw H [⟨.one,0,10,1,λ_=>o.cells⟩] .my (QB _);have hDo:=QzX ⟨_,_,_,_,T1⟩ hV hC ω o (ZM o gW).1 (ZM o gW).2.c (ZM o gW).2.r;apply Qg hb;simp only[go_sem,Qe,Qj,<- ho];refine Zw hb QpN hDo λd h2 hR=>?_;obtain⟨dl,JW,Xd,rfl,T2,s2,K2⟩:=hR;refine HU Q4 hb 10 ?_;simp only[go_sem,Qe];obtain⟨Y,hY⟩:∃Y,Y=JM S o:=⟨_,rfl⟩;rw[<- hY]at T2 s2 ⊢;obtain⟨_,_,_,_,T2x⟩:=T2;have FH:H.length+1<=h2.length:=by have:=K2.len;simpa using this
  have T3:=T2x.BG [⟨.one,0,3,1,λ_=>Y.r.cells⟩];have s3:zF (λl=>l<h2.length/\JW l=.no/\Xd l=.no) (h2++[(⟨.one,0,3,1,λ_=>Y.r.cells⟩:Ob)]) 12 Ev.cells dl Y.l:=s2.step λj hj h1=>⟨⟨hj,h1.2⟩,QG hj⟩;have my2:∀l o',l<H.length->own l=.no->tw l=.my->H[l]? = some o'->JW l=.no/\Xd l=.my/\h2[l]? = some o':=λl o' hl h1 h2 h3=>by
   have Jj:l<(H++[(⟨.one,0,10,1,λ_=>o.cells⟩:Ob)]).length:=δ;have a1:=(K1.s1 l hl).trans h1;have a2:=(K1.s2 l hl).trans h2;exact⟨(K2.s1 l Jj).trans a1,(K2.s2 l Jj).trans a2,(K2.my l Jj a2).trans ((QG hl).trans h3)⟩
  obtain⟨row,h4,W4,ZG,dS,k4⟩:=QAa (w0:=⟨w,[],[]⟩) rfl rfl (λa=>rfl) (fr:=[(2,.ptr 1 0 0 0),(3,Qa 0),(4,.ptr p 0 0 0),(5,Qa 0),(6,.ptr q 0 0 0),(9,.ptr h2.length 0 0 0),(10,dl),(29,.imm 10 x.ops.length (ZV.rows x.ops)),(30,Qa x.ops.length),(31,Qa k),(41,.ptr q 0 0 0)]) (h:=h2++[(⟨.one,0,3,1,λ_=>Y.r.cells⟩:Ob)]) 10 rfl s3;have dS:h2.length+1<=h4.length:=by simpa using dS
  have QfM:h4[h2.length]? = some ⟨.one,0,3,1,λ_=>Y.r.cells⟩:=by rw[k4 _ π (λh=>absurd h.1 (Mb _))];exact KV rfl
  obtain⟨CS,Qjc⟩:∃f,f=QV (QV JW h2 .no) (h2++[(⟨.one,0,3,1,λ_=>Y.r.cells⟩:Ob)]) .no:=⟨_,rfl⟩;obtain⟨G3,Qjd⟩:∃f,f=Z4 (Z4 Xd h2 .my) (h2++[(⟨.one,0,3,1,λ_=>Y.r.cells⟩:Ob)]) .no:=⟨_,rfl⟩;have T4:Wr CS G3 h4 p Y.S:=by
   rw[Qjc,Qjd];refine Wr.far ⟨_,_,_,_,T3⟩ (by simpa using dS) λl hl hn=>k4 l hl λhh=>hn ?_;exact⟨(Kg hh.1).trans hh.2.1,(Vh hh.1).trans hh.2.2⟩
  have my4:∀l o',l<H.length->own l=.no->tw l=.my->H[l]? = some o'->CS l=.no/\G3 l=.my/\h4[l]? = some o':=λl o' hl h1 Yu h3=>by
   obtain⟨b1,b2,b3⟩:=my2 l o' hl h1 Yu h3;have Jp:l<h2.length:=ω;have Cz:l<(h2++[(⟨.one,0,3,1,λ_=>Y.r.cells⟩:Ob)]).length:=δ;refine⟨by rw[Qjc,Kg Cz,Kg Jp];exact b1,by rw[Qjd,Vh Cz,Vh Jp];exact b2,?_⟩;rw[k4 l Cz λh=>(by rw[b2]at h;cases h.2.2),QG Jp];exact b3
  refine Rp (Qz.trans (Qz.frame (fr':=[(2,.ptr 1 0 0 0),(3,Qa 0),(4,.ptr p 0 0 0),(5,Qa 0),(6,.ptr q 0 0 0),(9,.ptr h2.length 0 0 0),(10,dl),(29,.imm 10 x.ops.length (ZV.rows x.ops)),(30,Qa x.ops.length),(31,Qa k),(41,.ptr q 0 0 0)]) (by simp only[go_sem])) W4) ?_;have vh:=Qb I.hx;have Y0:=Qb I.hr;have QrP:=Qb I.hq;obtain⟨qo,qt,hq4⟩:=my4 q _ QrP (I.my q (.inr (.inr rfl))).1 (I.my q (.inr (.inr rfl))).2 I.hq;have bz:=Qb hq4;have QK2:=Qb QfM;have sR4:zF (λl=>CS l=.no/\G3 l=.my) h4 3 kv.cells dR R:=I.sR.imp id λ⟨lo,g,row,a1,a2,a3,a4⟩=>by
   obtain⟨b1,b2,b3⟩:=my4 lo _ (Qb a3) a2.1 a2.2 a3;exact⟨lo,g,row,a1,⟨b1,b2⟩,b3,a4⟩
  have sE4:zF (λl=>CS l=.no/\G3 l=.my) h4 12 Ev.cells dE E:=I.sE.imp id λ⟨lo,g,row,a1,a2,a3,a4⟩=>by
   obtain⟨b1,b2,b3⟩:=my4 lo _ (Qb a3) a2.1 a2.2 a3;exact⟨lo,g,row,a1,⟨b1,b2⟩,b3,a4⟩
  have fA:=I.lR;have IX:=I.lE;have q4:=I.q2;obtain⟨_,_,_,_,Tc⟩:=I.T;have hlY:=QAd S o Tc.co.gG;rw[<- hY]at hlY;have zy:=λh'=>I.next (h':=h') Qj (ho▸(ZM o gW).1.2.1.2) (by rw[<- ho];exact hY) (CS:=CS) (G3:=G3) (h4:=h4) T4;have Z7:∀i,i<Y.l.length->(row i).all D.Vn=true:=λi hi=>by rw[ZG i hi];rfl
  have tn:∀{l},¬(CS l=.no/\(G3 l=.no\/G3 l=.my))->∀{l'},CS l'=.no/\G3 l'=.my->l'≠l:=λh l' h' e=>h (e▸⟨h'.1,.inr h'.2⟩);have n0:q≠0:=ω;have n1:q≠1:=ω;have z0:0<h4.length:=ω;have z1:1<h4.length:=ω;have z40:=(my4 0 _ vh (I.my 0 (.inl rfl)).1 (I.my 0 (.inl rfl)).2 I.hx).2.2;have z41:=(my4 1 _ Y0 (I.my 1 (.inr (.inl rfl))).1 (I.my 1 (.inr (.inl rfl))).2 I.hr).2.2;rcases sR4 with ⟨rfl,rfl⟩|⟨IT,gR,Qb0,rfl,hSR,eB,hrR⟩
  .rcases sE4 with ⟨rfl,rfl⟩|⟨G2,gE,o0,rfl,hSE,gX,tt⟩
   .apply Qg hb;simp only[go_sem,Qe,hq4,bz,QfM,QE];refine⟨⟨ω,Z7⟩,Qj,_,Qz.frame (by simp only[go_sem,Zb]),_,_,_,_,_,_,_,_,zy _ π (λl hl hn=>(QG (by rw[Wu];exact hl)).trans (Qr (tn hn ⟨qo,qt⟩))) my4 ((QG (by rw[Wu];exact z0)).trans (Qr n0)) ((QG (by rw[Wu];exact z1)).trans (Qr n1)) ((QG (by rw[Wu];exact bz)).trans (QE bz)) (.inr ⟨h4.length+1,0,_,rfl,.inl (Nat.le_succ _),VD (by rw[Wu]),λi hi=>?_⟩) (.inr ⟨h4.length+2,0,_,rfl,.inl ω,VD (by rw[Wu]),λi hi=>ZG i hi⟩),rfl⟩;obtain rfl:i=0:=by simpa using hi
    rfl
   .have Qb2:=Qb gX;have nEq:G2≠q:=yd gX hq4 (.inl nofun);apply Qg hb;simp only[go_sem,Qe,hq4,bz,QfM,gX,Qb2,QE,Qr nEq,Qr nEq.symm];have lt3:∀(A B C:Ob) {l},l<h4.length->l<(((h4.set q A).set G2 B).set q C).length:=λA B C l hl=>by simp only[Wu];exact hl
    have nE0:=yd gX z40 (.inl nofun);have nE1:=yd gX z41 (.inl nofun);refine⟨⟨ω,Z7⟩,Qj,_,Qz.frame (by simp only[go_sem,Zb]),_,_,_,_,_,_,_,_,zy _ π (λl hl hn=>by rw[QG (lt3 _ _ _ hl),Qr (tn hn ⟨qo,qt⟩),Qr (tn hn hSE),Qr (tn hn ⟨qo,qt⟩)]) my4 (by rw[QG (lt3 _ _ _ z0),Qr n0,Qr nE0,Qr n0]) (by rw[QG (lt3 _ _ _ z1),Qr n1,Qr nE1,Qr n1]) ((QG (lt3 _ _ _ bz)).trans (QE (by simp only[Wu];exact bz))) (.inr ⟨h4.length+1,0,_,rfl,.inl (Nat.le_succ _),VD (by simp only[Wu]),λi hi=>?_⟩) (.inr ⟨G2,gE+1,_,?_,.inr hSE,?_,QAe (r2:=row) tt λi hi=>ZG i hi⟩),rfl⟩
    .obtain rfl:i=0:=by simpa using hi
     rfl
    .rw[ZW]
    .rw[QG (lt3 _ _ _ Qb2),Qr nEq.symm,QE (by simp only[Wu];exact Qb2),ZW]
  .have Qer:=Qb eB;have nRq:IT≠q:=yd eB hq4 (.inl nofun);have nR0:=yd eB z40 (.inl nofun);have nR1:=yd eB z41 (.inl nofun);rcases sE4 with ⟨rfl,rfl⟩|⟨G2,gE,o0,rfl,hSE,gX,tt⟩
   .apply Qg hb;simp only[go_sem,Qe,hq4,bz,QfM,eB,Qer,QE,Qr nRq];have lt2:∀(A B:Ob) {l},l<h4.length->l<((h4.set IT A).set q B).length:=λA B l hl=>by simp only[Wu];exact hl
    refine⟨ω,⟨ω,Z7⟩,Qj,_,Qz.frame (by simp only[go_sem,Zb]),_,_,_,_,_,_,_,_,zy _ π (λl hl hn=>by rw[QG (lt2 _ _ hl),Qr (tn hn ⟨qo,qt⟩),Qr (tn hn hSR)]) my4 (by rw[QG (lt2 _ _ z0),Qr n0,Qr nR0]) (by rw[QG (lt2 _ _ z1),Qr n1,Qr nR1]) ((QG (lt2 _ _ bz)).trans (QE (by simp only[Wu];exact bz))) (.inr ⟨IT,gR+1,_,?_,.inr hSR,?_,QAe (r2:=λ_=>Y.r.cells) hrR λi hi=>?_⟩) (.inr ⟨h4.length+1,0,_,rfl,.inl (Nat.le_succ _),VD (by simp only[Wu]),λi hi=>ZG i hi⟩),rfl⟩
    .rw[ZW];rfl
    .rw[QG (lt2 _ _ Qer),Qr nRq.symm,QE Qer,ZW];rfl
    .obtain rfl:i=0:=by simpa using hi
     rfl
   .have Qb2:=Qb gX;have nEq:G2≠q:=yd gX hq4 (.inl nofun);have nER:G2≠IT:=yd gX eB (.inr nofun);have nE0:=yd gX z40 (.inl nofun);have nE1:=yd gX z41 (.inl nofun);apply Qg hb;simp only[go_sem,Qe,hq4,bz,QfM,eB,Qer,gX,Qb2,QE,Qr nRq,Qr nEq,Qr nEq.symm,Qr nER.symm];have lt5:∀(A B C D:Ob) {l},l<h4.length->l<((((h4.set IT A).set q B).set G2 C).set q D).length:=λA B C D l hl=>by simp only[Wu];exact hl
    refine⟨ω,⟨ω,Z7⟩,Qj,_,Qz.frame (by simp only[go_sem,Zb]),_,_,_,_,_,_,_,_,zy _ π (λl hl hn=>by rw[QG (lt5 _ _ _ _ hl),Qr (tn hn ⟨qo,qt⟩),Qr (tn hn hSE),Qr (tn hn ⟨qo,qt⟩),Qr (tn hn hSR)]) my4 (by rw[QG (lt5 _ _ _ _ z0),Qr n0,Qr nE0,Qr n0,Qr nR0]) (by rw[QG (lt5 _ _ _ _ z1),Qr n1,Qr nE1,Qr n1,Qr nR1]) ((QG (lt5 _ _ _ _ bz)).trans (QE (by simp only[Wu];exact bz))) (.inr ⟨IT,gR+1,_,?_,.inr hSR,?_,QAe (r2:=λ_=>Y.r.cells) hrR λi hi=>?_⟩) (.inr ⟨G2,gE+1,_,?_,.inr hSE,?_,QAe tt λi hi=>ZG i hi⟩),rfl⟩
    .rw[ZW];rfl
    .rw[QG (lt5 _ _ _ _ Qer),Qr nRq.symm,Qr nER,Qr nRq.symm,QE Qer,ZW];rfl
    .obtain rfl:i=0:=by simpa using hi
     rfl
    .rw[ZW]
    .rw[QG (lt5 _ _ _ _ Qb2),Qr nEq.symm,QE (by simp only[Wu];exact Qb2),ZW]
 .obtain rfl:k=x.ops.length:=ω;have dk:=QI Qj;have hr:=I.hr;have Y0:=Qb hr;have hq:=I.hq;have QrP:=Qb hq;apply Qg hb;simp only[go_sem,Qj];have oR:dR.Vn=true:=by rcases I.sR with ⟨rfl,_⟩|⟨_,_,_,rfl,_⟩<;>rfl
  have oE:dE.Vn=true:=by rcases I.sE with ⟨rfl,_⟩|⟨_,_,_,rfl,_⟩<;>rfl
  have Ze:=I.run;rw[q9]at Ze;rw[Ze];apply Qg hb;simp only[go_sem,hr,Y0,hq,QE,oR,oE];refine⟨_,_,_,rfl,I.sR.imp id λ⟨lo,g,row,b1,b2,b3,b4⟩=>⟨lo,g,row,b1,b2,by rw[Qr (yd hr b3 (.inl nofun))];exact b3,b4⟩,I.sE.imp id λ⟨lo,g,row,b1,b2,b3,b4⟩=>⟨lo,g,row,b1,b2,by rw[Qr (yd hr b3 (.inl nofun))];exact b3,b4⟩⟩
structure R8 where
 results:(List kv)
 events:(List Ev)
instance:Inhabited R8:=⟨⟨[],[]⟩⟩
@[go_sem] def R8.cells(x:R8):List D:=[.imm 3 x.results.length (kv.rows x.results),.imm 12 x.events.length (Ev.rows x.events)]
def R8.rows(l:List R8):Nat->List D:=λi=>(l.getD i default).cells
@[go_sem] theorem R8.xA(l:List R8)(i):R8.rows l i=(l.getD i default).cells:=rfl
section
variable (h:List Ob)(l:List Ev)(lo gn off:Nat)(row:Nat->List D)(hlen:l.length<100000000)(ho:(h.map Ob.ro)[lo]? = some ⟨.yl,gn,12,off+l.length,row⟩)(hr:∀i,i<l.length->row (off+i)=(l.getD i default).cells)
include hlen ho hr
end
section
variable (h:List Ob)(l:List Ev)(lo gn off:Nat)(row:Nat->List D)(hlen:l.length<100000000)(ho:h[lo]? = some ⟨.arr,gn,12,off+l.length,row⟩)(hr:∀i,i<l.length->row (off+i)=(l.getD i default).cells)
include hlen ho hr
end
end Go.Fg.X
namespace Go.Fg.X
open Go.Proofs Go.Fg
open Go.Proofs.Tryz
def Ev.eqb(x y:Ev):Bool:=x.op==y.op&&(x.J8==y.J8&&(x.real==y.real&&(x.at_==y.at_&&(x.done==y.done&&(x.cls==y.cls&&(x.id==y.id&&(x.len==y.len&&(x.h0==y.h0&&(x.h1==y.h1&&(x.h2==y.h2&&x.h3==y.h3))))))))))
def Ev.QiS{x y:Ev}:x.eqb y=true↔x=y:=by
 cases x;cases y;simp[Ev.eqb]
instance:DecidableEq Ev:=λx y=>decidable_of_iff _ Ev.QiS
def kv.eqb(x y:kv):Bool:=x.err==y.err&&(x.place==y.place&&x.cls==y.cls)
def kv.QiS{x y:kv}:x.eqb y=true↔x=y:=by
 cases x;cases y;simp[kv.eqb]
instance:DecidableEq kv:=λx y=>decidable_of_iff _ kv.QiS
structure R8.Small (o:R8):Prop where
 r:o.results.length<100000000
 e:o.events.length<100000000
def QIp(l:List Ev)(hlen:l.length<100000000):QW prog 59 [V0 l,V0 l] (QN (QT true)):=by
 refine xT 0 func59 ntmps59 results59 λbase w hb=>?_;simp only[go_sem];simp only[go_sem,QfK];refine Z3 (λi s=>s=⟨[(0,V0 l),(1,V0 l),(12,V0 l),(13,Qa l.length),(14,Qa i)],[]⟩) l.length QM rfl ?_;rintro i s hi rfl;have Zb:=J9 (show i<4611686018427387904 from ω);apply Qn hb;first|refine jO hi (λQj=>?_) (λQj=>?_)|refine jP hi (λQj=>?_) (λQj=>?_)
 .simp only[go_sem,Qj];apply QF hb [0,1,2,3,4,5];simp only[go_sem,Qj];refine⟨_,Qz.to 0 ⟨?_,by simp only[go_sem],?_,?_⟩,rfl⟩
  .simp only[go_sem,Zb]
  .simp only[go_sem]
  .simp only[go_sem]
 .subst Qj;exact qQ hb
def QIq(x:R8)(h:x.Small):QW prog 16 [.agg x.cells,.agg x.cells] (QN (QT true)):=by
 have hr:=h.r;have hc:=QIp x.events h.e;refine xT 0 func16 ntmps16 results16 λbase w hb=>?_;simp only[go_sem];simp only[go_sem,QfK];refine Z3 (λi s=>s=⟨[(2,.ptr 0 0 0 0),(3,.ptr 1 0 0 0),(15,.imm 3 x.results.length (kv.rows x.results)),(16,Qa x.results.length),(17,Qa i)],[⟨.one,0,2,1,λ_=>x.cells⟩,⟨.one,0,2,1,λ_=>x.cells⟩]⟩) x.results.length QM rfl ?_;rintro i s hi rfl;have Zb:=J9 (show i<4611686018427387904 from ω);apply Qn hb;first|refine jO hi (λQj=>?_) (λQj=>?_)|refine jP hi (λQj=>?_) (λQj=>?_)
 .simp only[go_sem,Qj];apply QF hb [0,1,2,3,4,5,6];simp only[go_sem,Qj];refine⟨_,Qz.to 2 ⟨?_,by simp only[go_sem],?_,?_⟩,rfl⟩
  .simp only[go_sem,Zb]
  .simp only[go_sem]
  .simp only[go_sem]
 .subst Qj;apply Qn hb;apply ZK hb QFe hc;exact qQ hb
def QIr(h){c:Cf}(K:¬WM c):QH prog 79 h [.agg c.cells] (λd h'=>d=.tup [.raw (.pointer none),Qa 1]/\∃g,h'=h++g):=by
 by_cases a:c.t<1
 .have d1:=QU a;refine QQ func79 ntmps79 results79 λbase w pl hb=>?_;simp only[go_sem,Qe,d1];exact⟨_,rfl⟩
 .have d1:=QI a;by_cases a2:65536<c.t
  .have d2:=QU a2;refine QQ func79 ntmps79 results79 λbase w pl hb=>?_;simp only[go_sem,Qe,d1,d2];exact⟨_,rfl⟩
  .have d2:=QI a2;by_cases a3:c.ZX<1
   .have d3:=QU a3;refine QQ func79 ntmps79 results79 λbase w pl hb=>?_;simp only[go_sem,Qe,d1,d2,d3];exact⟨_,rfl⟩
   .have d3:=QI a3;by_cases a4:16384<c.ZX
    .have d4:=QU a4;refine QQ func79 ntmps79 results79 λbase w pl hb=>?_;simp only[go_sem,Qe,d1,d2,d3,d4];exact⟨_,rfl⟩
    .exact absurd ⟨ω,ω,ω,ω⟩ K
def QIs(h){c:Cf}(K:¬WM c):QH prog 32 h [.agg c.cells] (λd h'=>d=.tup [.raw (.pointer none),Qa 1]/\∃g,h'=h++g):=by
 refine QQ func32 ntmps32 results32 λbase w pl hb=>?_;simp only[go_sem,Qe];refine Zw hb QpV (QIr _ K) λd h2 hR=>?_;obtain⟨rfl,g,rfl⟩:=hR;apply JH hb;exact⟨_,rfl⟩
def QIt(x:YD)(K:¬WM x.config):QW prog 14 [.agg x.cells] (QN (.tup [.agg [QGv [],V0 []],Qa 1])):=by
 refine Qi4 (R:=λd hh=>d=.tup [.agg [.nil,.nil],Qa 1]) _ rfl (λd hh e=>.inl (by rw[e];exact⟨⟨rfl,rfl,trivial⟩,rfl,trivial⟩)) ?_;refine bn Q4 200 func14 rfl ntmps14 results14 rfl λbase w hb=>?_;simp only[go_sem];refine Zw hb QpM (QIs _ K) λd h1 hR=>?_;obtain⟨rfl,g,rfl⟩:=hR;exact qQ hb
def LL(o:ZV):Bool:=decide (o.changes.length<=40)&&decide (o.rules.length<=40)
def yg(x:YD)(m:Nat):Bool:=decide (x.ops.length<=m)&&x.ops.all LL
def Qja{α:Type}(l:List α)(d:α)(f):l.all f=true↔∀j,j<l.length->f (l.getD j d)=true:=by
 rw[XK];constructor
 .intro h j hj;exact h _ (qg l d j hj)
 .intro h a ha;obtain⟨i,hi,rfl⟩:=wZ ha;have:=h i hi;simpa[Q5,hi] using this
def Qjb(x:YD)(m:Nat)(hm:m<1000000):QW prog 12 [.agg x.cells,Qa m] (QN (QT (yg x m))):=by
 refine xT 0 func12 ntmps12 results12 λbase w hb=>?_;simp only[go_sem];by_cases h1:m<x.ops.length
 .simp only[go_sem,h1,HB];have:yg x m=false:=by simp[yg];omega
  rw[this]
 .have Ji:decide (m<x.ops.length)=false:=δ;simp only[go_sem,Ji];refine MW (G:=Nat) [13,14] (λk=>∀j,j<k->LL (x.ops.getD j default)=true) (λk γ=>[(15,Qa k)]) (λk γ=>[]) (x.ops.length) (0) rfl (Qz.to 0 (by (simp only[go_sem])<;>simp)) ?_ ?_
  .intro j hj;omega
  intro k γ hk Kj;apply Qn hb;have Zb:=J9 (show k<4611686018427387904 from ω);first|refine jO hk (λQj=>?_) (λQj=>?_)|refine jP hk (λQj=>?_) (λQj=>?_)
  .simp only[go_sem,Qj];have ff:¬ (∀j,j<x.ops.length->LL (x.ops.getD j default)=true)->yg x m=false:=λhn=>by
    rw[Xe];intro hf;simp only[yg,Zy]at hf;exact hn ((Qja _ default _).1 hf.2)
   first|refine F0 (λh2=>?_) (λh2=>?_)|refine F1 (λh2=>?_) (λh2=>?_)|refine F2 (λh2=>?_) (λh2=>?_)|refine YA (λh2=>?_) (λh2=>?_)|refine F3 (λh2=>?_) (λh2=>?_)|refine F4 (λh2=>?_) (λh2=>?_)|refine F5 (λh2=>?_) (λh2=>?_)|refine FW (λh2=>?_) (λh2=>?_)
   .simp only[go_sem];rw[ff (λhn=>by have:=hn k Qj;simp only[LL,Zy,XL]at this;omega)]
   .simp only[go_sem];first|refine F0 (λh3=>?_) (λh3=>?_)|refine F1 (λh3=>?_) (λh3=>?_)|refine F2 (λh3=>?_) (λh3=>?_)|refine YA (λh3=>?_) (λh3=>?_)|refine F3 (λh3=>?_) (λh3=>?_)|refine F4 (λh3=>?_) (λh3=>?_)|refine F5 (λh3=>?_) (λh3=>?_)|refine FW (λh3=>?_) (λh3=>?_)
    .simp only[go_sem];rw[ff (λhn=>by have:=hn k Qj;simp only[LL,Zy,XL]at this;omega)]
    .simp only[go_sem];repeat (refine And.intro η ?_)
     refine⟨_,Qz.to 0 (by (simp only[go_sem,Zb])<;>simp),XT.mk (0) (?_)⟩;intro j hj;rcases vM.1 hj with h|rfl
     .exact Kj j h
     .simp only[LL,Zy,XL];omega
  .simp only[go_sem];apply Qn hb;subst Qj;have:yg x m=true:=by
    simp only[yg,Zy];exact⟨δ,(Qja _ default _).2 Kj⟩
   rw[this]
def kp(o:ZV):ZV:=
 if o.kind=1 then ⟨1,o.changes,[],⟨0,0,0,0,0,0⟩,0⟩ else if o.kind=2 then ⟨2,[],o.rules,⟨0,0,0,0,0,0⟩,0⟩ else
 if o.kind=3 then ⟨3,[],[],o.ZI,0⟩ else if o.kind=4 then ⟨4,[],[],⟨0,0,0,0,0,0⟩,o.Wi⟩ else ⟨o.kind,[],[],⟨0,0,0,0,0,0⟩,0⟩
def eE(x:YD):List kv × List Ev × Int:=if OD x.config=true then ((Zn (S0 x.config) x.ops).2.1,(Zn (S0 x.config) x.ops).2.2,0) else ([],[],1)
def QsA(x:YD)(hl:x.ops.length<=1000)(ZM:∀o∈x.ops,ZV.Ok o/\ZV.Small o):QW prog 14 [.agg x.cells] (QN (.tup [.agg [QGv (eE x).1,V0 (eE x).2.1],Qa (eE x).2.2])):=by
 unfold eE;by_cases K:OD x.config=true
 .rw[Qd K];exact QIi x (Qiq.1 K) hl ZM
 .rw[Qc K];exact QIt x λh=>K (Qiq.2 h)
def QjB{x:YD}{m}(h:yg x m=true)(hx:∀a∈x.ops,ZV.Ok a):x.ops.length<=m/\∀o∈x.ops,ZV.Ok o/\ZV.Small o:=by
 simp only[yg,Zy,XL]at h;obtain⟨hlen,Kj⟩:=h;refine⟨hlen,λo ho=>?_⟩;have:=XK.1 Kj o ho;simp only[LL,Zy,XL]at this;exact⟨hx o ho,ω,ω⟩
end Go.Fg.X
namespace Go.Fg.X
open Go.Proofs Go.Fg
open Go.Proofs.Tryz
def Qew(x:YD):YD:=⟨x.config,x.ops.map kp⟩
def QIu(x:YD)(h:x.ops.length<2147483648)(ho:∀o∈x.ops,o.changes.length<2147483648/\o.rules.length<2147483648):QW prog 15 [.agg x.cells] (QN (.agg (Qew x).cells)):=by
 refine A3 0 Q4 300 func15 rfl ntmps15 results15 rfl λbase w hb=>?_;simp only[go_sem];refine DF (Qz.Qgy 2 2 10 (ZV.rows (x.ops.map kp)) rfl rfl rfl rfl) ?_;simp only[go_sem];refine MW (G:=Nat) [2,3,11,12] (λk=>True) (λk γ=>[(13,Qa k)]) (λk γ=>[⟨.one,0,3,1,λ_=>x.cells⟩,⟨.one,0,3,1,λ_=>[.raw (.int .i64 0),.raw (.int .i64 0),.nil]⟩,⟨.one,0,3,1,λ_=>[.raw (.int .i64 x.config.t),.raw (.int .i64 x.config.ZX),.ref 3 γ 0 k]⟩,⟨.arr,γ,10,k,ZV.rows (x.ops.map kp)⟩]) (x.ops.length) (0) rfl (Qz.to 4 (by (simp only[go_sem])<;>simp)) trivial ?_;intro k γ hk _;apply Qn hb;have Zb:=J9 (show k<4611686018427387904 from ω);first|refine jO hk (λQj=>?_) (λQj=>?_)|refine jP hk (λQj=>?_) (λQj=>?_)
 .have hm:=getD_map kp x.ops default default k Qj;have hh:=ho _ (qg x.ops default k Qj);generalize hoe:x.ops.getD k default=o at *;simp only[go_sem,Qj,hoe];first|refine F0 (λc1=>?_) (λc1=>?_)|refine F1 (λc1=>?_) (λc1=>?_)|refine F2 (λc1=>?_) (λc1=>?_)|refine YA (λc1=>?_) (λc1=>?_)|refine F3 (λc1=>?_) (λc1=>?_)|refine F4 (λc1=>?_) (λc1=>?_)|refine F5 (λc1=>?_) (λc1=>?_)|refine FW (λc1=>?_) (λc1=>?_)
  .simp only[go_sem];repeat (refine And.intro η ?_)
   refine⟨_,Qz.trans (Qz.freeze rfl 6 rfl rfl (λi hi=>by simp only[go_sem])) (Qz.toT 4 ?_),XT.mk (γ+1) trivial⟩;simp only[go_sem,Zb];intro i hi;rcases vM.1 hi with Qb|rfl
   .simp only[Qb,HB,js,QmY]
   ·(simp only[Mb,Qca,YW,go_sem,hm,kp,c1,Vs])<;>simp
  simp only[go_sem];first|refine F0 (λc2=>?_) (λc2=>?_)|refine F1 (λc2=>?_) (λc2=>?_)|refine F2 (λc2=>?_) (λc2=>?_)|refine YA (λc2=>?_) (λc2=>?_)|refine F3 (λc2=>?_) (λc2=>?_)|refine F4 (λc2=>?_) (λc2=>?_)|refine F5 (λc2=>?_) (λc2=>?_)|refine FW (λc2=>?_) (λc2=>?_)
  .simp only[go_sem];repeat (refine And.intro η ?_)
   refine⟨_,Qz.trans (Qz.freeze rfl 6 rfl rfl (λi hi=>by simp only[go_sem])) (Qz.toT 4 ?_),XT.mk (γ+1) trivial⟩;simp only[go_sem,Zb];intro i hi;rcases vM.1 hi with Qb|rfl
   .simp only[Qb,HB,js,QmY]
   ·(simp only[Mb,Qca,YW,go_sem,hm,kp,c2,Vs,vN])<;>simp
  simp only[go_sem];first|refine F0 (λc3=>?_) (λc3=>?_)|refine F1 (λc3=>?_) (λc3=>?_)|refine F2 (λc3=>?_) (λc3=>?_)|refine YA (λc3=>?_) (λc3=>?_)|refine F3 (λc3=>?_) (λc3=>?_)|refine F4 (λc3=>?_) (λc3=>?_)|refine F5 (λc3=>?_) (λc3=>?_)|refine FW (λc3=>?_) (λc3=>?_)
  .simp only[go_sem];repeat (refine And.intro η ?_)
   refine⟨_,Qz.toT 4 ?_,XT.mk (γ+1) trivial⟩;simp only[go_sem,Zb];intro i hi;rcases vM.1 hi with Qb|rfl
   .simp only[Qb,HB,js,QmY]
   ·(simp only[Mb,Qca,YW,go_sem,hm,kp,c3,Vs,vN])<;>simp
  simp only[go_sem];first|refine F0 (λc4=>?_) (λc4=>?_)|refine F1 (λc4=>?_) (λc4=>?_)|refine F2 (λc4=>?_) (λc4=>?_)|refine YA (λc4=>?_) (λc4=>?_)|refine F3 (λc4=>?_) (λc4=>?_)|refine F4 (λc4=>?_) (λc4=>?_)|refine F5 (λc4=>?_) (λc4=>?_)|refine FW (λc4=>?_) (λc4=>?_)
  .simp only[go_sem];repeat (refine And.intro η ?_)
   refine⟨_,Qz.toT 4 ?_,XT.mk (γ+1) trivial⟩;simp only[go_sem,Zb];intro i hi;rcases vM.1 hi with Qb|rfl
   .simp only[Qb,HB,js,QmY]
   ·(simp only[Mb,Qca,YW,go_sem,hm,kp,c4,Vs,vN])<;>simp
  .simp only[go_sem];repeat (refine And.intro η ?_)
   refine⟨_,Qz.toT 4 ?_,XT.mk (γ+1) trivial⟩;simp only[go_sem,Zb];intro i hi;rcases vM.1 hi with Qb|rfl
   .simp only[Qb,HB,js,QmY]
   ·(simp only[Mb,Qca,YW,go_sem,hm,kp,c1,c2,c3,c4,vN])<;>simp
 .simp only[go_sem];subst Qj;have ZG:∀i,i<x.ops.length->(ZV.rows (x.ops.map kp) i).all D.qI=true:=λi hi=>by simp only[go_sem]
  refine DF (Qz.freeze rfl 3 rfl rfl ZG) ?_;simp only[go_sem];apply Qn hb;simp only[go_sem,Qew,J1]
def QsB:∀(l:List ZV) (S:ZF),(Zn S l).2.1.length=l.length
 | [],S=>rfl
 | o::l,S=>by show ((JM S o).r::(Zn (JM S o).S l).2.1).length=_;rw[Kv,QsB l,Kv]
def QL(S:ZF)(n:Nat):Prop:=∀j,(Zj S.M j).length<=n
def QL.take{S:ZF}{n}(h:QL S n)(now)(j:Int):(Zj (takeN S.M now) j).length<=n:=by
 rw[EV];have:=h j;split
 .rw[List.length_tail];omega
 .exact this
def QL.put{S:ZF}{n}(h:QL S n)(now)(cls)(x)(j:Int):(Zj (Jx S.M now cls x) j).length<=n+1:=by
 rw[OF];have:=h j;split
 .rw[ZW,kE];omega
 .omega
def QL.GZ{S}{n}(h:QL S n)(op now:Nat):QL (Js S op now).1 n:=by
 unfold Js;split
 .exact h
 .split
  .exact h.take now
  .exact h.take now
def QL.go{op e n}:∀(k:Nat) {S:ZF},QL S n->QL (Vg op e k S).1 n
 | 0,S,h=>h
 | k+1,S,h=>by
  unfold Vg;split
  .exact h
  .exact QL.go k (QL.GZ (S:={ S with Qf:=Zs S }) h op (Zs S))
def QL.do{S}{n}(h:QL S n)(o:ZV):QL (JM S o).S (n+1):=by
 have h1:QL S (n+1):=λj=>Nat.le_succ_of_le (h j);show QL (VX { S with ops:=S.ops+1 } S.ops o).S (n+1);unfold VX;split
 .exact λj=>Qiz (P:=λq=>q.length<=n+1) (Jh _) _ _ (h1 j)
 .split
  .split<;>exact h1
  .split
   .unfold YR;split
    .exact h1
    .split
     .exact QL.GZ (S:={ { S with ops:=S.ops+1 } with M:=Jx S.M S.Qf (Kr S.R (ZR o.ZI)) o.ZI,st:=vw S.st (Kr S.R (ZR o.ZI)) S.Qf }) (λj=>h.put _ _ _ j) _ _
     .exact λj=>h.put _ _ _ j
   .split
    .unfold qZ;split
     .exact h1
     .exact QL.go _ h1
    .exact h1
def Jd.gM{c}(K:WM c):Jd (S0 c):=⟨Qhn c,QhM c,K,λj x hx=>(by cases hx),QB _,Jh _,Jh _,λk=>⟨BQ _,BQ _,BQ _,BQ _,BQ _⟩,λk a ha=>(by cases ha)⟩
def QL.gG{S:ZF}{n}(h:QL S n)(I:Qy S.M):VR S.M<=64*n:=by
 have h1:=ud (λc=>(Zj S.M c.iD).length) n S.M.T λc _=>h c.iD;have h2:=I.tree.len;unfold VR;have h3:S.M.T.length*n<=64*n:=X7 n h2;omega
def Qjg(op e):∀(n:Nat) (S:ZF),(Vg op e n S).2.length<=n
 | 0,S=>QB _
 | n+1,S=>by
  unfold Vg;split
  .exact Jh _
  .have h1:=Qjg op e n (Js { S with Qf:=Zs S } op (Zs S)).1;have h2:=TR { S with Qf:=Zs S } op (Zs S);dsimp only;rw[ZW];omega
def QAp(S:ZF)(o:ZV):(JM S o).l.length<=VR S.M+2:=by
 show (VX { S with ops:=S.ops+1 } S.ops o).l.length<=_;unfold VX;split
 .exact Jh _
 .split
  .split<;>exact Jh _
  .split
   .unfold YR;split
    .exact Jh _
    .split
     .have h2:=TR { { S with ops:=S.ops+1 } with M:=Jx S.M S.Qf (Kr S.R (ZR o.ZI)) o.ZI,st:=vw S.st (Kr S.R (ZR o.ZI)) S.Qf } S.ops S.Qf;show (_::_:List Ev).length<=_;rw[Kv];exact Ki (Nat.succ_le_succ h2) (Nat.le_add_left 2 _)
     .exact Jh _
   .split
    .unfold qZ;split
     .exact Jh _
     .exact Ki (Qjg S.ops (S.Qf+o.Wi.toNat) (VR S.M+1) { S with ops:=S.ops+1 }) (Nat.le_succ _)
    .exact Jh _
def Qjh:∀(l:List ZV) {S:ZF} {n:Nat},Jd S->QL S n->(∀o∈l,ZV.Ok o)->(Zn S l).2.2.length<=l.length*(64*(n+l.length)+2)
 | [],S,n,T,h,hl=>Jh _
 | o::l,S,n,T,h,hl=>by
  have ho:=(hl o J2).2.1.2;have h1:=Qjh l (T.do ho) (h.do o) λa ha=>hl a (JR _ ha);have h2:=QAp S o;have h3:=h.gG T.I;show ((JM S o).l++(Zn (JM S o).S l).2.2).length<=_;rw[ZW,Kv];have e:n+1+l.length=n+(l.length+1):=ω;rw[e]at h1;rw[Vz,Me];have h4:64*n<=64*(n+(l.length+1)):=Nat.mul_le_mul_left 64 (Nat.le_add_right _ _);omega
def gN{x:YD}{m}(K:WM x.config)(hl:x.ops.length<=m)(hm:m<=1000)(ZM:∀o∈x.ops,ZV.Ok o):(Zn (S0 x.config) x.ops).2.2.length<100000000:=by
 have h:=Qjh x.ops (Jd.gM K) (n:=0) (λj=>Jh _) ZM;have h1:x.ops.length*(64*(0+x.ops.length)+2)<=1000*(64*1000+2):=qC ω ω;omega
end Go.Fg.X
namespace Go.Fg.X
open Go.Proofs Go.Fg
open Go.Proofs.Tryz
structure Sw where
 ops:List ZV
 pl:List Int
 ck:Int
def QIw(S:ZF)(o:ZV)(h:0<=o.Wi):JM S (kp o)=JM S o:=by
 show VX { S with ops:=S.ops+1 } S.ops (kp o)=VX { S with ops:=S.ops+1 } S.ops o;unfold kp;by_cases h1:o.kind=1
 .rw[Qd h1];unfold VX;rw[Qd rfl,Qd h1]
 rw[Qc h1];by_cases h2:o.kind=2
 .rw[Qd h2];unfold VX;rw[Qc (show ¬(2:Int)=1 from τ),Qd rfl,Qc h1,Qd h2]
 rw[Qc h2];by_cases h3:o.kind=3
 .rw[Qd h3];unfold VX;rw[Qc (show ¬(3:Int)=1 from τ),Qc (show ¬(3:Int)=2 from τ),Qd rfl,Qc h1,Qc h2,Qd h3]
 rw[Qc h3];by_cases h4:o.kind=4
 .rw[Qd h4];unfold VX;rw[Qc (show ¬(4:Int)=1 from τ),Qc (show ¬(4:Int)=2 from τ),Qc (show ¬(4:Int)=3 from τ),Qd rfl,Qc h1,Qc h2,Qc h3,Qd h4]
 .rw[Qc h4];unfold VX;rw[Qc (show ¬o.kind=1 from h1),Qc (show ¬o.kind=2 from h2),Qc (show ¬o.kind=3 from h3),Qc (show ¬o.kind=4 from h4),Qc h1,Qc h2,Qc h3,Qc h4]
def QsH:∀(l:List ZV) (S:ZF),(∀o∈l,0<=o.Wi)->Zn S (l.map kp)=Zn S l
 | [],S,_=>rfl
 | o::l,S,h=>by
  have h1:=QIw S o (h o J2);have ih:=λS=>QsH l S λo ho=>h o (JR _ ho);simp only[JQ,Zn,h1,ih]
def QIx{o:ZV}(h:o.Ok/\o.Small):(kp o).Ok/\(kp o).Small:=by
 obtain⟨⟨a1,a2,a3,a4,a5,_⟩,b1,b2⟩:=h;have z:Pk.Ok ⟨0,0,0,0,0,0⟩:=⟨τ,τ,τ,τ,τ,τ,trivial⟩;have n1:([]:List JN).length<=maxLen/\∀a∈([]:List JN),JN.Ok a:=⟨Jh _,λa h=>(by cases h)⟩;have n2:([]:List JT).length<=maxLen/\∀a∈([]:List JT),JT.Ok a:=⟨Jh _,λa h=>(by cases h)⟩;have zt:(Lit.int .u64 0).wf=true:=τ;have K1:(Lit.int .i64 1).wf=true:=τ;have K2:(Lit.int .i64 2).wf=true:=τ;have K3:(Lit.int .i64 3).wf=true:=τ;have K4:(Lit.int .i64 4).wf=true:=τ;have e0:(0:Nat)<1000000:=τ;unfold kp;split
 .exact⟨⟨K1,a2,n2,z,zt,trivial⟩,⟨b1,e0⟩⟩
 split
 .exact⟨⟨K2,n1,a3,z,zt,trivial⟩,⟨e0,b2⟩⟩
 split
 .exact⟨⟨K3,n1,n2,a4,zt,trivial⟩,⟨e0,e0⟩⟩
 split
 .exact⟨⟨K4,n1,n2,z,a5,trivial⟩,⟨e0,e0⟩⟩
 .exact⟨⟨a1,n1,n2,z,zt,trivial⟩,⟨e0,e0⟩⟩
@[go_sem] theorem QK3:IntKind.i64.wrap 0=0:=τ
@[go_sem] theorem QK4:IntKind.i64.wrap 1=1:=τ
@[go_sem] theorem QK5:IntKind.i64.wrap 2=2:=τ
@[go_sem] theorem QK6:IntKind.i64.wrap 3=3:=τ
@[go_sem] theorem QK7:IntKind.i64.wrap 4=4:=τ
@[go_sem] theorem QK8:IntKind.i64.wrap 5=5:=τ
@[go_sem] theorem QK9:IntKind.i64.wrap 6=6:=τ
@[go_sem] theorem QLa:IntKind.i64.wrap 7=7:=τ
@[go_sem] theorem QLb:IntKind.i64.wrap 8=8:=τ
@[go_sem] def Y6(n:Int):D:=.raw (.int .u64 n)
@[go_sem] def QbM(n:Int):D:=.raw (.int .u16 n)
@[go_sem] def QsI(l:List Int):D:=.raw (.string (Gh l))
def Bytes(l:List Int):Prop:=∀x∈l,0<=x/\x<256
def foldl_push(l:List Int):∀b:ByteArray,(l.foldl (λr n=>r.push (UInt8.ofNat n.toNat)) b).data.toList=b.data.toList++l.map λn=>UInt8.ofNat n.toNat:=by
 induction l with
 | nil=>intro b;simp
 | cons x l ih=>intro b;simp only[kD,ih];simp[ByteArray.push]
def QgP(l:List Int):(Gh l).data.toList=l.map λn=>UInt8.ofNat n.toNat:=by
 rw[Gh,foldl_push];rfl
def QsL(l:List Int):(Gh l).size=l.length:=by
 have h:=congrArg List.length (QgP l);rw[J1]at h;exact h
def QIy{a b:ByteArray}(h:a.data.toList=b.data.toList):a=b:=by
 cases a;cases b;congr 1;exact Array.toList_inj.1 h
def QIz{l:List Int}(h:Bytes l)(i)(hi:i<l.length):(((Gh l).data.getD i 0).toNat:Int)=l.getD i 0:=by
 have h1:=QgP l;have h2:(Gh l).data.getD i 0=UInt8.ofNat (l.getD i 0).toNat:=by
  rw[wX,<- kB,h1,Ks,QP hi];simp[Q5,hi]
 have h3:=h _ (qg l 0 i hi);rw[h2,UInt8.toNat_ofNat'];omega
def QIA(l:List Int)(a b:Nat):(Gh l).extract a b=Gh ((l.take b).drop a):=by
 apply QIy;rw[QgP];simp only[ByteArray.data_extract,Array.toList_extract,QgP,List.extract,List.map_drop,List.map_take];rw[List.drop_take]
inductive Prog (α:Type) where
 | ret (a:α)
 | Kp (v:Int) (k:Nat) (least uM:Int) (c:Int->Prog α)
 | bN (c:Bool->Prog α)
def Prog.bind{α β:Type}:Prog α->(α->Prog β)->Prog β
 | .ret a,f=>f a
 | .Kp v k l m c,f=>.Kp v k l m λx=>(c x).bind f
 | .bN c,f=>.bN λx=>(c x).bind f
structure Kl where
 σ:Type
 f:FuncId
 err:σ->Int
 step:σ->Int->Nat->Int->Int->σ × Int
 used:σ->Nat
 inv:σ->Prop
 o2:σ->Ob
 o3:σ->Ob
 keep:Bool
 QiT:∀s i,yD [0,1,2,3] ((o2 s).row i)=true
 QiU:∀s i,yD [0,1,2,3,4] ((o2 s).row i)=true
 QiX:∀s i,yD [0,1,2,3] ((o3 s).row i)=true
 QiZ:∀s i,yD [0,1,2,3,4] ((o3 s).row i)=true
 Qai:∀s i,AQ 4 ((o2 s).row i)=true
 Qar:∀s i,AQ 4 ((o3 s).row i)=true
 Qi0:∀s i,jK [0,1,2,3] ((o2 s).row i)=(o2 s).row i
 Qi1:∀s i,jK [0,1,2,3,4] ((o2 s).row i)=(o2 s).row i
 Qi2:∀s i,jK [0,1,2,3] ((o3 s).row i)=(o3 s).row i
 Qje:∀s i,jK [0,1,2,3,4] ((o3 s).row i)=(o3 s).row i
 Qjf:∀s n i,jN (VZ n [0,1,2,3]) ((o2 s).row i)=(o2 s).row i
 Qjy:∀s n i,jN (VZ n [0,1,2,3,4]) ((o2 s).row i)=(o2 s).row i
 Qjz:∀s n i,jN (VZ n [0,1,2,3]) ((o3 s).row i)=(o3 s).row i
 QjO:∀s n i,jN (VZ n [0,1,2,3,4]) ((o3 s).row i)=(o3 s).row i
 Qf1:keep=true->∀s t,(o2 s).gen=(o2 t).gen
 Qf2:keep=true->∀s t,(o3 s).gen=(o3 t).gen
 fok:Qm prog f
 rng:∀s v k l m,(step s v k l m).2=0\/(l<=(step s v k l m).2/\(step s v k l m).2<=m)
 use:∀s v k l m,used (step s v k l m).1<=used s+k
 kept:∀s v k l m,inv s->inv (step s v k l m).1
 ok:∀s v (k:Nat) l m,inv s->used s+8<=4294967296->1<=k->k<=8->0<=l->0<=v->v<18446744073709551616 ->
  QH prog f [⟨.one,0,1,1,λ_=>[.ptr 1 0 0 0]⟩,⟨.one,0,2,1,λ_=>[.clo f 0 [.ptr 0 0 0 0,.ptr 2 0 0 0],Qa (err s)]⟩,o2 s,o3 s] [Y6 v,Qa k,Y6 l,Y6 m,.ptr 0 0 0 0,.ptr 2 0 0 0]
   (λd h=>d=Y6 (step s v k l m).2/\h=[⟨.one,0,1,1,λ_=>[.ptr 1 0 0 0]⟩,⟨.one,0,2,1,λ_=>[.clo f 0 [.ptr 0 0 0 0,.ptr 2 0 0 0],Qa (err (step s v k l m).1)]⟩,o2 (step s v k l m).1,o3 (step s v k l m).1])
@[go_sem] def Kl.hp(M:Kl)(s:M.σ):List Ob:=[⟨.one,0,1,1,λ_=>[.ptr 1 0 0 0]⟩,⟨.one,0,2,1,λ_=>[.clo M.f 0 [.ptr 0 0 0 0,.ptr 2 0 0 0],Qa (M.err s)]⟩,M.o2 s,M.o3 s]
@[go_sem] theorem Kl.QLc(M:Kl)(s:M.σ):(⟨(M.o2 s).kd,(M.o2 s).gen,(M.o2 s).sz,(M.o2 s).n,λi=>(M.o2 s).row i⟩:Ob)=M.o2 s:=rfl
@[go_sem] theorem Kl.QLd(M:Kl)(s:M.σ):(⟨(M.o3 s).kd,(M.o3 s).gen,(M.o3 s).sz,(M.o3 s).n,λi=>(M.o3 s).row i⟩:Ob)=M.o3 s:=rfl
attribute [go_sem] Kl.QiU Kl.QiZ Kl.Qi1 Kl.Qje Kl.Qjy Kl.QjO Kl.QiT Kl.QiX Kl.Qi0 Kl.Qi2 Kl.Qjf Kl.Qjz Kl.Qai Kl.Qar
mutual
def QIB{k k'}(hk:k<=k'):∀{d:D},d.upto k=true->d.upto k'=true
 | .raw _,_=>rfl
 | .nil,_=>rfl
 | .undef,_=>rfl
 | .imm _ _ _,_=>rfl
 | .ip _,_=>rfl
 | .ref _ _ _ _,h=>by simp only[D.upto,vL]at h ⊢;omega
 | .ptr _ _ _ _,h=>by simp only[D.upto,vL]at h ⊢;omega
 | .mref _ _,h=>by simp only[D.upto,vL]at h ⊢;omega
 | .clo _ _ cs,h=>by simp only[D.upto]at h ⊢;exact CT hk h
 | .agg cs,h=>by simp only[D.upto]at h ⊢;exact CT hk h
 | .tup cs,h=>by simp only[D.upto]at h ⊢;exact CT hk h
def CT{k k'}(hk:k<=k'):∀{cs:List D},AQ k cs=true->AQ k' cs=true
 | [],_=>rfl
 | d::r,h=>by
  simp only[AQ,Zy]at h ⊢;exact⟨QIB hk h.1,CT hk h.2⟩
end
@[go_sem] theorem Kl.QLe(M:Kl)(s:M.σ)(i):AQ 5 ((M.o2 s).row i)=true:=CT τ (M.Qai s i)
@[go_sem] theorem Kl.QLf(M:Kl)(s:M.σ)(i):AQ 5 ((M.o3 s).row i)=true:=CT τ (M.Qar s i)
@[go_sem] theorem Kl.QLg(M:Kl)(s:M.σ)(i):AQ 6 ((M.o2 s).row i)=true:=CT τ (M.Qai s i)
@[go_sem] theorem Kl.QLh(M:Kl)(s:M.σ)(i):AQ 6 ((M.o3 s).row i)=true:=CT τ (M.Qar s i)
@[go_sem] theorem Kl.QLi(M:Kl)(s:M.σ)(i):AQ 7 ((M.o2 s).row i)=true:=CT τ (M.Qai s i)
@[go_sem] theorem Kl.QLj(M:Kl)(s:M.σ)(i):AQ 7 ((M.o3 s).row i)=true:=CT τ (M.Qar s i)
@[go_sem] theorem Kl.QLk(M:Kl)(s:M.σ)(i):AQ 8 ((M.o2 s).row i)=true:=CT τ (M.Qai s i)
@[go_sem] theorem Kl.QLl(M:Kl)(s:M.σ)(i):AQ 8 ((M.o3 s).row i)=true:=CT τ (M.Qar s i)
@[go_sem] theorem Kl.QLm(M:Kl)(s:M.σ)(i):AQ 9 ((M.o2 s).row i)=true:=CT τ (M.Qai s i)
@[go_sem] theorem Kl.QLn(M:Kl)(s:M.σ)(i):AQ 9 ((M.o3 s).row i)=true:=CT τ (M.Qar s i)
def Prog.run{α:Type}(M:Kl):Prog α->M.σ->M.σ × α
 | .ret a,s=>(s,a)
 | .Kp v k l m c,s=>(c (M.step s v k l m).2).run M (M.step s v k l m).1
 | .bN c,s=>(c (M.err s != 0)).run M s
def Prog.run_bind{α β:Type}(M:Kl)(f:α->Prog β):∀(p:Prog α) (s:M.σ),(p.bind f).run M s=(f (p.run M s).2).run M (p.run M s).1
 | .ret _,_=>rfl
 | .Kp _ _ _ _ c,s=>by simp only[Prog.bind,Prog.run];exact Prog.run_bind M f (c _) _
 | .bN c,s=>by simp only[Prog.bind,Prog.run];exact Prog.run_bind M f (c _) _
theorem Prog.Qb4{α:Type}(M:Kl)(a:α)(s:M.σ):(Prog.ret a).run M s=(s,a):=rfl
theorem Prog.QIC{α:Type}(M:Kl)(v)(k)(l m:Int)(c:Int->Prog α)(s:M.σ):(Prog.Kp v k l m c).run M s=(c (M.step s v k l m).2).run M (M.step s v k l m).1:=rfl
theorem Prog.Qs1{α:Type}(M:Kl)(c:Bool->Prog α)(s:M.σ):(Prog.bN c).run M s=(c (M.err s != 0)).run M s:=rfl
def Prog.Fits{α:Type}:Prog α->Nat->Prop
 | .ret _,_=>True
 | .Kp _ k l m c,n=>k<=8/\8<=n/\∀v,v=0\/(l<=v/\v<=m)->(c v).Fits (n - 8)
 | .bN c,n=>∀b,(c b).Fits n
def Prog.use{α:Type}(M:Kl):∀(p:Prog α) (n:Nat) (s:M.σ),p.Fits n->M.used (p.run M s).1<=M.used s+n
 | .ret _,n,s,_=>by simp[Prog.run]
 | .Kp v k l m c,n,s,h=>by
  have h1:=Prog.use M (c (M.step s v k l m).2) (n - 8) (M.step s v k l m).1 (h.2.2 _ (M.rng s v k l m));have h2:=M.use s v k l m;have h3:=h.1;have h4:=h.2.1;simp only[Prog.run];omega
 | .bN c,n,s,h=>Prog.use M (c _) n s (h _)
def Prog.kept{α:Type}(M:Kl):∀(p:Prog α) (s:M.σ),M.inv s->M.inv (p.run M s).1
 | .ret _,s,h=>h
 | .Kp v k l m c,s,h=>Prog.kept M (c _) _ (M.kept s v k l m h)
 | .bN c,s,h=>Prog.kept M (c _) s h
def Prog.Qex{α:Type}:∀(p:Prog α) {n n':Nat},p.Fits n->n<=n'->p.Fits n'
 | .ret _,_,_,_,_=>trivial
 | .Kp _ _ _ _ c,_,_,h,hn=>⟨h.1,by have:=h.2.1;omega,λv hv=>Prog.Qex (c v) (h.2.2 v hv) ω⟩
 | .bN c,_,_,h,hn=>λb=>Prog.Qex (c b) (h b) hn
def Prog.Sp{α β:Type}(f:α->Prog β)(m)(hf:∀a,(f a).Fits m):∀(p:Prog α) (n:Nat),p.Fits n->(p.bind f).Fits (n+m)
 | .ret a,n,_=>Prog.Qex _ (hf a) ω
 | .Kp _ _ _ _ c,n,h=>⟨h.1,by have:=h.2.1;omega,λv hv=>by
   have h1:=Prog.Sp f m hf (c v) (n - 8) (h.2.2 v hv);have h2:=h.2.1;rw[show n+m - 8=n - 8+m by omega];exact h1⟩
 | .bN c,n,h=>λb=>Prog.Sp f m hf (c b) n (h b)
def QgR:QW prog 263 [Qa 2] (QN (Y6 65535)):=by
 refine xT 0 func263 ntmps263 results263 λbase w hb=>?_;simp only[go_sem,-Nat.reducePow];first|exact⟨τ,rfl⟩|decide|rfl
def Qs3:QW prog 263 [Qa 4] (QN (Y6 4294967295)):=by
 refine xT 0 func263 ntmps263 results263 λbase w hb=>?_;simp only[go_sem,-Nat.reducePow];first|exact⟨τ,rfl⟩|decide|rfl
def Qs5:QW prog 263 [Qa 8] (QN (Y6 18446744073709551615)):=by
 refine xT 0 func263 ntmps263 results263 λbase w hb=>?_;simp only[go_sem,-Nat.reducePow];first|exact⟨τ,rfl⟩|decide|rfl
variable {M:Kl}{s:M.σ}
def QbN{v:Int}{k:Nat}{m:Int}(QID:QW prog 263 [Qa k] (QN (Y6 m)))(hi:M.inv s)(hu:M.used s+8<=4294967296)(Qj:1<=k)(Ts:k<=8)(hv:0<=v)(hv2:v<18446744073709551616):
  QH prog 211 (M.hp s) [.ptr 1 0 0 0,Y6 v,Qa k] (λd h=>d=Y6 (M.step s v k 0 m).2/\h=M.hp (M.step s v k 0 m).1):=by
 refine Y8 4 Q4 200 func211 rfl rfl ntmps211 results211 rfl λbase w pl hb=>?_;simp only[go_sem,-Nat.reducePow];apply Vk [8] hb [0,1,2,3,4,5,6,1007,1008,9] [];simp only[go_sem,-Nat.reducePow];refine Qad hb QFp ?_ QID ?_
 .simp only[go_sem,-Nat.reducePow]
 apply ZH hb;simp only[go_sem,-Nat.reducePow];refine QgB hb [0,1,2,3] M.fok rfl ?_ (M.ok s v k 0 m hi hu Qj Ts τ hv hv2) rfl ?_
 .simp only[go_sem,-Nat.reducePow]
 rintro d h ⟨rfl,rfl⟩;simp only[go_sem,-Nat.reducePow];apply ZH hb;simp only[go_sem,-Nat.reducePow]
variable {M:Kl}{s:M.σ}
def QIE(n):0<=IntKind.u64.wrap n:=κ
def QIF(n):IntKind.u64.wrap n<18446744073709551616:=κ
def lC{n}(h:0<=n)(h2:n<18446744073709551616):IntKind.u64.wrap n=n:=κ
def QIG{v}{k}{l m:Int}(hl:0<=l)(hm:m<9223372036854775808):IntKind.i64.wrap (M.step s v k l m).2=(M.step s v k l m).2:=by
 have h:=M.rng s v k l m;rw[IntKind.wrap_i64];omega
def P1{v:Int}{k:Nat}{l m:Int}(hi:M.inv s)(hu:M.used s+8<=4294967296)(Qj:1<=k)(Ts:k<=8)(hl:0<=l)(Jp:l<9223372036854775808)(PU:0<=m)(hm:m<9223372036854775808):
  QH prog 170 (M.hp s) [.ptr 1 0 0 0,Qa v,Qa k,Qa l,Qa m] (λd h=>d=Qa (M.step s (IntKind.u64.wrap v) k l m).2/\h=M.hp (M.step s (IntKind.u64.wrap v) k l m).1):=by
 have e1:IntKind.u64.wrap l=l:=lC hl ω;have e2:IntKind.u64.wrap m=m:=lC PU ω;have e3:IntKind.i64.wrap (M.step s (IntKind.u64.wrap v) k l m).2=(M.step s (IntKind.u64.wrap v) k l m).2:=QIG hl hm;refine Y8 4 Q4 200 func170 rfl rfl ntmps170 results170 rfl λbase w pl hb=>?_;simp only[go_sem];simp only[e1,e2];refine VC hb [0,1,2,3] M.fok rfl ?_ (M.ok s (IntKind.u64.wrap v) k l m hi hu Qj Ts hl (QIE v) (QIF v)) rfl ?_
 .simp only[go_sem]
 rintro d h ⟨rfl,rfl⟩;simp only[go_sem];apply Qg hb;simp only[go_sem,e3]
def HA(x:Cv):Prog Cv:=.Kp x.m1 4 0 4294967295 λa=>.Kp x.d 4 0 1048576 λb=>.Kp x.m2 4 0 4294967295 λc=>.ret ⟨a,b,c⟩
def QeC(x:Cv):(HA x).Fits 24:=by simp[HA,Prog.Fits]
def QeT{n:Int}(h:(Lit.int .u64 n).wf=true):0<=n/\n<18446744073709551616:=by
 have:=(by simpa[Lit.wf] using h:IntKind.u64.min<=n/\n<=IntKind.u64.max);simp only[show IntKind.u64.min=0 from τ,show IntKind.u64.max=18446744073709551615 from τ]at this;omega
def QjQ{x}(hx:Cv.Ok x)(hi:M.inv s)(hu:M.used s+24<=4294967296):
  QH prog 261 (M.hp s) [.ptr 1 0 0 0,.agg x.cells] (λd h=>d=.agg (((HA x).run M s).2).cells/\h=M.hp ((HA x).run M s).1):=by
 obtain⟨a1,a2⟩:=QeT hx.1;obtain⟨b1,b2⟩:=QeT hx.2.1;obtain⟨c1,c2⟩:=QeT hx.2.2.1;have u1:=M.use s x.m1 4 0 4294967295;have u2:=M.use (M.step s x.m1 4 0 4294967295).1 x.d 4 0 1048576;have i1:=M.kept s x.m1 4 0 4294967295 hi;have i2:=M.kept (M.step s x.m1 4 0 4294967295).1 x.d 4 0 1048576 i1;simp only[HA,Prog.run];refine Y8 4 Q4 200 func261 rfl rfl ntmps261 results261 rfl λbase w pl hb=>?_;simp only[go_sem];refine VC hb [0,1,2,3] Qbk rfl ?_ (QbN (v:=x.m1) (k:=4) Qs3 hi ω τ τ a1 a2) rfl ?_
 .simp only[go_sem]
 rintro d h ⟨rfl,rfl⟩;simp only[go_sem];apply Qn hb;apply Vk [6] hb [0,1,2,3,4,5,1006,7,1008] [];simp only[go_sem];refine QgB hb [0,1,2,3] M.fok rfl ?_ (M.ok _ x.d 4 0 1048576 i1 ω τ τ τ b1 b2) rfl ?_
 .simp only[go_sem]
 rintro d h ⟨rfl,rfl⟩;simp only[go_sem];apply ZA hb;refine VC hb [0,1,2,3] Qbk rfl ?_ (QbN (v:=x.m2) (k:=4) Qs3 i2 ω τ τ c1 c2) rfl ?_
 .simp only[go_sem]
 rintro d h ⟨rfl,rfl⟩;simp only[go_sem];exact qQ hb
variable {M:Kl}{s:M.σ}
structure Hd where
 a:Int
 b:Int
 c:Int
 d:Int
@[go_sem] def Hd.cells(h:Hd):List D:=[.raw (.int .u16 h.a),.raw (.int .u16 h.b),.raw (.int .u16 h.c),.raw (.int .u16 h.d)]
def Hd.Ok(h:Hd):Prop:=(Lit.int .u16 h.a).wf=true/\(Lit.int .u16 h.b).wf=true/\(Lit.int .u16 h.c).wf=true/\(Lit.int .u16 h.d).wf=true
def QgV{n:Int}(h:(Lit.int .u16 n).wf=true):0<=n/\n<65536:=by
 have:=(by simpa[Lit.wf] using h:IntKind.u16.min<=n/\n<=IntKind.u16.max);simp only[show IntKind.u16.min=0 from τ,show IntKind.u16.max=65535 from τ]at this;omega
def SP(h:Hd):Prog Hd:=.Kp h.a 2 0 65535 λa=>.Kp h.b 2 0 65535 λb=>.Kp h.c 2 0 65535 λc=>.Kp h.d 2 0 65535 λd=>.ret ⟨a,b,c,d⟩
def Qf3(h:Hd):(SP h).Fits 32:=by simp[SP,Prog.Fits]
def QgX{v}{k}:IntKind.u16.wrap (M.step s v k 0 65535).2=(M.step s v k 0 65535).2:=by
 have h:=M.rng s v k 0 65535;rw[IntKind.wrap_u16];omega
def Qj2{x}(hx:Hd.Ok x)(hi:M.inv s)(hu:M.used s+32<=4294967296):
  QH prog 262 (M.hp s) [.ptr 1 0 0 0,.agg x.cells] (λd h=>d=.agg (((SP x).run M s).2).cells/\h=M.hp ((SP x).run M s).1):=by
 obtain⟨a1,a2⟩:=QgV hx.1;obtain⟨b1,b2⟩:=QgV hx.2.1;obtain⟨c1,c2⟩:=QgV hx.2.2.1;obtain⟨d1,d2⟩:=QgV hx.2.2.2;have u1:=M.use s x.a 2 0 65535;have i1:=M.kept s x.a 2 0 65535 hi;simp only[SP,Prog.run];have u2:=M.use (M.step s x.a 2 0 65535).1 x.b 2 0 65535;have i2:=M.kept (M.step s x.a 2 0 65535).1 x.b 2 0 65535 i1;have u3:=M.use (M.step (M.step s x.a 2 0 65535).1 x.b 2 0 65535).1 x.c 2 0 65535;have i3:=M.kept (M.step (M.step s x.a 2 0 65535).1 x.b 2 0 65535).1 x.c 2 0 65535 i2;have e1:=lC a1 ω;have e2:=lC b1 ω;have e3:=lC c1 ω;have e4:=lC d1 ω;refine Y8 4 Q4 200 func262 rfl rfl ntmps262 results262 rfl λbase w pl hb=>?_;simp only[go_sem];refine wv 4 ?_;apply Qg hb;simp only[go_sem,e1];refine VC hb [0,1,2,3] Qbk rfl ?_ (QbN (v:=x.a) (k:=2) QgR hi ω τ τ a1 ω) rfl ?_
 .simp only[go_sem]
 rintro d h ⟨rfl,rfl⟩;simp only[go_sem];apply Qg hb;simp only[go_sem,QgX];apply Qg hb;simp only[go_sem,e2];refine VC hb [0,1,2,3] Qbk rfl ?_ (QbN (v:=x.b) (k:=2) QgR i1 ω τ τ b1 ω) rfl ?_
 .simp only[go_sem]
 rintro d h ⟨rfl,rfl⟩;simp only[go_sem];apply Qg hb;simp only[go_sem,QgX];apply Qg hb;simp only[go_sem,e3];refine VC hb [0,1,2,3] Qbk rfl ?_ (QbN (v:=x.c) (k:=2) QgR i2 ω τ τ c1 ω) rfl ?_
 .simp only[go_sem]
 rintro d h ⟨rfl,rfl⟩;simp only[go_sem];apply Qg hb;simp only[go_sem,QgX];apply Qg hb;simp only[go_sem,e4];refine VC hb [0,1,2,3] Qbk rfl ?_ (QbN (v:=x.d) (k:=2) QgR i3 ω τ τ d1 ω) rfl ?_
 .simp only[go_sem]
 rintro d h ⟨rfl,rfl⟩;simp only[go_sem];apply Qg hb;simp only[go_sem,QgX];apply Qn hb;exact qQ hb
variable {M:Kl}{s:M.σ}
def QbW(x:Pk):Prog Pk:=.Kp x.iD 8 0 18446744073709551615 λa=>.Kp (IntKind.u64.wrap x.len) 2 1 16384 λb=>(SP ⟨x.wc,x.wg,x.wh,x.wi⟩).bind λh=>.ret ⟨a,b,h.a,h.b,h.c,h.d⟩
def QIH(x:Pk):(QbW x).Fits 48:=by
 refine⟨τ,τ,λ_ _=>⟨τ,τ,λ_ _=>?_⟩⟩;refine Prog.Sp _ 0 ?_ _ 32 (Qf3 _);intro _;trivial
def QII{x}(hx:Pk.Ok x)(hi:M.inv s)(hu:M.used s+48<=4294967296):
  QH prog 210 (M.hp s) [.ptr 1 0 0 0,.agg x.cells] (λd h=>d=.agg (((QbW x).run M s).2).cells/\h=M.hp ((QbW x).run M s).1):=by
 obtain⟨a1,a2⟩:=QeT hx.1;have hh:Hd.Ok ⟨x.wc,x.wg,x.wh,x.wi⟩:=⟨hx.2.2.1,hx.2.2.2.1,hx.2.2.2.2.1,hx.2.2.2.2.2.1⟩;simp only[QbW,Prog.run,Prog.run_bind];have u1:=M.use s x.iD 8 0 18446744073709551615;have i1:=M.kept s x.iD 8 0 18446744073709551615 hi;generalize ZZ:(M.step s x.iD 8 0 18446744073709551615).1=s1 at *;have u2:=M.use s1 (IntKind.u64.wrap x.len) 2 1 16384;have i2:=M.kept s1 (IntKind.u64.wrap x.len) 2 1 16384 i1;refine Y8 4 Q4 200 func210 rfl rfl ntmps210 results210 rfl λbase w pl hb=>?_;simp only[go_sem];refine VC hb [0,1,2,3] Qbk rfl ?_ (QbN (v:=x.iD) (k:=8) Qs5 hi ω τ τ a1 a2) rfl ?_
 .simp only[go_sem]
 rintro d h ⟨rfl,rfl⟩;simp only[go_sem,ZZ];apply Qn hb;refine VC hb [0,1,2,3] Y7 rfl ?_ (P1 (v:=x.len) (k:=2) (l:=1) (m:=16384) i1 ω τ τ τ τ τ τ) rfl ?_
 .simp only[go_sem]
 rintro d h ⟨rfl,rfl⟩;simp only[go_sem];apply Qn hb;refine VC hb [0,1,2,3] Qhf rfl ?_ (Qj2 hh i2 ω) rfl ?_
 .simp only[go_sem]
 rintro d h ⟨rfl,rfl⟩;simp only[go_sem];exact qQ hb
def A1(x:JT):Prog JT:=(SP ⟨x.yI,x.yJ,x.DV,x.Cg⟩).bind λa=>(SP ⟨x.Ia,x.Ib,x.Ic,x.DW⟩).bind λb=>.Kp (IntKind.u64.wrap x.cls) 4 0 65536 λc=>.ret ⟨a.a,a.b,a.c,a.d,b.a,b.b,b.c,b.d,c⟩
def Qs8(x:JT):(A1 x).Fits 72:=by
 refine Prog.Sp _ 40 ?_ _ 32 (Qf3 _);intro _;refine Prog.Sp _ 8 ?_ _ 32 (Qf3 _);intro _;exact⟨τ,τ,λ_ _=>trivial⟩
def QIJ{x}(hx:JT.Ok x)(hi:M.inv s)(hu:M.used s+72<=4294967296):
  QH prog 209 (M.hp s) [.ptr 1 0 0 0,.agg x.cells] (λd h=>d=.agg (((A1 x).run M s).2).cells/\h=M.hp ((A1 x).run M s).1):=by
 have h1:Hd.Ok ⟨x.yI,x.yJ,x.DV,x.Cg⟩:=⟨hx.1,hx.2.1,hx.2.2.1,hx.2.2.2.1⟩;have h2:Hd.Ok ⟨x.Ia,x.Ib,x.Ic,x.DW⟩:=⟨hx.2.2.2.2.1,hx.2.2.2.2.2.1,hx.2.2.2.2.2.2.1,hx.2.2.2.2.2.2.2.1⟩;simp only[A1,Prog.run,Prog.run_bind];have u1:=Prog.use M (SP ⟨x.yI,x.yJ,x.DV,x.Cg⟩) 32 s (Qf3 _);have i1:=Prog.kept M (SP ⟨x.yI,x.yJ,x.DV,x.Cg⟩) s hi;generalize ZZ:((SP ⟨x.yI,x.yJ,x.DV,x.Cg⟩).run M s).1=s1 at *;have u2:=Prog.use M (SP ⟨x.Ia,x.Ib,x.Ic,x.DW⟩) 32 s1 (Qf3 _);have i2:=Prog.kept M (SP ⟨x.Ia,x.Ib,x.Ic,x.DW⟩) s1 i1;refine Y8 4 Q4 200 func209 rfl rfl ntmps209 results209 rfl λbase w pl hb=>?_;simp only[go_sem];refine VC hb [0,1,2,3] Qhf rfl ?_ (Qj2 h1 hi ω) rfl ?_
 .simp only[go_sem]
 rintro d h ⟨rfl,rfl⟩;simp only[go_sem,ZZ];apply Qn hb;refine VC hb [0,1,2,3] Qhf rfl ?_ (Qj2 h2 i1 ω) rfl ?_
 .simp only[go_sem]
 rintro d h ⟨rfl,rfl⟩;simp only[go_sem];apply Qn hb;refine VC hb [0,1,2,3] Y7 rfl ?_ (P1 (v:=x.cls) (k:=4) (l:=0) (m:=65536) i2 ω τ τ τ τ τ τ) rfl ?_
 .simp only[go_sem]
 rintro d h ⟨rfl,rfl⟩;simp only[go_sem];exact qQ hb
variable {M:Kl}{s:M.σ}
def QaZ(b:Bool):Int:=bif b then 1 else 0
def Qf4(x:Qq):Prog Qq:=
 .Kp (IntKind.u64.wrap x.iD) 4 0 65536 λa=>.Kp (IntKind.u64.wrap x.parent) 4 0 65536 λb=>.Kp (QaZ x.leaf) 1 0 1 λc=>
 (HA x.rt).bind λr=>(HA x.ls).bind λl=>(HA x.ul).bind λu=>
 .Kp (IntKind.u64.wrap x.ZD) 1 0 64 λp=>.Kp (IntKind.u64.wrap x.bytes) 4 0 1048576 λq=>.ret ⟨a,b,c==1,r,l,u,p,q⟩
def QIK(x:Qq):(Qf4 x).Fits 112:=by
 refine⟨τ,τ,λ_ _=>⟨τ,τ,λ_ _=>⟨τ,τ,λ_ _=>?_⟩⟩⟩;refine Prog.Sp _ 64 ?_ _ 24 (QeC _);intro _;refine Prog.Sp _ 40 ?_ _ 24 (QeC _);intro _;refine Prog.Sp _ 16 ?_ _ 24 (QeC _);intro _;exact⟨τ,τ,λ_ _=>⟨τ,τ,λ_ _=>trivial⟩⟩
def QIL{x}(hx:Qq.Ok x)(hi:M.inv s)(hu:M.used s+112<=4294967296):
  QH prog 207 (M.hp s) [.ptr 1 0 0 0,.agg x.cells] (λd h=>d=.agg (((Qf4 x).run M s).2).cells/\h=M.hp ((Qf4 x).run M s).1):=by
 have h1:=hx.2.2.2.1;have h2:=hx.2.2.2.2.1;have h3:=hx.2.2.2.2.2.1;simp only[Qf4,Prog.run,Prog.run_bind];have u1:=M.use s (IntKind.u64.wrap x.iD) 4 0 65536;have i1:=M.kept s (IntKind.u64.wrap x.iD) 4 0 65536 hi;generalize ZZ:M.step s (IntKind.u64.wrap x.iD) 4 0 65536=r1 at *;have u2:=M.use r1.1 (IntKind.u64.wrap x.parent) 4 0 65536;have i2:=M.kept r1.1 (IntKind.u64.wrap x.parent) 4 0 65536 i1;generalize Jv:M.step r1.1 (IntKind.u64.wrap x.parent) 4 0 65536=r2 at *;have u3:=M.use r2.1 (QaZ x.leaf) 1 0 1;have i3:=M.kept r2.1 (QaZ x.leaf) 1 0 1 i2;generalize Sz:M.step r2.1 (QaZ x.leaf) 1 0 1=r3 at *;have u4:=Prog.use M (HA x.rt) 24 r3.1 (QeC _);have i4:=Prog.kept M (HA x.rt) r3.1 i3;generalize hs4:(HA x.rt).run M r3.1=r4 at *;have u5:=Prog.use M (HA x.ls) 24 r4.1 (QeC _);have i5:=Prog.kept M (HA x.ls) r4.1 i4;generalize hs5:(HA x.ls).run M r4.1=r5 at *;have u6:=Prog.use M (HA x.ul) 24 r5.1 (QeC _);have i6:=Prog.kept M (HA x.ul) r5.1 i5;generalize ru:(HA x.ul).run M r5.1=r6 at *;have u7:=M.use r6.1 (IntKind.u64.wrap x.ZD) 1 0 64;have i7:=M.kept r6.1 (IntKind.u64.wrap x.ZD) 1 0 64 i6;generalize hs7:M.step r6.1 (IntKind.u64.wrap x.ZD) 1 0 64=r7 at *;have n1:=P1 (s:=s) (v:=x.iD) (k:=4) (l:=0) (m:=65536) hi ω τ τ τ τ τ τ;have n2:=P1 (s:=r1.1) (v:=x.parent) (k:=4) (l:=0) (m:=65536) i1 ω τ τ τ τ τ τ;have n3:=P1 (s:=r2.1) (v:=QaZ x.leaf) (k:=1) (l:=0) (m:=1) i2 ω τ τ τ τ τ τ;have n7:=P1 (s:=r6.1) (v:=x.ZD) (k:=1) (l:=0) (m:=64) i6 ω τ τ τ τ τ τ;have n8:=P1 (s:=r7.1) (v:=x.bytes) (k:=4) (l:=0) (m:=1048576) i7 ω τ τ τ τ τ τ;have e3:IntKind.u64.wrap (QaZ x.leaf)=QaZ x.leaf:=by cases x.leaf<;>decide
 have c4:=QjQ (s:=r3.1) h1 i3 ω;have c5:=QjQ (s:=r4.1) h2 i4 ω;have c6:=QjQ (s:=r5.1) h3 i5 ω;rw[ZZ]at n1;rw[Jv]at n2;rw[e3,Sz]at n3;rw[hs7]at n7;rw[hs4]at c4;rw[hs5]at c5;rw[ru]at c6;clear ZZ Jv Sz hs4 hs5 ru hs7;refine Y8 4 Q4 200 func207 rfl rfl ntmps207 results207 rfl λbase w pl hb=>?_;simp only[go_sem];refine VC hb [0,1,2,3] Y7 rfl ?_ (n1) rfl ?_
 .simp only[go_sem]
 rintro d h ⟨rfl,rfl⟩;simp only[go_sem];apply Qn hb;refine VC hb [0,1,2,3] Y7 rfl ?_ (n2) rfl ?_
 .simp only[go_sem]
 rintro d h ⟨rfl,rfl⟩;simp only[go_sem];apply Qn hb;refine YA (λhl=>?_) (λhl=>?_);all_goals simp only[go_sem]
 .simp only[hl,QaZ,js]at n3;refine VC hb [0,1,2,3] Y7 rfl ?_ (n3) rfl ?_
  .simp only[go_sem]
  rintro d h ⟨rfl,rfl⟩;simp only[go_sem];apply Qn hb;refine VC hb [0,1,2,3] QdX rfl ?_ (c4) rfl ?_
  .simp only[go_sem]
  rintro d h ⟨rfl,rfl⟩;simp only[go_sem];apply Qn hb;refine VC hb [0,1,2,3] QdX rfl ?_ (c5) rfl ?_
  .simp only[go_sem]
  rintro d h ⟨rfl,rfl⟩;simp only[go_sem];apply Qn hb;refine VC hb [0,1,2,3] QdX rfl ?_ (c6) rfl ?_
  .simp only[go_sem]
  rintro d h ⟨rfl,rfl⟩;simp only[go_sem];apply Qn hb;refine VC hb [0,1,2,3] Y7 rfl ?_ (n7) rfl ?_
  .simp only[go_sem]
  rintro d h ⟨rfl,rfl⟩;simp only[go_sem];apply Qn hb;refine VC hb [0,1,2,3] Y7 rfl ?_ (n8) rfl ?_
  .simp only[go_sem]
  rintro d h ⟨rfl,rfl⟩;simp only[go_sem];exact qQ hb
 .simp only[hl,QaZ,YW]at n3;refine VC hb [0,1,2,3] Y7 rfl ?_ (n3) rfl ?_
  .simp only[go_sem]
  rintro d h ⟨rfl,rfl⟩;simp only[go_sem];apply Qn hb;refine VC hb [0,1,2,3] QdX rfl ?_ (c4) rfl ?_
  .simp only[go_sem]
  rintro d h ⟨rfl,rfl⟩;simp only[go_sem];apply Qn hb;refine VC hb [0,1,2,3] QdX rfl ?_ (c5) rfl ?_
  .simp only[go_sem]
  rintro d h ⟨rfl,rfl⟩;simp only[go_sem];apply Qn hb;refine VC hb [0,1,2,3] QdX rfl ?_ (c6) rfl ?_
  .simp only[go_sem]
  rintro d h ⟨rfl,rfl⟩;simp only[go_sem];apply Qn hb;refine VC hb [0,1,2,3] Y7 rfl ?_ (n7) rfl ?_
  .simp only[go_sem]
  rintro d h ⟨rfl,rfl⟩;simp only[go_sem];apply Qn hb;refine VC hb [0,1,2,3] Y7 rfl ?_ (n8) rfl ?_
  .simp only[go_sem]
  rintro d h ⟨rfl,rfl⟩;simp only[go_sem];exact qQ hb
variable {M:Kl}{s:M.σ}
def Bu(x:JN):Prog JN:=.Kp (IntKind.u64.wrap x.kind) 1 1 3 λk=>(Qf4 x.cls).bind λc=>.ret ⟨k,c⟩
def Qty(x:JN):(Bu x).Fits 120:=by
 refine⟨τ,τ,λ_ _=>?_⟩;refine Prog.Sp _ 0 ?_ _ 112 (QIK _);intro _;trivial
@[go_sem] def bx:Ob:=⟨.one,0,1,1,λ_=>[.ptr 1 0 0 0]⟩
def QIM{x}(hx:JN.Ok x)(hi:M.inv s)(hu:M.used s+120<=4294967296):
  QH prog 206 (M.hp s++[bx]) [.agg x.cells,.ptr 4 0 0 0] (λd h=>d=.agg (((Bu x).run M s).2).cells/\h=M.hp ((Bu x).run M s).1++[bx]):=by
 simp only[Bu,Prog.run,Prog.run_bind];have u1:=M.use s (IntKind.u64.wrap x.kind) 1 1 3;have i1:=M.kept s (IntKind.u64.wrap x.kind) 1 1 3 hi;refine Y8 5 Q4 200 func206 rfl rfl ntmps206 results206 rfl λbase w pl hb=>?_;simp only[go_sem];refine VC hb [0,1,2,3] Y7 rfl ?_ (P1 (v:=x.kind) (k:=1) (l:=1) (m:=3) hi ω τ τ τ τ τ τ) rfl ?_
 .simp only[go_sem]
 rintro d h ⟨rfl,rfl⟩;simp only[go_sem];apply Qn hb;refine VC hb [0,1,2,3] QFm rfl ?_ (QIL hx.2.1 i1 ω) rfl ?_
 .simp only[go_sem]
 rintro d h ⟨rfl,rfl⟩;simp only[go_sem];exact qQ hb
def ba{α:Type}[Inhabited α](one:α->Prog α)(l:List α):Nat->Nat->List α->Prog (List α)
 | 0,_,out=>.ret out
 | n+1,i,out=>.bN λe=>bif e then .ret [] else (one (l.getD i default)).bind λy=>ba one l n (i+1) (out++[y])
def W5{α:Type}[Inhabited α](one:α->Prog α)(l:List α):Prog (List α):=.Kp l.length 1 0 32 λn=>ba one l n.toNat 0 []
def QtM{α:Type}[Inhabited α]{one}{c}(h:∀x,(one x).Fits c)(l):∀(n i:Nat) (out:List α),(ba one l n i out).Fits (n*c)
 | 0,_,_=>trivial
 | n+1,i,out=>λb=>by
  cases b
  .rw[show (n+1)*c=c+n*c by rw[Nat.succ_mul,Nat.add_comm]];exact Prog.Sp (λy=>ba one l n (i+1) (out++[y])) (n*c) (λy=>QtM h l n (i+1) _) _ c (h _)
  .trivial
def Qt4{α:Type}[Inhabited α]{one}{c}(h:∀x,(one x).Fits c)(l:List α):(W5 one l).Fits (32*c+8):=by
 refine⟨τ,ω,λv hv=>?_⟩;refine Prog.Qex _ (QtM h l v.toNat 0 []) ?_;have:v.toNat<=32:=ω;rw[show 32*c+8 - 8=32*c by omega];exact X7 c this
variable {M:Kl}{s:M.σ}
def Kl.Sl(M:Kl)(q:D)(z n:Nat)(r:Nat->List D):Prop:=q=.imm z n r\/(M.keep=false/\(q=.nil\/∃a m c,q=.raw (.slice a m c)))
def Qui{α:Type}[Inhabited α](one:α->Prog α)(l:List α)(n i)(out:List α)(s:M.σ):(ba one l (n+1) i out).run M s=bif M.err s != 0 then (s,[]) else (ba one l n (i+1) (out++[((one (l.getD i default)).run M s).2])).run M ((one (l.getD i default)).run M s).1:=by
 simp only[ba,Prog.Qs1];cases M.err s != 0
 .simp only[YW,Prog.run_bind]
 .rfl
theorem Quj:(default:JN)=⟨0,⟨0,0,false,⟨0,0,0⟩,⟨0,0,0⟩,⟨0,0,0⟩,0,0⟩⟩:=rfl
def QIN:JN.Ok default:=by
 rw[Quj];exact⟨τ,⟨τ,τ,trivial,⟨τ,τ,τ,trivial⟩,⟨τ,τ,τ,trivial⟩,⟨τ,τ,τ,trivial⟩,τ,τ,trivial⟩,trivial⟩
structure QIO (one:JN->Prog JN) (l:List JN) (n:Nat) (fin:M.σ × List JN) (i:Nat) (t:M.σ) (out:List JN):Prop where
 len:out.length=i
 inv:M.inv t
 use:M.used t+(n - i)*120<=4294967296
 fin:(ba one l (n - i) i out).run M t=fin
def Qf6(l:List JN)(n:Nat)(M:Kl)(g:Nat)(i:Nat)(t:M.σ)(out:List JN):St:=
 ⟨[(0,.ptr 1 0 0 0),(1,.imm 15 l.length (JN.rows l)),(2,Qa 32),(3,.clo 206 0 [.ptr 4 0 0 0]),(9,.ref 5 g 0 i),(16,Qa n),(17,Qa i)],M.hp t++[bx,⟨.arr,g,15,i,JN.rows out⟩]⟩
def QIP{l:List JN}(hl:∀c∈l,JN.Ok c)(Xy:l.length<=maxLen)(hi:M.inv s)(hu:M.used s+3848<=4294967296):
  QH prog 205 (M.hp s++[bx]) [.ptr 1 0 0 0,.imm 15 l.length (JN.rows l),Qa 32,.clo 206 0 [.ptr 4 0 0 0]]
   (λd h=>(M.keep=true\/d=.nil\/∃a n c,d=.raw (.slice a n c))/\(M.keep=true->d=.imm 15 (((W5 Bu l).run M s).2).length (JN.rows ((W5 Bu l).run M s).2)\/(d=.nil/\((W5 Bu l).run M s).2=[]))/\h=M.hp ((W5 Bu l).run M s).1++[bx]):=by
 have hw:IntKind.u64.wrap (l.length:Int)=l.length:=lC ω (by simp only[maxLen]at Xy;omega);have u1:=M.use s l.length 1 0 32;have i1:=M.kept s l.length 1 0 32 hi;have r1:=M.rng s l.length 1 0 32;have n1:=P1 (s:=s) (v:=l.length) (k:=1) (l:=0) (m:=32) hi ω τ τ τ τ τ τ;rw[hw]at n1;simp only[W5,Prog.run];generalize ZZ:M.step s l.length 1 0 32=r at *;obtain⟨t0,n0⟩:=r;obtain⟨n,rfl⟩:=Qft (show 0<=n0 by simp only at r1;omega);have hn:n<=32:=by simp only at r1;omega
 simp only[Qb9]at *;generalize F8:(ba Bu l n 0 []).run M t0=fin;refine Qhp 5 Q4 200 func205 rfl rfl ntmps205 results205 rfl λbase w pl hb Zh=>?_;simp only[go_sem];refine VC hb [0,1,2,3] Y7 rfl ?_ (n1) rfl ?_
 .simp only[go_sem]
 rintro d h ⟨rfl,rfl⟩;simp only[go_sem];apply Qn hb;refine DF (Qz.BS 9 15 (JN.rows []) rfl) ?_;simp only[go_sem];refine Z3 (λi st=>∃t out g,QIO Bu l n fin i t out/\st=Qf6 l n M g i t out) n (s0:=Qf6 l n M 0 0 t0 []) (Qz.to 6 (by simp only[go_sem])) ⟨t0,[],0,⟨rfl,i1,ω,F8⟩,rfl⟩ ?_;rintro i _ K9 ⟨t,out,g,I,rfl⟩;simp only[Qf6];apply Qn hb;first|refine jO K9 (λQj=>?_) (λQj=>?_)|refine jP K9 (λQj=>?_) (λQj=>?_)
 .simp only[go_sem,Qj,HB];have mm:n - i=(n - (i+1))+1:=ω;have hf:=I.fin;rw[mm,Qui]at hf;refine YA (λhe=>?_) (λhe=>?_)
  .rw[he,js]at hf;subst hf;simp only[go_sem,he];exact⟨.inr (.inl trivial),λ_=>.inr trivial⟩
  .rw[he,YW]at hf;simp only[go_sem,he];have hx:JN.Ok (l.getD i default):=by
    by_cases h:i<l.length
    .exact hl _ (qg l default i h)
    .have:l.getD i default=default:=by simp[h]
     rw[this];exact QIN
   have c1:=QIM (M:=M) (s:=t) hx I.inv (by have:=I.use;omega);have ku:=Prog.use M (Bu (l.getD i default)) 120 t (Qty _);have kk:=Prog.kept M (Bu (l.getD i default)) t I.inv;generalize (Bu (l.getD i default)).run M t=rr at *;refine YA (λQb=>?_) (λQb=>?_)
   .simp only[go_sem,Qb];refine⟨by simpa using Qb,?_⟩;apply Qn hb;refine VC hb [0,1,2,3,4] QmM rfl ?_ (c1) rfl ?_
    .simp only[go_sem]
    rintro d h ⟨rfl,rfl⟩;simp only[go_sem];apply Qn hb;refine⟨ω,Qj,Qf6 l n M (g+1) (i+1) rr.1 (out++[rr.2]),Qz.to 6 ?_,_,_,_,⟨?_,kk,?_,hf⟩,rfl⟩
    .simp only[go_sem];refine⟨by rw[J9 ω],λj hj=>?_⟩;rw[Qeb out _ _ j (by have:=I.len;omega),I.len];cases decide (j<i)<;>rfl
    .simp[I.len]
    .have h2:=I.use;omega
   .simp only[go_sem,Qb];have h0:l.getD i default=default:=by
     have:l.length<=i:=by simpa using Qb
     simp[this]
    rw[h0,Quj]at c1;refine VC hb [0,1,2,3,4] QmM rfl ?_ (c1) rfl ?_
    .simp only[go_sem]
    rintro d h ⟨rfl,rfl⟩;simp only[go_sem];apply Qn hb;refine⟨ω,Qj,Qf6 l n M (g+1) (i+1) rr.1 (out++[rr.2]),Qz.to 6 ?_,_,_,_,⟨?_,kk,?_,hf⟩,rfl⟩
    .simp only[go_sem];refine⟨by rw[J9 ω],λj hj=>?_⟩;rw[Qeb out _ _ j (by have:=I.len;omega),I.len];cases decide (j<i)<;>rfl
    .simp[I.len]
    .have h2:=I.use;omega
 .subst Qj;have hf:=I.fin;rw[xg]at hf;simp only[ba,Prog.Qb4]at hf;subst hf;cases lX:M.keep with
  | true=>
   refine DF (Qz.ot Zh ?_ 9 5 π rfl rfl (by show 0+i<=i;omega) rfl (λj _=>rfl)) ?_
   .intro q o ho;match q,ho with
    | 0,ho=>exact⟨_,rfl,by cases ho;rfl⟩
    | 1,ho=>exact⟨_,rfl,by cases ho;rfl⟩
    | 2,ho=>exact⟨_,rfl,by cases ho;exact M.Qf1 lX _ _⟩
    | 3,ho=>exact⟨_,rfl,by cases ho;exact M.Qf2 lX _ _⟩
    | 4,ho=>exact⟨_,rfl,by cases ho;rfl⟩
    | q+5,ho=>simp at ho
   simp only[go_sem];apply Qn hb;exact⟨.inl trivial,.inl (by rw[I.len])⟩
  | false=>
   refine QmU 9 rfl λa n c=>?_;simp only[go_sem];apply Qn hb;exact .inr (.inr ⟨a,n,c,rfl⟩)
def QIQ{l:List JN}(hl:∀c∈l,JN.Ok c)(Xy:l.length<=maxLen)(hi:M.inv s)(hu:M.used s+3848<=4294967296):
  QH prog 205 (M.hp s++[bx]) [.ptr 1 0 0 0,.imm 15 l.length (JN.rows l),Qa 32,.clo 206 0 [.ptr 4 0 0 0]]
   (λd h=>M.Sl d 15 (((W5 Bu l).run M s).2).length (JN.rows ((W5 Bu l).run M s).2)/\h=M.hp ((W5 Bu l).run M s).1++[bx]):=by
 refine QH.tell ((QIP hl Xy hi hu).mono λd h ⟨h0,h2,h3⟩=>?_);cases hk:M.keep
 .rw[hk]at h0;exact⟨d,DS _ _,.inr ⟨hk,by simpa using h0⟩,h3⟩
 .refine⟨_,?_,.inl rfl,h3⟩;rcases h2 hk with e|⟨e,e2⟩
  .rw[e];exact DS _ _
  .rw[e,Qm3,e2];rfl
variable {M:Kl}{s:M.σ}
theorem Quq:(default:JT)=⟨0,0,0,0,0,0,0,0,0⟩:=rfl
def QIR:JT.Ok default:=by
 rw[Quq];exact⟨τ,τ,τ,τ,τ,τ,τ,τ,τ,trivial⟩
structure QIS (one:JT->Prog JT) (l:List JT) (n:Nat) (fin:M.σ × List JT) (i:Nat) (t:M.σ) (out:List JT):Prop where
 len:out.length=i
 inv:M.inv t
 use:M.used t+(n - i)*72<=4294967296
 fin:(ba one l (n - i) i out).run M t=fin
def Qgg(l:List JT)(n:Nat)(M:Kl)(g:Nat)(i:Nat)(t:M.σ)(out:List JT):St:=
 ⟨[(0,.ptr 1 0 0 0),(1,.imm 9 l.length (JT.rows l)),(2,Qa 32),(3,.clo 209 1 [.ptr 1 0 0 0]),(9,.ref 4 g 0 i),(16,Qa n),(17,Qa i)],M.hp t++[⟨.arr,g,9,i,JT.rows out⟩]⟩
def QIT{l:List JT}(hl:∀c∈l,JT.Ok c)(Xy:l.length<=maxLen)(hi:M.inv s)(hu:M.used s+2312<=4294967296):
  QH prog 208 (M.hp s) [.ptr 1 0 0 0,.imm 9 l.length (JT.rows l),Qa 32,.clo 209 1 [.ptr 1 0 0 0]]
   (λd h=>(M.keep=true\/d=.nil\/∃a n c,d=.raw (.slice a n c))/\(M.keep=true->d=.imm 9 (((W5 A1 l).run M s).2).length (JT.rows ((W5 A1 l).run M s).2)\/(d=.nil/\((W5 A1 l).run M s).2=[]))/\h=M.hp ((W5 A1 l).run M s).1):=by
 have hw:IntKind.u64.wrap (l.length:Int)=l.length:=lC ω (by simp only[maxLen]at Xy;omega);have u1:=M.use s l.length 1 0 32;have i1:=M.kept s l.length 1 0 32 hi;have r1:=M.rng s l.length 1 0 32;have n1:=P1 (s:=s) (v:=l.length) (k:=1) (l:=0) (m:=32) hi ω τ τ τ τ τ τ;rw[hw]at n1;simp only[W5,Prog.run];generalize ZZ:M.step s l.length 1 0 32=r at *;obtain⟨t0,n0⟩:=r;obtain⟨n,rfl⟩:=Qft (show 0<=n0 by simp only at r1;omega);have hn:n<=32:=by simp only at r1;omega
 simp only[Qb9]at *;generalize F8:(ba A1 l n 0 []).run M t0=fin;refine Qhp 4 Q4 200 func208 rfl rfl ntmps208 results208 rfl λbase w pl hb Zh=>?_;simp only[go_sem];refine VC hb [0,1,2,3] Y7 rfl ?_ (n1) rfl ?_
 .simp only[go_sem]
 rintro d h ⟨rfl,rfl⟩;simp only[go_sem];apply Qn hb;refine DF (Qz.BS 9 9 (JT.rows []) rfl) ?_;simp only[go_sem];refine Z3 (λi st=>∃t out g,QIS A1 l n fin i t out/\st=Qgg l n M g i t out) n (s0:=Qgg l n M 0 0 t0 []) (Qz.to 5 (by simp only[go_sem])) ⟨t0,[],0,⟨rfl,i1,ω,F8⟩,rfl⟩ ?_;rintro i _ K9 ⟨t,out,g,I,rfl⟩;simp only[Qgg];apply Qn hb;first|refine jO K9 (λQj=>?_) (λQj=>?_)|refine jP K9 (λQj=>?_) (λQj=>?_)
 .simp only[go_sem,Qj,HB];have mm:n - i=(n - (i+1))+1:=ω;have hf:=I.fin;rw[mm,Qui]at hf;refine YA (λhe=>?_) (λhe=>?_)
  .rw[he,js]at hf;subst hf;simp only[go_sem,he];exact⟨.inr (.inl trivial),λ_=>.inr trivial⟩
  .rw[he,YW]at hf;simp only[go_sem,he];have hx:JT.Ok (l.getD i default):=by
    by_cases h:i<l.length
    .exact hl _ (qg l default i h)
    .have:l.getD i default=default:=by simp[h]
     rw[this];exact QIR
   have c1:=QIJ (M:=M) (s:=t) hx I.inv (by have:=I.use;omega);have ku:=Prog.use M (A1 (l.getD i default)) 72 t (Qs8 _);have kk:=Prog.kept M (A1 (l.getD i default)) t I.inv;generalize (A1 (l.getD i default)).run M t=rr at *;refine YA (λQb=>?_) (λQb=>?_)
   .simp only[go_sem,Qb];refine⟨by simpa using Qb,?_⟩;apply Qn hb;refine VC hb [0,1,2,3] QmS rfl ?_ (c1) rfl ?_
    .simp only[go_sem]
    rintro d h ⟨rfl,rfl⟩;simp only[go_sem];apply Qn hb;refine⟨ω,Qj,Qgg l n M (g+1) (i+1) rr.1 (out++[rr.2]),Qz.to 5 ?_,_,_,_,⟨?_,kk,?_,hf⟩,rfl⟩
    .simp only[go_sem];refine⟨by rw[J9 ω],λj hj=>?_⟩;rw[Qeb out _ _ j (by have:=I.len;omega),I.len];cases decide (j<i)<;>rfl
    .simp[I.len]
    .have h2:=I.use;omega
   .simp only[go_sem,Qb];have h0:l.getD i default=default:=by
     have:l.length<=i:=by simpa using Qb
     simp[this]
    rw[h0,Quq]at c1;refine VC hb [0,1,2,3] QmS rfl ?_ (c1) rfl ?_
    .simp only[go_sem]
    rintro d h ⟨rfl,rfl⟩;simp only[go_sem];apply Qn hb;refine⟨ω,Qj,Qgg l n M (g+1) (i+1) rr.1 (out++[rr.2]),Qz.to 5 ?_,_,_,_,⟨?_,kk,?_,hf⟩,rfl⟩
    .simp only[go_sem];refine⟨by rw[J9 ω],λj hj=>?_⟩;rw[Qeb out _ _ j (by have:=I.len;omega),I.len];cases decide (j<i)<;>rfl
    .simp[I.len]
    .have h2:=I.use;omega
 .subst Qj;have hf:=I.fin;rw[xg]at hf;simp only[ba,Prog.Qb4]at hf;subst hf;cases lX:M.keep with
  | true=>
   refine DF (Qz.ot Zh ?_ 9 4 π rfl rfl (by show 0+i<=i;omega) rfl (λj _=>rfl)) ?_
   .intro q o ho;match q,ho with
    | 0,ho=>exact⟨_,rfl,by cases ho;rfl⟩
    | 1,ho=>exact⟨_,rfl,by cases ho;rfl⟩
    | 2,ho=>exact⟨_,rfl,by cases ho;exact M.Qf1 lX _ _⟩
    | 3,ho=>exact⟨_,rfl,by cases ho;exact M.Qf2 lX _ _⟩
    | q+4,ho=>simp at ho
   simp only[go_sem];apply Qn hb;exact⟨.inl trivial,.inl (by rw[I.len])⟩
  | false=>
   refine QmU 9 rfl λa n c=>?_;simp only[go_sem];apply Qn hb;exact .inr (.inr ⟨a,n,c,rfl⟩)
def QIU{l:List JT}(hl:∀c∈l,JT.Ok c)(Xy:l.length<=maxLen)(hi:M.inv s)(hu:M.used s+2312<=4294967296):
  QH prog 208 (M.hp s) [.ptr 1 0 0 0,.imm 9 l.length (JT.rows l),Qa 32,.clo 209 1 [.ptr 1 0 0 0]]
   (λd h=>M.Sl d 9 (((W5 A1 l).run M s).2).length (JT.rows ((W5 A1 l).run M s).2)/\h=M.hp ((W5 A1 l).run M s).1):=by
 refine QH.tell ((QIT hl Xy hi hu).mono λd h ⟨h0,h2,h3⟩=>?_);cases hk:M.keep
 .rw[hk]at h0;exact⟨d,DS _ _,.inr ⟨hk,by simpa using h0⟩,h3⟩
 .refine⟨_,?_,.inl rfl,h3⟩;rcases h2 hk with e|⟨e,e2⟩
  .rw[e];exact DS _ _
  .rw[e,Qm3,e2];rfl
variable {M:Kl}{s:M.σ}
def Kl.OpD(M:Kl)(d:D)(x:ZV):Prop:=∃q1 q2,d=.agg [.raw (.int .i64 x.kind),q1,q2,.raw (.int .u64 x.ZI.iD),.raw (.int .i64 x.ZI.len),.raw (.int .u16 x.ZI.wc),.raw (.int .u16 x.ZI.wg),.raw (.int .u16 x.ZI.wh),.raw (.int .u16 x.ZI.wi),.raw (.int .u64 x.Wi)] /\
 M.Sl q1 15 x.changes.length (JN.rows x.changes)/\M.Sl q2 9 x.rules.length (JT.rows x.rules)
def dc(x:ZV)(k:Int):Prog ZV:=
 if k=1 then (W5 Bu x.changes).bind λl=>.ret ⟨1,l,[],default,0⟩
 else if k=2 then (W5 A1 x.rules).bind λl=>.ret ⟨2,[],l,default,0⟩
 else if k=3 then (QbW x.ZI).bind λp=>.ret ⟨3,[],[],p,0⟩
 else if k=4 then .Kp x.Wi 8 0 18446744073709551615 λt=>.ret ⟨4,[],[],default,t⟩
 else .ret ⟨0,[],[],default,0⟩
def pop(x:ZV):Prog ZV:=.Kp (IntKind.u64.wrap x.kind) 1 1 4 λk=>dc x k
def QIV(x:ZV)(k:Int):(dc x k).Fits 3848:=by
 unfold dc;split
 .refine Prog.Sp _ 0 ?_ _ 3848 (Qt4 Qty _);intro _;trivial
 split
 .refine Prog.Qex _ (Prog.Sp _ 0 ?_ _ 2312 (Qt4 Qs8 _)) τ;intro _;trivial
 split
 .refine Prog.Qex _ (Prog.Sp _ 0 ?_ _ 48 (QIH _)) τ;intro _;trivial
 split
 .exact⟨τ,τ,λ_ _=>trivial⟩
 .trivial
def QIW(x:ZV):(pop x).Fits 3856:=⟨τ,τ,λv _=>QIV x v⟩
def Kl.Sl.tell{z}{q}{l}{r}(h:M.Sl q z l r\/(q=.nil/\l=0))(k):∃q',Ke (k+1) q q'/\M.Sl q' z l r:=by
 rcases h with h|⟨rfl,rfl⟩
 .exact⟨q,DS _ _,h⟩
 .exact⟨.imm z 0 r,by rw[Qm3],.inl rfl⟩
def Kl.tellOp{x:ZV}{q1 q2}(h1:M.Sl q1 15 x.changes.length (JN.rows x.changes)\/(q1=.nil/\x.changes.length=0))(h2:M.Sl q2 9 x.rules.length (JT.rows x.rules)\/(q2=.nil/\x.rules.length=0)){hs}:
  Told (λd h=>M.OpD d x/\h=hs) (.agg [.raw (.int .i64 x.kind),q1,q2,.raw (.int .u64 x.ZI.iD),.raw (.int .i64 x.ZI.len),.raw (.int .u16 x.ZI.wc),.raw (.int .u16 x.ZI.wg),.raw (.int .u16 x.ZI.wh),.raw (.int .u16 x.ZI.wi),.raw (.int .u64 x.Wi)]) hs:=by
 obtain⟨a,a1,a2⟩:=Kl.Sl.tell h1 4;obtain⟨b,b1,b2⟩:=Kl.Sl.tell h2 4;refine⟨.agg [.raw (.int .i64 x.kind),a,b,.raw (.int .u64 x.ZI.iD),.raw (.int .i64 x.ZI.len),.raw (.int .u16 x.ZI.wc),.raw (.int .u16 x.ZI.wg),.raw (.int .u16 x.ZI.wh),.raw (.int .u16 x.ZI.wi),.raw (.int .u64 x.Wi)],?_,⟨a,b,rfl,a2,b2⟩,rfl⟩;simp only[Qm9,Qnc,Qnb,QmZ,vO,lB];exact⟨a1,b1⟩
theorem QIX(x:ZV)(t:M.σ):(dc x 0).run M t=(t,⟨0,[],[],default,0⟩):=rfl
def QIY(x:ZV)(t:M.σ):(dc x 1).run M t=(((W5 Bu x.changes).run M t).1,⟨1,((W5 Bu x.changes).run M t).2,[],default,0⟩):=by
 simp only[dc,Vs,Prog.run_bind,Prog.Qb4]
def QIZ(x:ZV)(t:M.σ):(dc x 2).run M t=(((W5 A1 x.rules).run M t).1,⟨2,[],((W5 A1 x.rules).run M t).2,default,0⟩):=by
 simp only[dc,show ¬((2:Int)=1) by decide,vN,Vs,Prog.run_bind,Prog.Qb4]
def QI0(x:ZV)(t:M.σ):(dc x 3).run M t=(((QbW x.ZI).run M t).1,⟨3,[],[],((QbW x.ZI).run M t).2,0⟩):=by
 simp only[dc,show ¬((3:Int)=1) by decide,show ¬((3:Int)=2) by decide,vN,Vs,Prog.run_bind,Prog.Qb4]
def QI1(x:ZV)(t:M.σ):(dc x 4).run M t=((M.step t x.Wi 8 0 18446744073709551615).1,⟨4,[],[],default,(M.step t x.Wi 8 0 18446744073709551615).2⟩):=by
 simp only[dc,show ¬((4:Int)=1) by decide,show ¬((4:Int)=2) by decide,show ¬((4:Int)=3) by decide,vN,Vs,Prog.QIC,Prog.Qb4]
def QI2{x}(hx:ZV.Ok x)(hi:M.inv s)(hu:M.used s+3856<=4294967296):
  QH prog 171 (M.hp s) [.ptr 1 0 0 0,.agg x.cells] (λd h=>M.OpD d ((pop x).run M s).2/\h=M.hp ((pop x).run M s).1):=by
 have r1:=M.rng s (IntKind.u64.wrap x.kind) 1 1 4;have u1:=M.use s (IntKind.u64.wrap x.kind) 1 1 4;have i1:=M.kept s (IntKind.u64.wrap x.kind) 1 1 4 hi;have n1:=P1 (s:=s) (v:=x.kind) (k:=1) (l:=1) (m:=4) hi ω τ τ τ τ τ τ;simp only[pop,Prog.run];generalize M.step s (IntKind.u64.wrap x.kind) 1 1 4=r at *;obtain⟨t,k⟩:=r;simp only at r1 u1 i1 n1 ⊢;have hk:k=0\/k=1\/k=2\/k=3\/k=4:=ω;refine QH.tell ?_;rcases hk with rfl|rfl|rfl|rfl|rfl
 .rw[QIX];refine Y8 4 Q4 200 func171 rfl rfl ntmps171 results171 rfl λbase w pl hb=>?_;simp only[go_sem];refine VC hb [0,1,2,3] Y7 rfl ?_ (n1) rfl ?_
  .simp only[go_sem]
  rintro d h ⟨rfl,rfl⟩;simp only[go_sem];apply Qn hb;exact Kl.tellOp (x:=⟨0,[],[],default,0⟩) (.inr ⟨rfl,rfl⟩) (.inr ⟨rfl,rfl⟩)
 .rw[QIY];refine Y8 4 Q4 200 func171 rfl rfl ntmps171 results171 rfl λbase w pl hb=>?_;simp only[go_sem];refine VC hb [0,1,2,3] Y7 rfl ?_ (n1) rfl ?_
  .simp only[go_sem]
  rintro d h ⟨rfl,rfl⟩;simp only[go_sem];apply Qn hb;refine VC hb [0,1,2,3,4] QFl rfl ?_ (QIQ hx.2.1.2 hx.2.1.1 i1 ω) rfl ?_
  .simp only[go_sem]
  rintro d h ⟨hd,rfl⟩;rcases id hd with rfl|⟨hk,rfl|⟨a,m,c,rfl⟩⟩;all_goals
   simp only[go_sem];apply Qn hb;exact Kl.tellOp (x:=⟨1,((W5 Bu x.changes).run M t).2,[],default,0⟩) (.inl hd) (.inr ⟨rfl,rfl⟩)
 .rw[QIZ];refine Y8 4 Q4 200 func171 rfl rfl ntmps171 results171 rfl λbase w pl hb=>?_;simp only[go_sem];refine VC hb [0,1,2,3] Y7 rfl ?_ (n1) rfl ?_
  .simp only[go_sem]
  rintro d h ⟨rfl,rfl⟩;simp only[go_sem];apply Qn hb;refine VC hb [0,1,2,3] QFn rfl ?_ (QIU hx.2.2.1.2 hx.2.2.1.1 i1 ω) rfl ?_
  .simp only[go_sem]
  rintro d h ⟨hd,rfl⟩;rcases id hd with rfl|⟨hk,rfl|⟨a,m,c,rfl⟩⟩;all_goals
   simp only[go_sem];apply Qn hb;exact Kl.tellOp (x:=⟨2,[],((W5 A1 x.rules).run M t).2,default,0⟩) (.inr ⟨rfl,rfl⟩) (.inl hd)
 .rw[QI0];refine Y8 4 Q4 200 func171 rfl rfl ntmps171 results171 rfl λbase w pl hb=>?_;simp only[go_sem];refine VC hb [0,1,2,3] Y7 rfl ?_ (n1) rfl ?_
  .simp only[go_sem]
  rintro d h ⟨rfl,rfl⟩;simp only[go_sem];apply Qn hb;refine VC hb [0,1,2,3] QFo rfl ?_ (QII hx.2.2.2.1 i1 ω) rfl ?_
  .simp only[go_sem]
  rintro d h ⟨rfl,rfl⟩;simp only[go_sem];apply Qn hb;exact Kl.tellOp (x:=⟨3,[],[],((QbW x.ZI).run M t).2,0⟩) (.inr ⟨rfl,rfl⟩) (.inr ⟨rfl,rfl⟩)
 .rw[QI1];refine Y8 4 Q4 200 func171 rfl rfl ntmps171 results171 rfl λbase w pl hb=>?_;simp only[go_sem];refine VC hb [0,1,2,3] Y7 rfl ?_ (n1) rfl ?_
  .simp only[go_sem]
  rintro d h ⟨rfl,rfl⟩;simp only[go_sem];apply Qn hb;refine VC hb [0,1,2,3] Qbk rfl ?_ (QbN (v:=x.Wi) (k:=8) Qs5 i1 ω τ τ (QeT hx.2.2.2.2.1).1 (QeT hx.2.2.2.2.1).2) rfl ?_
  .simp only[go_sem]
  rintro d h ⟨rfl,rfl⟩;simp only[go_sem];apply Qn hb;exact Kl.tellOp (x:=⟨4,[],[],default,(M.step t x.Wi 8 0 18446744073709551615).2⟩) (.inr ⟨rfl,rfl⟩) (.inr ⟨rfl,rfl⟩)
def Kl.OpE(M:Kl)(d:D)(x:ZV):Prop:=d=.agg x.cells\/(M.keep=false/\∃a m c a' m' c',d=.agg [.raw (.int .i64 x.kind),.raw (.slice a m c),.raw (.slice a' m' c'),.raw (.int .u64 x.ZI.iD),.raw (.int .i64 x.ZI.len),.raw (.int .u16 x.ZI.wc),.raw (.int .u16 x.ZI.wg),.raw (.int .u16 x.ZI.wh),.raw (.int .u16 x.ZI.wi),.raw (.int .u64 x.Wi)])
def Kl.Sl.val{q}{z n}{r}(h:M.Sl q z n r){Z}{hh}{pl}{w}{v}(hr:QC Z hh pl w q v):∃a m c,v=.slice a m c:=by
 rcases h with rfl|⟨_,rfl|⟨a,m,c,rfl⟩⟩
 .obtain⟨a,cap,_,_,_,hv,_⟩:=PF hr;exact⟨_,_,_,hv⟩
 .obtain⟨a,hv⟩:=Dp hr;exact⟨_,_,_,hv⟩
 .exact⟨_,_,_,Jn hr⟩
def QI3{x}(hx:ZV.Ok x)(hi:M.inv s)(hu:M.used s+3856<=4294967296):
  QH prog 171 (M.hp s) [.ptr 1 0 0 0,.agg x.cells] (λd h=>M.OpE d ((pop x).run M s).2/\h=M.hp ((pop x).run M s).1):=by
 refine QH.QF7 (QI2 hx hi hu) λd hh ⟨⟨q1,q2,hd,h1,h2⟩,e⟩ Z pl w v r=>?_;generalize ((pop x).run M s).2=y at *;subst hd;cases hk:M.keep
 .obtain⟨vs,hv,hl,hc⟩:=Ho r;obtain⟨a,m,c,e1⟩:=h1.val (hc 1 π);obtain⟨a',m',c',e2⟩:=h2.val (hc 2 π);refine⟨_,?_,.inr ⟨hk,a,m,c,a',m',c',rfl⟩,e⟩;rw[hv];refine .agg _ vs hl λi hi=>?_;match i,hi with
  | 0,_=>exact hc 0 π
  | 1,_=>rw[e1];exact .cl _ _ (.raw _)
  | 2,_=>rw[e2];exact .cl _ _ (.raw _)
  | 3,_=>exact hc 3 π
  | 4,_=>exact hc 4 π
  | 5,_=>exact hc 5 π
  | 6,_=>exact hc 6 π
  | 7,_=>exact hc 7 π
  | 8,_=>exact hc 8 π
  | 9,_=>exact hc 9 π
  | i+10,hi=>exact absurd hi (by show ¬ i+10<10;omega)
 .have e1:q1=.imm 15 y.changes.length (JN.rows y.changes):=h1.resolve_right λh=>by rw[hk]at h;cases h.1
  have e2:q2=.imm 9 y.rules.length (JT.rows y.rules):=h2.resolve_right λh=>by rw[hk]at h;cases h.1
  subst e1;subst e2;exact⟨_,r,.inl rfl,e⟩
variable {M:Kl}{s:M.σ}
def QbX(l:List ZV):Nat->Nat->List ZV->Prog (Option (List ZV))
 | 0,_,out=>.ret (some out)
 | n+1,i,out=>.bN λe=>bif e then .ret none else (pop (l.getD i default)).bind λy=>QbX l n (i+1) (out++[y])
def QI4(t m:Int):Option (List ZV)->YD
 | some l=>⟨⟨t,m⟩,l⟩
 | none=>⟨⟨0,0⟩,[]⟩
def QbY(x:YD):Prog YD:=.Kp (IntKind.u64.wrap x.config.t) 4 1 65536 λt=>.Kp (IntKind.u64.wrap x.config.ZX) 4 1 16384 λm=>.Kp x.ops.length 2 0 1000 λn=>
 (QbX x.ops n.toNat 0 []).bind λo=>.ret (QI4 t m o)
def QI5(l:List ZV)(n i)(out:List ZV)(s:M.σ):(QbX l (n+1) i out).run M s=bif M.err s != 0 then (s,none) else (QbX l n (i+1) (out++[((pop (l.getD i default)).run M s).2])).run M ((pop (l.getD i default)).run M s).1:=by
 simp only[QbX,Prog.Qs1];cases M.err s != 0
 .simp only[YW,Prog.run_bind]
 .rfl
theorem QuA:(default:ZV)=⟨0,[],[],⟨0,0,0,0,0,0⟩,0⟩:=rfl
def QI6:ZV.Ok default:=by
 rw[QuA];exact⟨τ,⟨π,π⟩,⟨π,π⟩,⟨τ,τ,τ,τ,τ,τ,trivial⟩,τ,trivial⟩
structure QI7 (l:List ZV) (n:Nat) (fin:M.σ × Option (List ZV)) (i:Nat) (t:M.σ) (out:List ZV) (row:Nat->List D):Prop where
 len:out.length=i
 inv:M.inv t
 use:M.used t+(n - i)*3856<=4294967296
 fin:(QbX l (n - i) i out).run M t=fin
 rows:∀j,j<i->M.OpE (.agg (row j)) (out.getD j default)
def Kl.OpE.all{d:List D}{x}(h:M.OpE (.agg d) x):d.all D.qI=true/\AQ 4 d=true:=by
 rcases h with e|⟨_,a,m,c,a',m',c',e⟩<;>cases e<;>exact⟨rfl,rfl⟩
def H0(x:YD)(T L:Int)(n:Nat)(M:Kl)(g i:Nat)(t:M.σ)(row:Nat->List D):St:=
 ⟨[(0,.ptr 1 0 0 0),(3,.ptr 4 0 0 0),(4,.ptr 5 0 0 0),(5,.ptr 6 0 0 0),(26,Qa n),(27,Qa i)],
  M.hp t++[⟨.one,0,3,1,λ_=>x.cells⟩,⟨.one,0,3,1,λ_=>[Qa 0,Qa 0,.nil]⟩,⟨.one,0,3,1,λ_=>[Qa T,Qa L,.ref 7 g 0 i]⟩,⟨.arr,g,10,i,row⟩]⟩
def Kl.ScD(M:Kl)(d:D)(x:YD):Prop:=M.keep=true->d=.agg x.cells
def Kl.fz2(s:M.σ)(g n z)(r)(i):kW 7 g n z r ((M.o2 s).row i)=(M.o2 s).row i:=Qen τ (M.Qai s i)
def Kl.fz3(s:M.σ)(g n z)(r)(i):kW 7 g n z r ((M.o3 s).row i)=(M.o3 s).row i:=Qen τ (M.Qar s i)
def QuB{x}(hx:YD.Ok x)(hi:M.inv s)(hu:M.used s+3857000<=4294967296):
  QH prog 121 (M.hp s) [.ptr 1 0 0 0,.agg x.cells] (λd h=>M.ScD d ((QbY x).run M s).2/\h=M.hp ((QbY x).run M s).1):=by
 have Xy:=hx.2.1.1;have hw:IntKind.u64.wrap (x.ops.length:Int)=x.ops.length:=lC ω (by simp only[maxLen]at Xy;omega);have n1:=P1 (s:=s) (v:=x.config.t) (k:=4) (l:=1) (m:=65536) hi ω τ τ τ τ τ τ;have u1:=M.use s (IntKind.u64.wrap x.config.t) 4 1 65536;have i1:=M.kept s (IntKind.u64.wrap x.config.t) 4 1 65536 hi;simp only[QbY,Prog.run,Prog.run_bind];generalize M.step s (IntKind.u64.wrap x.config.t) 4 1 65536=r1 at *;have n2:=P1 (s:=r1.1) (v:=x.config.ZX) (k:=4) (l:=1) (m:=16384) i1 ω τ τ τ τ τ τ;have u2:=M.use r1.1 (IntKind.u64.wrap x.config.ZX) 4 1 16384;have i2:=M.kept r1.1 (IntKind.u64.wrap x.config.ZX) 4 1 16384 i1;generalize M.step r1.1 (IntKind.u64.wrap x.config.ZX) 4 1 16384=r2 at *;have n3:=P1 (s:=r2.1) (v:=x.ops.length) (k:=2) (l:=0) (m:=1000) i2 ω τ τ τ τ τ τ;rw[hw]at n3;have u3:=M.use r2.1 x.ops.length 2 0 1000;have i3:=M.kept r2.1 x.ops.length 2 0 1000 i2;have g3:=M.rng r2.1 x.ops.length 2 0 1000;generalize M.step r2.1 x.ops.length 2 0 1000=r3 at *;obtain⟨t0,n0⟩:=r3;obtain⟨n,rfl⟩:=Qft (show 0<=n0 by simp only at g3;omega);have hn:n<=1000:=by simp only at g3;omega
 simp only[Qb9]at *;generalize F8:(QbX x.ops n 0 []).run M t0=fin;obtain⟨t1,T⟩:=r1;obtain⟨t2,L⟩:=r2;simp only at *;refine QH.tell ?_;refine Qhp 4 Q4 200 func121 rfl rfl ntmps121 results121 rfl λbase w pl hb Zh=>?_;simp only[go_sem];refine VC hb [0,1,2,3] Y7 rfl ?_ (n1) rfl ?_
 .simp only[go_sem]
 rintro d h ⟨rfl,rfl⟩;simp only[go_sem];apply Qn hb;refine VC hb [0,1,2,3] Y7 rfl ?_ (n2) rfl ?_
 .simp only[go_sem]
 rintro d h ⟨rfl,rfl⟩;simp only[go_sem];apply Qn hb;refine VC hb [0,1,2,3] Y7 rfl ?_ (n3) rfl ?_
 .simp only[go_sem]
 rintro d h ⟨rfl,rfl⟩;simp only[go_sem];apply Qn hb;refine DF (Qz.Qgy 6 2 10 (ZV.rows []) rfl rfl rfl rfl) ?_;simp only[go_sem];refine Z3 (λi st=>∃t out g row,QI7 x.ops n fin i t out row/\st=H0 x T L n M g i t row) n (s0:=H0 x T L n M 0 0 t0 (ZV.rows [])) (Qz.to 8 (by simp only[go_sem])) ⟨t0,[],0,ZV.rows [],⟨rfl,i3,ω,F8,λj hj=>ω⟩,rfl⟩ ?_;rintro i _ K9 ⟨t,out,g,row,I,rfl⟩;simp only[H0];apply Qn hb;first|refine jO K9 (λQj=>?_) (λQj=>?_)|refine jP K9 (λQj=>?_) (λQj=>?_)
 .simp only[go_sem,Qj,HB];have mm:n - i=(n - (i+1))+1:=ω;have hf:=I.fin;rw[mm,QI5]at hf;have QJb:=I.rows;have ho:ZV.Ok (x.ops.getD i default):=by
   by_cases h:i<x.ops.length
   .exact hx.2.1.2 _ (qg x.ops default i h)
   .have:x.ops.getD i default=default:=by simp[h]
    rw[this];exact QI6
  have c1:=QI3 (M:=M) (s:=t) ho I.inv (by have:=I.use;omega);have ku:=Prog.use M (pop (x.ops.getD i default)) 3856 t (QIW _);have kk:=Prog.kept M (pop (x.ops.getD i default)) t I.inv;generalize (pop (x.ops.getD i default)).run M t=rr at *;have Qvp:∀cs:List D,M.OpE (.agg cs) rr.2->∀j,j<i+1->M.OpE (.agg (bif decide (j<i) then row j else cs)) ((out++[rr.2]).getD j default):=λcs h j hj=>by
   rw[Qeb out _ _ j (by have:=I.len;omega),I.len];cases hd:decide (j<i)
   .exact h
   .exact QJb j (by simpa using hd)
  refine YA (λhe=>?_) (λhe=>?_)
  .rw[he,js]at hf;subst hf;simp only[go_sem,he];refine⟨.agg [Qa 0,Qa 0,.imm 10 0 (ZV.rows [])],?_,λ_=>rfl,rfl⟩;simp only[go_sem]
  .rw[he,YW]at hf;simp only[go_sem,he];refine YA (λQb=>?_) (λQb=>?_)
   .simp only[go_sem,Qb];refine⟨by simpa using Qb,?_⟩;apply Qn hb;apply Vk [4] hb [0,2,3] [1,4,5,6,7,8];simp only[go_sem];refine⟨?_,?_⟩;all_goals
     refine QgB hb [0,1,2,3] QmA rfl ?_ c1 rfl ?_
     .simp only[go_sem]
     rintro d h ⟨hd,rfl⟩;rcases id hd with rfl|⟨hk,a,m,c,a',m',c',rfl⟩
     ·
      simp only[go_sem];apply ZA hb;first|refine⟨⟨ω,Qj,H0 x T L n M (g+1) (i+1) rr.1 (λj=>bif decide (j<i) then row j else rr.2.cells),Qz.to 8 ?_,_,_,_,_,⟨?_,kk,?_,hf,?_⟩,rfl⟩,⟨ω,Qj,H0 x T L n M (g+1) (i+1) rr.1 (λj=>bif decide (j<i) then row j else rr.2.cells),Qz.to 8 ?_,_,_,_,_,⟨?_,kk,?_,hf,?_⟩,rfl⟩⟩|refine⟨ω,Qj,H0 x T L n M (g+1) (i+1) rr.1 (λj=>bif decide (j<i) then row j else rr.2.cells),Qz.to 8 ?_,_,_,_,_,⟨?_,kk,?_,hf,?_⟩,rfl⟩
      all_goals first
       | (simp only[go_sem];exact⟨by rw[J9 ω],λj hj=>CT τ (Qvp _ hd j hj).all.2⟩)
       | (simp[I.len];done)
       | (have h2:=I.use;omega)
       | exact Qvp _ hd
     ·
      simp only[go_sem];apply ZA hb;first|refine⟨⟨ω,Qj,H0 x T L n M (g+1) (i+1) rr.1 (λj=>bif decide (j<i) then row j else [.raw (.int .i64 rr.2.kind),.raw (.slice a m c),.raw (.slice a' m' c'),.raw (.int .u64 rr.2.ZI.iD),.raw (.int .i64 rr.2.ZI.len),.raw (.int .u16 rr.2.ZI.wc),.raw (.int .u16 rr.2.ZI.wg),.raw (.int .u16 rr.2.ZI.wh),.raw (.int .u16 rr.2.ZI.wi),.raw (.int .u64 rr.2.Wi)]),Qz.to 8 ?_,_,_,_,_,⟨?_,kk,?_,hf,?_⟩,rfl⟩,⟨ω,Qj,H0 x T L n M (g+1) (i+1) rr.1 (λj=>bif decide (j<i) then row j else [.raw (.int .i64 rr.2.kind),.raw (.slice a m c),.raw (.slice a' m' c'),.raw (.int .u64 rr.2.ZI.iD),.raw (.int .i64 rr.2.ZI.len),.raw (.int .u16 rr.2.ZI.wc),.raw (.int .u16 rr.2.ZI.wg),.raw (.int .u16 rr.2.ZI.wh),.raw (.int .u16 rr.2.ZI.wi),.raw (.int .u64 rr.2.Wi)]),Qz.to 8 ?_,_,_,_,_,⟨?_,kk,?_,hf,?_⟩,rfl⟩⟩|refine⟨ω,Qj,H0 x T L n M (g+1) (i+1) rr.1 (λj=>bif decide (j<i) then row j else [.raw (.int .i64 rr.2.kind),.raw (.slice a m c),.raw (.slice a' m' c'),.raw (.int .u64 rr.2.ZI.iD),.raw (.int .i64 rr.2.ZI.len),.raw (.int .u16 rr.2.ZI.wc),.raw (.int .u16 rr.2.ZI.wg),.raw (.int .u16 rr.2.ZI.wh),.raw (.int .u16 rr.2.ZI.wi),.raw (.int .u64 rr.2.Wi)]),Qz.to 8 ?_,_,_,_,_,⟨?_,kk,?_,hf,?_⟩,rfl⟩
      all_goals first
       | (simp only[go_sem];exact⟨by rw[J9 ω],λj hj=>CT τ (Qvp _ hd j hj).all.2⟩)
       | (simp[I.len];done)
       | (have h2:=I.use;omega)
       | exact Qvp _ hd
   .simp only[go_sem,Qb];have h0:x.ops.getD i default=default:=by
     have:x.ops.length<=i:=by simpa using Qb
     simp[this]
    rw[h0,QuA]at c1;have c2:=QH.QbQ (cs':=[.ptr 1 0 0 0,.agg [Qa 0,.nil,.nil,Y6 0,Qa 0,QbM 0,QbM 0,QbM 0,QbM 0,Y6 0]]) c1 (by simp only[go_sem]);apply Vk [4] hb [0,2,3] [1,4,5,6,7,8];simp only[go_sem];refine⟨?_,?_⟩;all_goals
     refine QgB hb [0,1,2,3] QmA rfl ?_ c2 rfl ?_
     .simp only[go_sem]
     rintro d h ⟨hd,rfl⟩;rcases id hd with rfl|⟨hk,a,m,c,a',m',c',rfl⟩
     ·
      simp only[go_sem];apply ZA hb;first|refine⟨⟨ω,Qj,H0 x T L n M (g+1) (i+1) rr.1 (λj=>bif decide (j<i) then row j else rr.2.cells),Qz.to 8 ?_,_,_,_,_,⟨?_,kk,?_,hf,?_⟩,rfl⟩,⟨ω,Qj,H0 x T L n M (g+1) (i+1) rr.1 (λj=>bif decide (j<i) then row j else rr.2.cells),Qz.to 8 ?_,_,_,_,_,⟨?_,kk,?_,hf,?_⟩,rfl⟩⟩|refine⟨ω,Qj,H0 x T L n M (g+1) (i+1) rr.1 (λj=>bif decide (j<i) then row j else rr.2.cells),Qz.to 8 ?_,_,_,_,_,⟨?_,kk,?_,hf,?_⟩,rfl⟩
      all_goals first
       | (simp only[go_sem];exact⟨by rw[J9 ω],λj hj=>CT τ (Qvp _ hd j hj).all.2⟩)
       | (simp[I.len];done)
       | (have h2:=I.use;omega)
       | exact Qvp _ hd
     ·
      simp only[go_sem];apply ZA hb;first|refine⟨⟨ω,Qj,H0 x T L n M (g+1) (i+1) rr.1 (λj=>bif decide (j<i) then row j else [.raw (.int .i64 rr.2.kind),.raw (.slice a m c),.raw (.slice a' m' c'),.raw (.int .u64 rr.2.ZI.iD),.raw (.int .i64 rr.2.ZI.len),.raw (.int .u16 rr.2.ZI.wc),.raw (.int .u16 rr.2.ZI.wg),.raw (.int .u16 rr.2.ZI.wh),.raw (.int .u16 rr.2.ZI.wi),.raw (.int .u64 rr.2.Wi)]),Qz.to 8 ?_,_,_,_,_,⟨?_,kk,?_,hf,?_⟩,rfl⟩,⟨ω,Qj,H0 x T L n M (g+1) (i+1) rr.1 (λj=>bif decide (j<i) then row j else [.raw (.int .i64 rr.2.kind),.raw (.slice a m c),.raw (.slice a' m' c'),.raw (.int .u64 rr.2.ZI.iD),.raw (.int .i64 rr.2.ZI.len),.raw (.int .u16 rr.2.ZI.wc),.raw (.int .u16 rr.2.ZI.wg),.raw (.int .u16 rr.2.ZI.wh),.raw (.int .u16 rr.2.ZI.wi),.raw (.int .u64 rr.2.Wi)]),Qz.to 8 ?_,_,_,_,_,⟨?_,kk,?_,hf,?_⟩,rfl⟩⟩|refine⟨ω,Qj,H0 x T L n M (g+1) (i+1) rr.1 (λj=>bif decide (j<i) then row j else [.raw (.int .i64 rr.2.kind),.raw (.slice a m c),.raw (.slice a' m' c'),.raw (.int .u64 rr.2.ZI.iD),.raw (.int .i64 rr.2.ZI.len),.raw (.int .u16 rr.2.ZI.wc),.raw (.int .u16 rr.2.ZI.wg),.raw (.int .u16 rr.2.ZI.wh),.raw (.int .u16 rr.2.ZI.wi),.raw (.int .u64 rr.2.Wi)]),Qz.to 8 ?_,_,_,_,_,⟨?_,kk,?_,hf,?_⟩,rfl⟩
      all_goals first
       | (simp only[go_sem];exact⟨by rw[J9 ω],λj hj=>CT τ (Qvp _ hd j hj).all.2⟩)
       | (simp[I.len];done)
       | (have h2:=I.use;omega)
       | exact Qvp _ hd
 .subst Qj;have hf:=I.fin;rw[xg]at hf;simp only[QbX,Prog.Qb4]at hf;subst hf;have Z7:∀j,j<i->(row j).all D.qI=true:=λj hj=>(I.rows j hj).all.1;cases lX:M.keep with
  | true=>
   refine DF (Qz.QF1 Zh ?_ 7 π rfl rfl Z7) ?_
   .intro q o ho;match q,ho with
    | 0,ho=>exact⟨_,rfl,by cases ho;rfl⟩
    | 1,ho=>exact⟨_,rfl,by cases ho;rfl⟩
    | 2,ho=>exact⟨_,rfl,by cases ho;exact M.Qf1 lX _ _⟩
    | 3,ho=>exact⟨_,rfl,by cases ho;exact M.Qf2 lX _ _⟩
    | q+4,ho=>simp at ho
   simp only[go_sem,Kl.fz2,Kl.fz3];apply Qn hb;refine⟨.agg [.raw (.int .i64 T),.raw (.int .i64 L),.imm 10 out.length (ZV.rows out)],?_,λ_=>rfl,rfl⟩;simp only[Qm9,Qnc,Qnb,QmZ,vO,lB,bE];refine⟨I.len,λj hj=>?_⟩;have h1:=(I.rows j (by have:=I.len;omega)).resolve_right λh=>by rw[lX]at h;cases h.1
   have h2:row j=(out.getD j default).cells:=by simpa using h1
   rw[h2];exact HZ (DS _) _
  | false=>
   refine QGf 6 2 rfl rfl rfl rfl (by show 2<3;decide) λa n c=>?_;simp only[go_sem];apply Qn hb;exact⟨_,DS _ _,λe=>absurd e (by rw[lX];decide),rfl⟩
def be(l:List Int):Int:=l.foldl (λv b=>v*256+b) 0
structure DSt where
 rest:List Int
 err:Int
def nv(s:DSt)(k:Nat)(l m:Int):DSt × Int:=
 if s.err=0 then
  if s.rest.length<k then (⟨s.rest,3⟩,0)
  else if be (s.rest.take k)<l\/m<be (s.rest.take k) then (⟨s.rest.drop k,4⟩,0)
  else (⟨s.rest.drop k,0⟩,be (s.rest.take k))
 else (s,0)
@[go_sem] def dhp(f:FuncId)(s:DSt):List Ob:=[⟨.one,0,1,1,λ_=>[.ptr 1 0 0 0]⟩,⟨.one,0,2,1,λ_=>[.clo f 0 [.ptr 0 0 0 0,.ptr 2 0 0 0],Qa s.err]⟩,⟨.one,0,1,1,λ_=>[.raw (.string (Gh s.rest))]⟩,⟨.arr,0,1,0,λ_=>[]⟩]
@[go_sem] theorem QLo:be []=0:=rfl
def QuF(l)(b):be (l++[b])=be l*256+b:=by simp[be]
def QuH:∀(r:List Int),Bytes r.reverse->0<=be r.reverse/\be r.reverse<256 ^ r.length
 | [],_=>by simp[be]
 | b::r,h=>by
  rw[List.reverse_cons]at h ⊢;obtain⟨h1,h2⟩:=QuH r (λx hx=>h x (by simp at hx ⊢;exact .inl hx));obtain⟨h3,h4⟩:=h b π;rw[QuF,Kv,Int.pow_succ];generalize (256:Int) ^ r.length=p at *;omega
def QJc{l:List Int}(h:Bytes l):0<=be l/\be l<256 ^ l.length:=by
 have:=QuH l.reverse (by rw[List.reverse_reverse];exact h);rwa [List.reverse_reverse,List.length_reverse]at this
def QJd{i}(h:i<=7):(256:Int) ^ i<=72057594037927936:=by
 have:i=0\/i=1\/i=2\/i=3\/i=4\/i=5\/i=6\/i=7:=ω;rcases this with rfl|rfl|rfl|rfl|rfl|rfl|rfl|rfl<;>decide
def or8{v b}(h0:0<=v)(h:v<72057594037927936)(b0:0<=b)(b1:b<256):bits .or .u64 (IntKind.u64.wrap (v*2 ^ min 8 64)) b=v*256+b:=by
 obtain⟨x,rfl⟩:=Qft h0;obtain⟨y,rfl⟩:=Qft b0;have e:IntKind.u64.wrap ((x:Int)*2 ^ min 8 64)=((x*256:Nat):Int):=by rw[IntKind.wrap_u64];simp;omega
 rw[e,u64_or_nat _ _ ω ω,nat_join 8 _ _ ω ω];simp
def QJf{l:List Int}(h:Bytes l)(i):Bytes (l.take i):=λx hx=>h x (List.mem_of_mem_take hx)
def QJg{l:List Int}(h:Bytes l)(i):Bytes (l.drop i):=λx hx=>h x (List.mem_of_mem_drop hx)
def QJh{l:List Int}{i}(h:Bytes l)(hi:i<l.length)(h7:i<=7):bits .or .u64 (IntKind.u64.wrap (be (l.take i)*2 ^ min 8 64)) (l.getD i 0)=be (l.take (i+1)):=by
 obtain⟨h1,h2⟩:=QJc (QJf h i);have h3:=QJd h7;rw[Qgv,Fq ω]at h2;obtain⟨b0,b1⟩:=h _ (qg l 0 i hi);rw[or8 h1 ω b0 b1,getD_take l 0 i hi,QuF]
def QJi{s:DSt}{v:Int}{n:Nat}{l m:Int}(zP:Bytes s.rest)(hlen:s.rest.length<=maxLen)(Qj:1<=n)(Ts:n<=8)(hl:0<=l)(hv:0<=v)(hv2:v<18446744073709551616):
  QH prog 122 (dhp 122 s) [Y6 v,Qa n,Y6 l,Y6 m,.ptr 0 0 0 0,.ptr 2 0 0 0] (λd h=>d=Y6 (nv s n l m).2/\h=dhp 122 (nv s n l m).1):=by
 have Ju:=QsL s.rest;obtain⟨rest,err⟩:=s;simp only at zP hlen Ju ⊢;by_cases he:err=0
 .subst he;by_cases hs:rest.length<n
  .have e3:decide (rest.length<n)=true:=by simpa using hs
   simp only[nv,Qd hs,Vs];refine Y8 4 Q4 200 func122 rfl rfl ntmps122 results122 rfl λbase w pl hb=>?_;simp only[go_sem];simp only[go_sem,Ju,e3]
  .have e3:decide (rest.length<n)=false:=by simpa using hs
   simp only[nv,Qc hs,Vs];refine Y8 4 Q4 200 func122 rfl rfl ntmps122 results122 rfl λbase w pl hb=>?_;simp only[go_sem];simp only[go_sem,Ju,e3];refine MW (G:=Nat) [1,2,3,4,5] (λk=>True) (λk γ=>[(0,Y6 (be (rest.take k))),(31,Qa n),(32,Qa k)]) (λk γ=>[⟨.one,0,1,1,λ_=>[.ptr 1 0 0 0]⟩,⟨.one,0,2,1,λ_=>[.clo 122 0 [.ptr 0 0 0 0,.ptr 2 0 0 0],Qa 0]⟩,⟨.one,0,1,1,λ_=>[.raw (.string (Gh rest))]⟩,⟨.arr,0,1,0,λ_=>[]⟩]) (n) (0) rfl (Qz.to 4 (by (simp only[go_sem])<;>simp)) trivial ?_;intro k γ hk _;apply Qn hb;first|refine jO hk (λQj=>?_) (λQj=>?_)|refine jP hk (λQj=>?_) (λQj=>?_)
   .have hg:=QIz zP k ω;obtain⟨b0,b1⟩:=zP _ (qg rest 0 k ω);have hw:=lC b0 ω;have ZO:=QJh zP (i:=k) ω ω;have Zb:=J9 (k:=k) ω;simp only[go_sem,Qj,HB,Ju,hg,hw,ZO,Zb];repeat (refine And.intro η ?_)
    refine⟨_,Qz.to 4 (by (simp only[go_sem])<;>simp),XT.mk (γ) (trivial)⟩
   .simp only[go_sem];subst Qj;have vS:(Gh rest).extract k rest.length=Gh (rest.drop k):=by rw[QIA,q9]
    apply Qg hb;simp only[go_sem,Ju,vS];refine⟨ω,?_⟩;by_cases h1:be (rest.take k)<l
    .have d1:decide (be (rest.take k)<l)=true:=QU h1;simp only[go_sem,d1,Qd (Or.inl h1:be (rest.take k)<l\/m<be (rest.take k))]
    .have d1:decide (be (rest.take k)<l)=false:=QI h1;by_cases h2:m<be (rest.take k)
     .have d2:decide (m<be (rest.take k))=true:=QU h2;simp only[go_sem,d1,d2,Qd (Or.inr h2:be (rest.take k)<l\/m<be (rest.take k))]
     .have d2:decide (m<be (rest.take k))=false:=QI h2;simp only[go_sem,d1,d2,Qc (show ¬(be (rest.take k)<l\/m<be (rest.take k)) from λh=>h.elim h1 h2)]
 .simp only[nv,Qc he];have e1:(err==0)=false:=by simpa using he
  have e2:(err != 0)=true:=by simpa using he
  refine Y8 4 Q4 200 func122 rfl rfl ntmps122 results122 rfl λbase w pl hb=>?_;simp only[go_sem];simp only[go_sem,e1,e2]
def QJj{s:DSt}{k}{l m:Int}(h:Bytes s.rest/\s.rest.length<=maxLen):Bytes (nv s k l m).1.rest/\(nv s k l m).1.rest.length<=maxLen:=by
 unfold nv;split
 .split
  .exact h
  .split<;>exact⟨QJg h.1 _,by simp only[Un];have:=h.2;omega⟩
 .exact h
def Qe1:Kl where
 σ:=DSt
 f:=122
 err:=λs=>s.err
 step:=λs _ k l m=>nv s k l m
 used:=λ_=>0
 inv:=λs=>Bytes s.rest/\s.rest.length<=maxLen
 o2:=λs=>⟨.one,0,1,1,λ_=>[.raw (.string (Gh s.rest))]⟩
 o3:=λ_=>⟨.arr,0,1,0,λ_=>[]⟩
 keep:=true
 QiT:=λ_ _=>rfl
 QiU:=λ_ _=>rfl
 QiX:=λ_ _=>rfl
 QiZ:=λ_ _=>rfl
 Qai:=λ_ _=>rfl
 Qar:=λ_ _=>rfl
 Qi0:=λ_ _=>rfl
 Qi1:=λ_ _=>rfl
 Qi2:=λ_ _=>rfl
 Qje:=λ_ _=>rfl
 Qjf:=λ_ _ _=>rfl
 Qjy:=λ_ _ _=>rfl
 Qjz:=λ_ _ _=>rfl
 QjO:=λ_ _ _=>rfl
 Qf1:=λ_ _ _=>rfl
 Qf2:=λ_ _ _=>rfl
 fok:=QFg
 rng:=λs v k l m=>by
  simp only[nv];split
  .split
   .exact .inl rfl
   .split
    .exact .inl rfl
    .rename_i h;exact .inr ⟨ω,ω⟩
  .exact .inl rfl
 use:=λ_ _ _ _ _=>Jh _
 kept:=λ_ _ _ _ _ h=>QJj h
 ok:=λ_ _ _ _ _ h _ h1 h8 hl hv hv2=>QJi h.1 h.2 h1 h8 hl hv hv2
def lA:YD:=⟨⟨0,0⟩,[]⟩
def QJk:YD.Ok lA:=⟨⟨τ,τ,trivial⟩,⟨by simp[lA],by simp[lA]⟩,trivial⟩
def Qg5(bs:List Int):YD × Int:=
 let r:=(QbY lA).run Qe1 ⟨bs,0⟩
 if r.1.err=0 then (if 0<r.1.rest.length then (lA,2) else (r.2,0)) else (lA,r.1.err)
def QuI(e):Told (λd h=>d=.tup [.agg lA.cells,.raw (.int .i64 e)]/\h=[]) (.tup [.agg [.raw (.int .i64 0),.raw (.int .i64 0),.nil],.raw (.int .i64 e)]) []:=
 ⟨_,by simp only[lA,go_sem],rfl,rfl⟩
def QJl{bs:List Int}(zP:Bytes bs)(hlen:bs.length<=maxLen):
  QW prog 57 [QsI bs] (λd h=>d=.tup [.agg (Qg5 bs).1.cells,Qa (Qg5 bs).2]/\h=[]):=by
 have hc:=QuB (M:=Qe1) (s:=⟨bs,0⟩) QJk ⟨zP,hlen⟩ (show 0+3857000<=4294967296 from τ);have jx:=QH.QbQ (cs':=[.ptr 1 0 0 0,.agg [Qa 0,Qa 0,.nil]]) hc (by simp only[lA,go_sem]);have hk:=Prog.kept Qe1 (QbY lA) ⟨bs,0⟩ ⟨zP,hlen⟩;simp only[Qg5];generalize (QbY lA).run Qe1 ⟨bs,0⟩=r at *;obtain⟨⟨rest,err⟩,y⟩:=r;refine QW.tell ?_;refine xT 0 func57 ntmps57 results57 λbase w hb=>?_;simp only[go_sem];refine Rp (Qz.ghost 1 (λ_=>[])) ?_;simp only[go_sem];refine VC hb [3,2,0,4] Qmz rfl ?_ jx rfl ?_
 .simp only[Qe1,go_sem]
 rintro d h ⟨hd,rfl⟩;obtain rfl:=hd rfl;simp only[Qe1,go_sem];apply Qn hb;have Ju:=QsL rest;by_cases he:err=0
 .subst he;by_cases hr:0<rest.length
  .have e1:decide ((0:Int)<rest.length)=true:=by simpa using hr
   simp only[Qd hr,Vs];simp only[go_sem,Ju,e1];apply Vk [] hb [0] [1,2,3,4,5,6];simp only[go_sem]
   repeat' refine And.intro ?_ ?_
   all_goals exact QuI 2
  .have e1:decide ((0:Int)<rest.length)=false:=by simpa using hr
   simp only[Qc hr,Vs];simp only[go_sem,Ju,e1];exact⟨_,DS _ _,rfl,rfl⟩
 .have e1:(err==0)=false:=by simpa using he
  have e2:(err != 0)=true:=by simpa using he
  simp only[Qc he];simp only[go_sem,e1,e2];apply Vk [] hb [0] [1,2,3,4,5,6];simp only[go_sem]
  repeat' refine And.intro ?_ ?_
  all_goals exact QuI err
def nE(n:Nat)(v:Int):List Int:=(List.range n).map λi=>v / 256 ^ (n - 1 - i) % 256
structure ESt where
 g:Nat
 err:Int
 out:List Int
def Qb7(s:ESt)(v:Int)(n:Nat)(l m:Int):ESt × Int:=
 if v<l\/m<v then (⟨s.g,4,s.out⟩,0)
 else if s.err=0 then (⟨s.g+n,0,s.out++nE n v⟩,v)
 else (s,0)
@[go_sem] def eo2(s:ESt):Ob:=⟨.one,0,1,1,λ_=>[.ref 3 s.g 0 s.out.length]⟩
@[go_sem] def eo3(s:ESt):Ob:=⟨.arr,s.g,1,s.out.length,nw .u8 s.out⟩
@[go_sem] def ehp(f:FuncId)(s:ESt):List Ob:=[⟨.one,0,1,1,λ_=>[.ptr 1 0 0 0]⟩,⟨.one,0,2,1,λ_=>[.clo f 0 [.ptr 0 0 0 0,.ptr 2 0 0 0],Qa s.err]⟩,eo2 s,eo3 s]
def QuM(n)(v:Int):(nE n v).length=n:=by simp[nE]
def QJm{n k}(v:Int)(h:k<n):(nE n v).getD k 0=v / 256 ^ (n - 1 - k) % 256:=by
 simp[nE,Q5,h]
def QJn{n k:Nat}(h:k<n)(h8:n<=8):IntKind.i64.wrap (8*IntKind.i64.wrap (IntKind.i64.wrap ((n:Int) - 1) - k))=((8*(n - 1 - k):Nat):Int):=by
 have e1:IntKind.i64.wrap ((n:Int) - 1)=n - 1:=by rw[IntKind.wrap_i64];omega
 have e2:IntKind.i64.wrap ((n:Int) - 1 - k)=((n - 1 - k:Nat):Int):=by rw[IntKind.wrap_i64];omega
 rw[e1,e2,IntKind.wrap_i64];omega
def QJo{n k}{v:Int}(hv:0<=v)(h:k<n)(h8:n<=8):IntKind.u8.wrap (v.fdiv (2 ^ min (8*(n - 1 - k)) 64))=(nE n v).getD k 0:=by
 rw[QJm v h,IntKind.wrap_u8,Fq ω,Int.fdiv_eq_ediv_of_nonneg _ (Int.pow_nonneg τ),Int.pow_mul];rfl
def QJp{s:ESt}{v:Int}{n:Nat}{l m:Int}(hlen:s.out.length+8<=4294967296)(Qj:1<=n)(Ts:n<=8)(hv:0<=v)(hv2:v<18446744073709551616):
  QH prog 120 (ehp 120 s) [Y6 v,Qa n,Y6 l,Y6 m,.ptr 0 0 0 0,.ptr 2 0 0 0] (λd h=>d=Y6 (Qb7 s v n l m).2/\h=ehp 120 (Qb7 s v n l m).1):=by
 obtain⟨g,err,out⟩:=s;simp only at hlen ⊢;by_cases XF:v<l\/m<v
 .simp only[Qb7,Qd XF];by_cases h1:v<l
  .have d1:decide (v<l)=true:=QU h1;refine Y8 4 Q4 200 func120 rfl rfl ntmps120 results120 rfl λbase w pl hb=>?_;simp only[go_sem];simp only[go_sem,d1]
  .have d1:decide (v<l)=false:=QI h1;have d2:decide (m<v)=true:=QU (XF.resolve_left h1);refine Y8 4 Q4 200 func120 rfl rfl ntmps120 results120 rfl λbase w pl hb=>?_;simp only[go_sem];simp only[go_sem,d1,d2]
 .have d1:decide (v<l)=false:=QI λh=>XF (.inl h);have d2:decide (m<v)=false:=QI λh=>XF (.inr h);simp only[Qb7,Qc XF];have xo:=QuM n v;by_cases he:err=0
  .subst he;simp only[Vs];refine Y8 4 Q4 200 func120 rfl rfl ntmps120 results120 rfl λbase w pl hb=>?_;simp only[go_sem];simp only[go_sem,d1,d2];refine MW (G:=Nat) [0,1,4,5] (λk=>True) (λk γ=>[(28,Qa n),(29,Qa k)]) (λk γ=>[⟨.one,0,1,1,λ_=>[.ptr 1 0 0 0]⟩,⟨.one,0,2,1,λ_=>[.clo 120 0 [.ptr 0 0 0 0,.ptr 2 0 0 0],Qa 0]⟩,⟨.one,0,1,1,λ_=>[.ref 3 (g+k) 0 (out.length+k)]⟩,⟨.arr,g+k,1,out.length+k,nw .u8 (out++(nE n v).take k)⟩]) (n) (0) rfl (Qz.to 4 (by (simp only[go_sem])<;>simp)) trivial ?_;intro k γ hk _;apply Qn hb;first|refine jO hk (λQj=>?_) (λQj=>?_)|refine jP hk (λQj=>?_) (λQj=>?_)
   .simp only[go_sem,Qj,HB];apply QF hb [0,1,2,3,4,5,6,7,8,1009,1010,1011];simp only[go_sem,QJn Qj Ts,Qb9,QJo hv Qj Ts];have Zb:=J9 (k:=k) ω;refine⟨ω,Qj,_,Qz.to 4 ?_,XT.mk (γ+1) trivial⟩
    .simp only[go_sem,Zb];have hl:(out++(nE n v).take k).length=out.length+k:=by simp[xo];omega
     refine⟨λi _=>by rw[<- QfH,<- QfH],ω,ω,λi hi=>?_⟩;rw[getD_take _ 0 k ω,<- V9,Qeb _ _ _ i ω,hl];cases decide (i<out.length+k)<;>rfl
   .simp only[go_sem];subst Qj;apply Qn hb;rw[show (nE k v).take k=nE k v from Qha ω,ZW,xo]
  .have e2:(err != 0)=true:=by simpa using he
   simp only[Qc he];refine Y8 4 Q4 200 func120 rfl rfl ntmps120 results120 rfl λbase w pl hb=>?_;simp only[go_sem];simp only[go_sem,d1,d2,e2]
def Qgi:Kl where
 σ:=ESt
 f:=120
 err:=λs=>s.err
 step:=λs v k l m=>Qb7 s v k l m
 used:=λs=>s.out.length
 inv:=λ_=>True
 o2:=eo2
 o3:=eo3
 keep:=false
 QiT:=λ_ _=>rfl
 QiU:=λ_ _=>rfl
 QiX:=λ_ _=>rfl
 QiZ:=λ_ _=>rfl
 Qai:=λ_ _=>rfl
 Qar:=λ_ _=>rfl
 Qi0:=λ_ _=>rfl
 Qi1:=λ_ _=>rfl
 Qi2:=λ_ _=>rfl
 Qje:=λ_ _=>rfl
 Qjf:=λ_ _ _=>rfl
 Qjy:=λ_ _ _=>rfl
 Qjz:=λ_ _ _=>rfl
 QjO:=λ_ _ _=>rfl
 Qf1:=λh=>by cases h
 Qf2:=λh=>by cases h
 fok:=QFf
 rng:=λs v k l m=>by
  simp only[Qb7];split
  .exact .inl rfl
  .split
   .rename_i h _;exact .inr ⟨by simp only;omega,by simp only;omega⟩
   .exact .inl rfl
 use:=λs v k l m=>by
  simp only[Qb7];split
  .simp
  .split
   .simp[QuM]
   .simp
 kept:=λ_ _ _ _ _ _=>trivial
 ok:=λs v k l m _ hu h1 h8 _ hv hv2=>QJp hu h1 h8 hv hv2
def Qg7(x:YD):List Int × Int:=
 let r:=(QbY x).run Qgi ⟨0,0,[]⟩
 if r.1.err=0 then (r.1.out,0) else ([],r.1.err)
def QJq{x:YD}(hx:YD.Ok x):QW prog 56 [.agg x.cells] (QN (.tup [QsI (Qg7 x).1,Qa (Qg7 x).2])):=by
 have hc:=QuB (M:=Qgi) (s:=⟨0,0,[]⟩) hx trivial (show 0+3857000<=4294967296 from τ);simp only[Qg7];generalize (QbY x).run Qgi ⟨0,0,[]⟩=r at *;obtain⟨⟨g,err,out⟩,y⟩:=r;refine xT 0 func56 ntmps56 results56 λbase w hb=>?_;simp only[go_sem];refine Rp (Qz.QF8 1 1 rfl rfl) ?_;simp only[go_sem];refine VC hb [3,2,1,4] Qmz rfl ?_ hc rfl ?_
 .simp only[Qgi,go_sem];intro i hi;omega
 rintro d h ⟨hd,rfl⟩;simp only[Qgi,go_sem];apply Qn hb;by_cases he:err=0
 .subst he;simp only[Vs];simp only[go_sem];refine QmT Q4.L rfl rfl rfl rfl rfl out ⟨⟨rfl,by show 0+out.length<=out.length;omega⟩,rfl,λi _=>by simp only[go_sem,JD]⟩ rfl ?_;exact qQ hb
 .have e2:(err != 0)=true:=by simpa using he
  simp only[Qc he];simp only[go_sem,e2];apply QF hb [0,1,2,3,4,5];simp only[go_sem];all_goals rfl
structure Kn where
 s:List Int
 at_:Nat
 v:Int
 err:Int
@[go_sem] def Kn.cells(r:Kn):List D:=[.raw (.string (Gh r.s)),.raw (.int .i64 r.at_),.raw (.int .u64 r.v),.raw (.int .i64 r.err)]
def Kn.next(r:Kn)(n:Nat)(l m:Int):Kn:=
 if r.err=0 then
  if (r.s.length:Int) - r.at_<n then ⟨r.s,r.at_,0,3⟩
  else
   let v:=be ((r.s.drop r.at_).take n)
   if v<l\/m<v then ⟨r.s,r.at_,0,4⟩ else ⟨r.s,r.at_+n,v,0⟩
 else r
structure Kn.Good (r:Kn):Prop where
 b:Bytes r.s
 l:r.s.length<=4294967296
 a:r.at_<=r.s.length
def Kn.Qkf(r:Kn):Cv × Kn:=
 let a:=r.next 4 0 4294967295;let b:=a.next 4 0 1048576;let c:=b.next 4 0 4294967295
 (⟨a.v,b.v,c.v⟩,c)
def w16(n:Int):Int:=IntKind.u16.wrap n
def Kn.head(r:Kn):Hd × Kn:=
 let a:=r.next 2 0 65535;let b:=a.next 2 0 65535;let c:=b.next 2 0 65535;let d:=c.next 2 0 65535
 (⟨w16 a.v,w16 b.v,w16 c.v,w16 d.v⟩,d)
def Qb8(n:Int):Int:=IntKind.i64.wrap n
def Kn.change(r:Kn):JN × Kn:=
 let k:=r.next 1 1 3;let id:=k.next 4 0 65536;let p:=id.next 4 0 65536;let leaf:=p.next 1 0 1;let a:=leaf.Qkf;let b:=a.2.Qkf;let c:=b.2.Qkf;let pk:=c.2.next 1 0 64;let by_:=pk.next 4 0 1048576
 (⟨Qb8 k.v,⟨Qb8 id.v,Qb8 p.v,leaf.v==1,a.1,b.1,c.1,Qb8 pk.v,Qb8 by_.v⟩⟩,by_)
def Qg8{α:Type}(one:Kn->α × Kn):Nat->Kn->List α->List α × Kn
 | 0,x,out=>(out,x)
 | n+1,x,out=>Qg8 one n (one x).2 (out++[(one x).1])
def Kn.changes(r:Kn):List JN × Kn:=Qg8 Kn.change (r.next 1 0 32).v.toNat (r.next 1 0 32) []
structure QLp {α:Type} (one:Kn->α × Kn) (n:Nat) (fin:List α × Kn) (i:Nat) (x:Kn) (out:List α):Prop where
 len:out.length=i
 ES:x.Good
 fin:Qg8 one (n - i) x out=fin
@[go_sem] def rSt(r:Kn)(n g i:Nat)(x:Kn)(out:List JN):St:=
 ⟨[(1,.ptr 0 0 0 0),(2,.nil),(3,.ptr 1 0 0 0),(4,.ref 3 g 0 i),(5,.ptr 2 0 0 0),(14,Qa n),(15,Qa i)],
  [⟨.one,0,4,1,λ_=>r.cells⟩,⟨.one,0,4,1,λ_=>[.raw (.string ByteArray.empty),.raw (.int .i64 0),.raw (.int .u64 0),.raw (.int .i64 0)]⟩,⟨.one,0,4,1,λ_=>x.cells⟩,⟨.arr,g,15,i,JN.rows out⟩]⟩
def Kn.QJr(x:Kn):JT × Kn:=
 let m:=x.head;let w:=m.2.head;let y:=w.2.next 4 0 65536
 (⟨m.1.a,m.1.b,m.1.c,m.1.d,w.1.a,w.1.b,w.1.c,w.1.d,Qb8 y.v⟩,y)
def Kn.rules(r:Kn):List JT × Kn:=Qg8 Kn.QJr (r.next 1 0 32).v.toNat (r.next 1 0 32) []
@[go_sem] def rSu(r:Kn)(n g i:Nat)(x:Kn)(out:List JT):St:=
 ⟨[(1,.ptr 0 0 0 0),(2,.nil),(3,.ptr 1 0 0 0),(4,.ref 3 g 0 i),(5,.ptr 2 0 0 0),(16,Qa n),(17,Qa i)],
  [⟨.one,0,4,1,λ_=>r.cells⟩,⟨.one,0,4,1,λ_=>[.raw (.string ByteArray.empty),.raw (.int .i64 0),.raw (.int .u64 0),.raw (.int .i64 0)]⟩,⟨.one,0,4,1,λ_=>x.cells⟩,⟨.arr,g,9,i,JT.rows out⟩]⟩
def Kn.op(r:Kn):ZV × Kn:=
 let k:=r.next 1 1 4
 if k.err=0 then
  if k.v=1 then (⟨1,k.changes.1,[],default,0⟩,k.changes.2)
  else if k.v=2 then (⟨2,[],k.rules.1,default,0⟩,k.rules.2)
  else if k.v=3 then
   let id:=k.next 8 0 18446744073709551615;let n:=id.next 2 1 16384;let h:=n.head
   (⟨3,[],[],⟨id.v,Qb8 n.v,h.1.a,h.1.b,h.1.c,h.1.d⟩,0⟩,h.2)
  else
   let x:=k.next 8 0 18446744073709551615
   (⟨4,[],[],default,x.v⟩,x)
 else (default,k)
def rdl:Nat->Kn->List ZV->List ZV × Kn
 | 0,x,out=>(out,x)
 | n+1,x,out=>if x.err=0 then rdl n x.op.2 (out++[x.op.1]) else (out,x)
structure RDl (n:Nat) (fin:List ZV × Kn) (i:Nat) (x:Kn) (out:List ZV):Prop where
 len:out.length=i
 ES:x.Good
 fin:rdl (n - i) x out=fin
@[go_sem] def dSt(r t m:Kn)(d0:D)(n g i:Nat)(x:Kn)(out:List ZV):St:=
 ⟨[(0,d0),(2,.ptr 0 0 0 0),(4,.ptr 2 0 0 0),(5,.ptr 3 0 0 0),(6,.ptr 4 0 0 0),(8,.ref 5 g 0 i),(22,Qa n),(23,Qa i)],
  [⟨.one,0,4,1,λ_=>[.raw (.int .i64 0),.raw (.int .i64 0),.nil,.raw (.int .i64 0)]⟩,⟨.one,0,4,1,λ_=>r.cells⟩,⟨.one,0,4,1,λ_=>t.cells⟩,⟨.one,0,4,1,λ_=>m.cells⟩,⟨.one,0,4,1,λ_=>x.cells⟩,⟨.arr,g,10,i,ZV.rows out⟩]⟩
def QJs(x:ZV)(h1:x.changes.length<=4294967296)(h2:x.rules.length<=4294967296):QW prog 123 [.agg x.cells,.agg x.cells] (QN (QT true)):=by
 have b1:∀n:Int,(n != n)=false:=λn=>π;have b2:∀n:Nat,(n != n)=false:=λn=>π;refine xT 0 func123 ntmps123 results123 λbase w hb=>?_;simp only[go_sem];simp only[go_sem,b1];refine MW (G:=Nat) [2,3] (λk=>True) (λk γ=>[(47,.imm 15 x.changes.length (JN.rows x.changes)),(48,Qa x.changes.length),(49,Qa k)]) (λk γ=>[⟨.one,0,10,1,λ_=>x.cells⟩,⟨.one,0,10,1,λ_=>x.cells⟩]) (x.changes.length) (0) rfl (Qz.to 2 (by (simp only[go_sem])<;>simp)) trivial ?_;intro k γ hk _;apply Qn hb;first|refine jO hk (λQj=>?_) (λQj=>?_)|refine jP hk (λQj=>?_) (λQj=>?_)
 .simp only[go_sem,Qj,HB];apply QF hb [0,1,2,3,4,5,6];simp only[go_sem];have Zb:=J9 (k:=k) ω;repeat (refine And.intro η ?_)
  refine⟨_,Qz.to 2 (by (simp only[go_sem,Zb])<;>simp),XT.mk (γ) (trivial)⟩
 .simp only[go_sem];apply Qn hb;refine MW (G:=Nat) [2,3] (λk=>True) (λk γ=>[(63,.imm 9 x.rules.length (JT.rows x.rules)),(64,Qa x.rules.length),(65,Qa k)]) (λk γ=>[⟨.one,0,10,1,λ_=>x.cells⟩,⟨.one,0,10,1,λ_=>x.cells⟩]) (x.rules.length) (0) rfl (Qz.to 2 (by (simp only[go_sem])<;>simp)) trivial ?_;intro k γ hk _;apply Qn hb;first|refine jO hk (λQj=>?_) (λQj=>?_)|refine jP hk (λQj=>?_) (λQj=>?_)
  .simp only[go_sem,Qj,HB];apply QF hb [0,1,2,3,4,5,6];simp only[go_sem];have Zb:=J9 (k:=k) ω;repeat (refine And.intro η ?_)
   refine⟨_,Qz.to 2 (by (simp only[go_sem,Zb])<;>simp),XT.mk (γ) (trivial)⟩
  .simp only[go_sem];exact qQ hb
def QJt(x:YD)(hl:x.ops.length<=4294967296)(ho:∀o∈x.ops,o.changes.length<=4294967296/\o.rules.length<=4294967296):QW prog 58 [.agg x.cells,.agg x.cells] (QN (QT true)):=by
 have b1:∀n:Int,(n != n)=false:=λn=>π;have b2:∀n:Nat,(n != n)=false:=λn=>π;refine xT 0 func58 ntmps58 results58 λbase w hb=>?_;simp only[go_sem];simp only[go_sem,b1];refine MW (G:=Nat) [2,3] (λk=>True) (λk γ=>[(22,.imm 10 x.ops.length (ZV.rows x.ops)),(23,Qa x.ops.length),(24,Qa k)]) (λk γ=>[⟨.one,0,3,1,λ_=>x.cells⟩,⟨.one,0,3,1,λ_=>x.cells⟩]) (x.ops.length) (0) rfl (Qz.to 2 (by (simp only[go_sem])<;>simp)) trivial ?_;intro k γ hk _;apply Qn hb;first|refine jO hk (λQj=>?_) (λQj=>?_)|refine jP hk (λQj=>?_) (λQj=>?_)
 .simp only[go_sem,Qj,HB];have hm:=ho _ (qg x.ops default k Qj);have cc:=QJs (x.ops.getD k default) hm.1 hm.2;apply QF hb [0,1,2,3,4,5,1006,7];simp only[go_sem];refine⟨Qj,?_⟩;refine Qxq hb QFh rfl ?_ cc rfl λd h hR=>?_
  .simp only[go_sem]
  obtain⟨rfl,rfl⟩:=hR;simp only[go_sem];apply ZA hb;have Zb:=J9 (k:=k) ω;repeat (refine And.intro η ?_)
  refine⟨_,Qz.to 2 (by (simp only[go_sem,Zb])<;>simp),XT.mk (γ) (trivial)⟩
 .simp only[go_sem];exact qQ hb
def x5:YD:=⟨⟨1,100⟩,[⟨4,[],[],⟨0,0,0,0,0,0⟩,5⟩]⟩
def s5:List Int:=[0,0,0,1,0,0,0,100,0,1,4,0,0,0,0,0,0,0,5]
def QJu:Qg7 x5=(s5,0):=by rfl
def QJv:Qg5 s5=(x5,0):=by rfl
def QJw:YD.Ok x5:=by
 refine⟨⟨τ,τ,trivial⟩,⟨by simp[x5,maxLen],?_⟩,trivial⟩;intro a ha;simp only[x5,q8]at ha;subst ha;exact⟨τ,⟨π,π⟩,⟨π,π⟩,⟨τ,τ,τ,τ,τ,τ,trivial⟩,τ,trivial⟩
def QJx:Bytes s5:=by
 intro x hx;simp only[s5,QD,List.not_mem_nil,or_false]at hx;omega
@[go_sem] def x5n:List D:=[Qa 4,.nil,.nil,Y6 0,Qa 0,QbM 0,QbM 0,QbM 0,QbM 0,Y6 5]
def QuP:qM (Ke 6) [.agg [Qa 1,Qa 100,.imm 10 1 λ_=>x5n]] [.agg x5.cells]:=by
 simp only[go_sem,x5];intro i hi;obtain rfl:i=0:=ω;exact⟨rfl,rfl,rfl,rfl,rfl,rfl,rfl,rfl,rfl,rfl⟩
def QuR:QW prog 13 [] (QN (QT true)):=by
 have c1:=QJq QJw;rw[QJu]at c1;have c2:=QJl QJx (by simp[s5,maxLen]);rw[QJv]at c2;have c3:=QJt x5 (by simp[x5]) (by simp[x5]);have q1:=c1.QbQ (cs':=[.agg [Qa 1,Qa 100,.imm 10 1 λ_=>x5n]]) QuP;have q3:=c3.QbQ (cs':=[.agg [Qa 1,Qa 100,.imm 10 1 λ_=>x5n],.agg x5.cells]) ⟨QuP.1,by simp only[go_sem],trivial⟩;refine xT 0 func13 ntmps13 results13 λbase w hb=>?_;simp only[go_sem];refine Rp (Qz.freeze rfl 0 rfl rfl (λi hi=>rfl)) ?_;simp only[go_sem];refine VC hb [] QFb rfl ?_ q1 rfl λd h hR=>?_
 .simp only[go_sem]
 obtain⟨rfl,rfl⟩:=hR;simp only[go_sem];apply Qn hb;refine VC hb [] QFc rfl ?_ c2 rfl λd h hR=>?_
 .simp only[go_sem]
 obtain⟨rfl,rfl⟩:=hR;simp only[go_sem];apply Qn hb;refine QmT Q4.L rfl rfl rfl rfl rfl s5 ⟨⟨rfl,by show 0+19<=19;omega⟩,rfl,λi hi=>?_⟩ rfl ?_
 .have VH:i<19:=hi;match i,VH with
  | 0,_=>exact rfl
  | 1,_=>exact rfl
  | 2,_=>exact rfl
  | 3,_=>exact rfl
  | 4,_=>exact rfl
  | 5,_=>exact rfl
  | 6,_=>exact rfl
  | 7,_=>exact rfl
  | 8,_=>exact rfl
  | 9,_=>exact rfl
  | 10,_=>exact rfl
  | 11,_=>exact rfl
  | 12,_=>exact rfl
  | 13,_=>exact rfl
  | 14,_=>exact rfl
  | 15,_=>exact rfl
  | 16,_=>exact rfl
  | 17,_=>exact rfl
  | 18,_=>exact rfl
  | n+19,h=>exact absurd h ω
 apply Qn hb;refine VC hb [] QFd rfl ?_ q3 rfl λd h hR=>?_
 .simp only[go_sem]
 obtain⟨rfl,rfl⟩:=hR;simp only[go_sem];exact qQ hb
end Go.Fg.X
