/- Contracts and laws on the way to the statement. No conditions. -/
import Derived.Test.YtagebhlinnibkaaGreatTA2A
import Derived.Test.YtagebhlinnibkaaGreatCA7A
import Derived.Test.YtagebhlinnibkaaGreatSCaA
set_option maxRecDepth 100000
set_option maxHeartbeats 16000000
set_option linter.unusedVariables false
set_option linter.unusedSimpArgs false
set_option linter.unusedSectionVars false
set_option linter.defProp false
namespace Go.Fg.X
open Go.Proofs Go.Fg
open Go.Proofs.Tryz
def QEo(a):Q4 prog 265 [u64 a] (Qn (QJ false)):=by
 have e:((a:Int) != (a:Int))=false:=by simp
 refine ZA 0 Qi 200 func265 rfl ntmps265 results265 rfl λbase w hb=>?_;simp only[go_sem];simp only[go_sem,e]
def QmY(a b):Q4 prog 208 [u64 a,u64 b] (Qn (QJ (decide (a<b)))):=by
 refine ZA 0 Qi 200 func208 rfl ntmps208 results208 rfl λbase w hb=>?_;simp only[go_sem];refine ZW hb Qh5 rfl ?_ (QEo a) (Qn.flat rfl) rfl λd h hR=>?_
 ·simp only[go_sem,Go.undef]
 obtain⟨rfl,rfl⟩:=hR;refine Qe hb ?_;simp only[go_sem,Go.undef]
def QEp(h:List Ob)(a b c lo)(row)(ho:(h.map Ob.ro)[lo]? = some ⟨.Be,0,1,2,row⟩)(h0:row 0=[u64 b])(h1:row 1=[u64 c]):
  QV prog 174 h [u64 a,.ref lo 0 0 2] (λd=>d=u64 (max (max a b) c)):=by
 simp only[go_sem]at h0 h1;refine Zq Qi 200 func174 rfl ntmps174 results174 rfl λbase w pl F hF Q3 hb=>?_;rw[<- hF]at ho;have Qg:=Qc ho;simp only[go_sem,Qa,ho,Qg];have w1:IntKind.i64.wrap 1=1:=rfl;have w2:IntKind.i64.wrap 2=2:=rfl;have key:∀m k:Nat,∃d:Bool,d=decide (m<k)/\max m k=bif d then k else m:=λm k=>⟨_,rfl,by
  by_cases e:m<k
  ·rw[Q5 e];show _=k;omega
  ·rw[QN e];show _=m;omega⟩
 obtain⟨d1,e1,m1⟩:=key a b;have L1:=QmY a b;rw[<- e1]at L1;obtain⟨d2,e2,m2⟩:=key (max a b) c;have L2:=QmY (max a b) c;rw[<- e2]at L2;rw[m2];rw[m1]at L2 ⊢;clear e1 e2 m1 m2 key;cases d1<;>cases d2;all_goals
  simp only[Yr,Xw]at L2 ⊢;refine xu 2 ?_;refine Qe hb ?_;simp only[go_sem,Qa,ho,Qg,h0];refine Ax hb kQ L1 (Qn.flat rfl) λd h hR=>?_;obtain⟨rfl,rfl⟩:=hR;apply QC hb;refine Qe hb ?_;simp only[go_sem,Qa,ho,Qg,h1,w1];refine Ax hb kQ L2 (Qn.flat rfl) λd h hR=>?_;obtain⟨rfl,rfl⟩:=hR;apply QC hb;refine Qe hb ?_;simp only[go_sem,Qa,ho,Qg,h1,w2];refine Qe hb ?_;simp only[go_sem,Qa,ho,Qg,h1,w2];all_goals first|exact⟨_,rfl,rfl⟩|exact⟨_,rfl⟩|rfl|exact⟨[],(QU _).symm⟩|exact⟨[],(QU _).symm,rfl⟩
def QEq(h:List Ob)(a lo)(row)(ho:(h.map Ob.ro)[lo]? = some ⟨.Be,0,1,1,row⟩)(h0:row 0=[u64 a]):
  QV prog 173 h [.ref lo 0 0 1] (λd=>d=u64 (min 9223372036854775808 a)):=by
 simp only[go_sem]at h0;have e:min (9223372036854775808:Int) (a:Int)=((min 9223372036854775808 a:Nat):Int):=by omega
 have w1:IntKind.i64.wrap 1=1:=rfl;refine Zq Qi 200 func173 rfl ntmps173 results173 rfl λbase w pl F hF Q3 hb=>?_;rw[<- hF]at ho;have Qg:=Qc ho;simp only[go_sem,Qa,ho,Qg];refine xu 1 ?_;refine Qe hb ?_;simp only[go_sem,Qa,ho,Qg,h0,e,w1];refine Qe hb ?_;simp only[go_sem,Qa,ho,Qg,h0,e,w1];refine Qe hb ?_;simp only[go_sem,Qa,ho,Qg,h0,e,w1];all_goals first|exact⟨_,rfl,rfl⟩|exact⟨_,rfl⟩|rfl|exact⟨[],(QU _).symm⟩|exact⟨[],(QU _).symm,rfl⟩
def QEr(a b c):Q4 prog 134 [u64 a,u64 b,u64 c] (Qn (u64 (XL a b c))):=by
 have e:XL a b c=min 9223372036854775808 (max (max a b) c):=by unfold XL;omega
 rw[e];refine ZA 0 Qi 200 func134 rfl ntmps134 results134 rfl λbase w hb=>?_;simp only[go_sem];refine ZN hb Qvt (QEp _ a b c 0 _ (Z3 (o:=⟨.arr,0,1,2,_⟩) rfl) rfl rfl) λd hR=>?_;subst hR;apply QC hb;obtain⟨m,hm⟩:∃m,m=max (max a b) c:=⟨_,rfl⟩;rw[<- hm];refine ZN hb Qvs (QEq _ m 1 _ (Z3 (o:=⟨.arr,0,1,1,_⟩) rfl) rfl) λd hR=>?_;subst hR;exact V9 hb
def QEs(h:List Ob):QK prog 57 h [] (λd h'=>d=.ptr (h.length+2) 0 0 0/\h'=h++[QS .i64 0 [],QS .i64 0 [],ox h.length (h.length+1)]):=by
 refine Q6 Qi 200 func57 rfl ntmps57 results57 rfl λbase w pl hb=>?_;simp only[go_sem,Qa]
def Hj.put{S}{h h'}{p cm rm c1}{Z4}{c2}{Je}{s}(T:Hj S h p cm rm c1 Z4 c2 Je s){cls}{d}{l}(lo)
  (hc:h'[cm]? = some (J2 .i64 c1 Z4 cls d)) (ho:∀j o,h[j]? = some o->j≠cm->j≠lo->h'[j]? = some o) (hd:Om (more S h) h' d l) (hl:∀j g off n,d=.ref j g off n->j=lo)
  (hs:∀k j g off n,k≠cls->ZJ Z4 k=some (.ref j g off n)->j≠lo) (hp:p≠lo) (hr:rm≠lo) :
  zg (more S h) h' p { s with Jv:=λk=>if k=cls then l else s.Jv k }:=by
 obtain⟨c',es',h3,h4⟩:=rO .i64 c1 Z4 cls d;have kJ:p≠cm:=λe=>by have:=T.o;rw[e,T.co]at this;cases this
 refine⟨cm,rm,c',es',c2,Je,ho _ _ T.o kJ hp,by rw[hc,h3],ho _ _ T.ro (Q8 T.ne) hr,T.ne,.inl T.sp,.inl T.sc,.inl T.sr,λk=>?_,λk1 k2 j g off n g' jg n' h1 h2=>?_,T.rw_⟩
 ·rw[h4 k];by_cases hk:k=cls
  ·rw[Qf hk];dsimp only;rw[Qf hk];exact hd
  ·rw[Qd hk];dsimp only;rw[Qd hk];rcases T.ca k with ⟨h1,h2⟩|⟨j,g,off,row,h1,h2,h5,h6⟩
   ·exact .inl ⟨h1,h2⟩
   ·have Ju:ZJ Z4 k=some (.ref j g off (s.Jv k).length):=by
     cases ha:ZJ Z4 k with
     | none=>rw[ha]at h1;cases h1
     | some d'=>rw[ha]at h1;exact congrArg some h1
    refine .inr ⟨j,g,off,row,h1,.inl h2,ho j _ h5 (λe=>?_) (hs k _ _ _ _ hk Ju),h6⟩;rw[e,T.co]at h5;cases h5
 ·rw[h4 k1]at h1;rw[h4 k2]at h2;by_cases a1:k1=cls<;>by_cases a2:k2=cls
  ·rw[a1,a2]
  ·rw[Qf a1]at h1;rw[Qd a2]at h2;exact absurd (hl _ _ _ _ (FP h1)) (hs k2 _ _ _ _ a2 h2)
  ·rw[Qd a1]at h1;rw[Qf a2]at h2;exact absurd (hl _ _ _ _ (FP h2)) (hs k1 _ _ _ _ a1 h1)
  ·rw[Qd a1]at h1;rw[Qd a2]at h2;exact T.sep k1 k2 j g off n g' jg n' h1 h2
def QEt{S}{h}{p}{s:Fv}(T:zg S h p s)(cls:Int)(a)(hb:(s.Jv cls).length<1000000):
  QK prog 115 h [.ptr p 0 0 0,Qb cls,u64 a] (λd h'=>d=Qb 0/\Step S h h'/\zg (more S h) h' p (kg s cls a)):=by
 obtain⟨cm,rm,c1,Z4,c2,Je,T⟩:=T;have ho:=T.o;have hm:=T.co;have Qg:=Qc ho;have QG:=Qc hm;have hp:=T.ca cls;have kJ:p≠cm:=λe=>by rw[e,hm]at ho;cases ho
 have ZF:kg s cls a={ s with Jv:=λk=>if k=cls then s.Jv cls++[a] else s.Jv k }:=by
  unfold kg;congr 1;funext k;by_cases hk:k=cls
  ·rw[Qf hk,Qf hk,hk]
  ·rw[Qd hk,Qd hk]
 rw[ZF];have TS:∀k j g off n,ZJ Z4 k=some (.ref j g off n)->j<h.length:=λk j g off n hk=>by
  rcases T.ca k with ⟨h1,_⟩|⟨j',_,_,_,h1,_,h3,_⟩
  ·rw[hk]at h1;cases h1
  ·rw[hk]at h1;cases h1;exact Qc h3
 have new:(ZJ Z4 cls=none\/ZJ Z4 cls=some .nil)->s.Jv cls=[]->Step S h (h.set cm (J2 .i64 c1 Z4 cls (.ref (h.length+1) 0 0 1))++[⟨.arr,0,1,1,λ_=>[u64 a]⟩,⟨.arr,0,1,1,λ_=>[u64 a]⟩]) /\
   zg (more S h) (h.set cm (J2 .i64 c1 Z4 cls (.ref (h.length+1) 0 0 1))++[⟨.arr,0,1,1,λ_=>[u64 a]⟩,⟨.arr,0,1,1,λ_=>[u64 a]⟩]) p { s with Jv:=λk=>if k=cls then s.Jv cls++[a] else s.Jv k }:=λhk hw=>by
  refine⟨⟨λl hl hn=>?_,by simp⟩,T.put (d:=.ref (h.length+1) 0 0 1) (h.length+1) ?_ (λj o hj h1 h2=>?_) (.inr ⟨h.length+1,0,0,λ_=>[u64 a],by simp[hw],.inr (by omega),?_,λi hi=>?_⟩) (λj g off n e=>by cases e;rfl) (λk j g off n _ Ju=>by have:=TS k _ _ _ _ Ju;omega) (by omega) (by have:=Qc T.ro;omega)⟩
  ·rw[Qx (by simpa using hl),Qk (λe=>hn (by rw[<- e];exact T.sc))]
  ·rw[Qx (by simpa using QG),Qs QG]
  ·rw[Qx (by simpa using Qc hj),Qk (Q8 h1),hj]
  ·rw[Vr (k:=1) (by simp),hw];rfl
  ·rw[hw]at hi ⊢;simp at hi;subst hi;rfl
 cases hk:ZJ Z4 cls with
 | none=>
  rw[hk]at hp;have fin:=new (.inl hk) hp.nil;refine Q6 Qi 200 func115 rfl ntmps115 results115 rfl λbase w pl hb=>?_;have Qg:=Qc ho;have QG:=Qc hm;simp only[go_sem,Qa,ho,Qg,hm,QG,kJ,kJ.symm,hk];apply Va [] hb [0,1,2,4,5,6,7,8,9,10,11] [3,12,13,14];simp only[go_sem,Qa,ho,Qg,hm,QG,kJ,kJ.symm,hk,Qs,Qk,↓reduceIte];simp only[go_sem]at fin ⊢
  repeat' apply And.intro
  all_goals first|exact fin.1|exact fin.2
 | some d=>
  rw[hk]at hp;rcases hp with ⟨h2,h3⟩|⟨lo,g,off,row,h2,hS,h3,h4⟩
  ·simp only[KA]at h2;subst h2;have fin:=new (.inr hk) h3;refine Q6 Qi 200 func115 rfl ntmps115 results115 rfl λbase w pl hb=>?_;have Qg:=Qc ho;have QG:=Qc hm;simp only[go_sem,Qa,ho,Qg,hm,QG,kJ,kJ.symm,hk];apply Va [] hb [0,1,2,4,5,6,7,8,9,10,11] [3,12,13,14];simp only[go_sem,Qa,ho,Qg,hm,QG,kJ,kJ.symm,hk,Qs,Qk,↓reduceIte];simp only[go_sem]at fin ⊢
   repeat' apply And.intro
   all_goals first|exact fin.1|exact fin.2
  ·simp only[KA]at h2;subst h2;have n1:lo≠p:=λe=>by rw[e,ho]at h3;cases h3
   have n2:lo≠cm:=λe=>by rw[e,hm]at h3;cases h3
   have n3:lo≠rm:=λe=>by rw[e,T.ro]at h3;cases h3
   have wz:(s.Jv cls).length<=4294967295:=by omega
   have h9:(s.Jv cls).length+1<=4294967295:=by omega
   have ZR:=Qc h3;have fin:Step S h ((h.set lo ⟨.arr,g+1,1,(s.Jv cls).length+1,J1 (s.Jv cls).length off row λ_=>[u64 a]⟩).set cm (J2 .i64 c1 Z4 cls (.ref lo (g+1) 0 ((s.Jv cls).length+1)))++[⟨.arr,0,1,1,λ_=>[u64 a]⟩]) /\
     zg (more S h) ((h.set lo ⟨.arr,g+1,1,(s.Jv cls).length+1,J1 (s.Jv cls).length off row λ_=>[u64 a]⟩).set cm (J2 .i64 c1 Z4 cls (.ref lo (g+1) 0 ((s.Jv cls).length+1)))++[⟨.arr,0,1,1,λ_=>[u64 a]⟩]) p { s with Jv:=λk=>if k=cls then s.Jv cls++[a] else s.Jv k }:=by
    refine⟨⟨λl hl hn=>?_,by simp⟩,T.put (d:=.ref lo (g+1) 0 ((s.Jv cls).length+1)) lo ?_ (λj o hj h1 h2=>?_) (.inr ⟨lo,g+1,0,J1 (s.Jv cls).length off row λ_=>[u64 a],by simp,.inl hS,?_,λi hi=>?_⟩) (λj g off n e=>by cases e;rfl) (λk j g' jg n' Qz ZE e=>?_) (Q8 n1) (Q8 n3)⟩
    ·rw[Qx (by simpa using hl),Qk (λe=>hn (by rw[<- e];exact T.sc)),Qk (λe=>hn (by rw[<- e];exact hS))]
    ·rw[Qx (by simpa using QG),Qs (by simpa using QG)]
    ·rw[Qx (by simpa using Qc hj),Qk (Q8 h1),Qk (Q8 h2),hj]
    ·rw[Qx (by simpa using ZR),Qk (Q8 n2),Qs ZR];simp
    ·simp at hi;rw[JV];by_cases XU:i<(s.Jv cls).length
     ·rw[Ad XU,h4 i XU];simp[XU,JD XU]
     ·have:i=(s.Jv cls).length:=by omega
      subst this;rw[vL (QB _)];simp
    ·subst e;exact Qz (T.sep _ _ _ _ _ _ _ _ _ ZE hk)
   refine Q6 Qi 200 func115 rfl ntmps115 results115 rfl λbase w pl hb=>?_;have Qg:=Qc ho;have QG:=Qc hm;have ZR:=Qc h3;simp only[go_sem,Qa,ho,Qg,hm,QG,h3,ZR,kJ,kJ.symm,hk,n1,n2,n1.symm,n2.symm];apply Va [] hb [0,1,2,4,5,6,7,8,9,10,11] [3,12,13,14];simp only[go_sem,Qa,ho,Qg,hm,QG,kJ,kJ.symm,hk,Qs,Qk,h3,ZR,n1,n2,n1.symm,n2.symm,↓reduceIte,wz,h9];simp only[go_sem]at fin ⊢
   repeat' apply And.intro
   all_goals first|exact fin.1|exact fin.2
def Hj.row{S}{h h'}{p cm rm c1}{Z4}{c2}{Je}{s}(T:Hj S h p cm rm c1 Z4 c2 Je s){cls}{r}
  (hr:h'[rm]? = some (J2 .i64 c2 Je cls (.agg r.cells))) (ho:∀j o,h[j]? = some o->j≠rm->h'[j]? = some o) :
  ∃c2' GI,Hj S h' p cm rm c1 Z4 c2' GI { s with rows:=λk=>if k=cls then r else s.rows k }:=by
 obtain⟨c',es',h3,h4⟩:=rO .i64 c2 Je cls (.agg r.cells);have Fx:p≠rm:=λe=>by have:=T.o;rw[e,T.ro]at this;cases this
 refine⟨c',es',ho _ _ T.o Fx,ho _ _ T.co T.ne,by rw[hr,h3],T.ne,T.sp,T.sc,T.sr,λk=>?_,T.sep,λk=>?_⟩
 ·rcases T.ca k with h1|⟨j,g,off,row,h1,h2,h5,h6⟩
  ·exact .inl h1
  ·refine .inr ⟨j,g,off,row,h1,h2,ho j _ h5 (λe=>?_),h6⟩;rw[e,T.ro]at h5;cases h5
 ·rw[h4 k];dsimp only;by_cases hk:k=cls
  ·rw[Qf hk,Qf hk];rfl
  ·rw[Qd hk,Qd hk];exact T.rw_ k
def z7.QEu{a b:z7}(h:a.cells=b.cells):a=b:=by
 obtain⟨a1,a2,a3,a4,a5⟩:=a;obtain⟨b1,b2,b3,b4,b5⟩:=b;simp only[z7.cells,u64,Mh,D.raw.injEq,Value.int.injEq,Bd,and_true]at h;obtain⟨h1,h2,h3,h4,h5⟩:=h;congr 1<;>omega
def SD(a b:Nat):IntKind.u64.wrap ((a:Int)+(b:Int))=(((a+b) % 18446744073709551616:Nat):Int):=by
 rw[IntKind.wrap_u64];omega
def QEv{S}{h}{p}{s}(T:zg S h p s)(cls){done}(hd:done<18446744073709551616){bytes}(KL:1<=bytes)(Jb:bytes<=16384)(real):
  QK prog 167 h [.ptr p 0 0 0,Qb cls,u64 done,Qb bytes,QJ real] (λd h'=>Step S h h'/\zg (more S h) h' p (qC s cls done bytes real)):=by
 obtain⟨cm,rm,c1,Z4,c2,Je,T⟩:=T;have ho:=T.o;have hm:=T.co;have hr:=T.ro;have Qz:=T.ne;have Qg:=Qc ho;have QG:=Qc hm;have Vg:=Qc hr;have hp:=T.ca cls;have kJ:p≠cm:=λe=>by rw[e,hm]at ho;cases ho
 have Fx:p≠rm:=λe=>by rw[e,hr]at ho;cases ho
 have same:∀g:List Ob,qC s cls done bytes real=s->Step S h (h++g)/\zg (more S h) (h++g) p (qC s cls done bytes real):=λg e=>by
  rw[e];exact⟨Step.app S h g,zg.step (λj hj h1=>⟨.inl h1,Qx hj⟩) ⟨cm,rm,c1,Z4,c2,Je,T⟩⟩
 have oD:qC s cls done bytes real=s->Step S h h/\zg (more S h) h p (qC s cls done bytes real):=λe=>by
  have:=same [] e;rwa [QU]at this
 obtain⟨r,Bf⟩:∃r,r=s.rows cls:=⟨_,rfl⟩;have ZH:=T.rw_ cls;rw[<- Bf]at ZH;cases hk:ZJ Z4 cls with
 | none=>
  rw[hk]at hp;have h0:=hp.nil;have fin:=oD (by unfold qC;rw[h0]);refine Q6 Qi 200 func167 rfl ntmps167 results167 rfl λbase w pl hb=>?_;have Qg:=Qc ho;have QG:=Qc hm;simp only[go_sem,Qa,ho,Qg,hm,QG,hk];exact fin
 | some d=>
  rw[hk]at hp;rcases hp with ⟨h2,h3⟩|⟨lo,g,off,row,h2,hS,h3,h4⟩
  ·simp only[KA]at h2;subst h2;have fin:=oD (by unfold qC;rw[h3]);refine Q6 Qi 200 func167 rfl ntmps167 results167 rfl λbase w pl hb=>?_;have Qg:=Qc ho;have QG:=Qc hm;simp only[go_sem,Qa,ho,Qg,hm,QG,hk];exact fin
  ·simp only[KA]at h2;subst h2;have ZR:=Qc h3;cases hc:s.Jv cls with
   | nil=>
    have fin:=oD (by unfold qC;rw[hc]);rw[hc]at hk;refine Q6 Qi 200 func167 rfl ntmps167 results167 rfl λbase w pl hb=>?_;have Qg:=Qc ho;have QG:=Qc hm;simp only[go_sem,Qa,ho,Qg,hm,QG,hk];exact fin
   | cons a l=>
    rw[hc]at hk h3 h4;have ha:=h4 0 (by simp);simp only[go_sem,FM,List.getD_cons_zero]at ha;have d1:decide (bytes<1)=false:=QN (by omega);have d0:(((l.length+1:Nat):Int)==0)=false:=by simp;omega
    have g1:(0:Int)<((l.length+1:Nat):Int):=by omega
    have g2:off<off+(l.length+1):=by omega
    have n1:lo≠p:=λe=>by rw[e,ho]at h3;cases h3
    have n2:lo≠cm:=λe=>by rw[e,hm]at h3;cases h3
    have n3:rm≠lo:=λe=>by rw[<- e,hr]at h3;cases h3
    have TS:∀k j g off n,ZJ Z4 k=some (.ref j g off n)->j<h.length:=λk j g off n hk=>by
     rcases T.ca k with ⟨h1,_⟩|⟨j',_,_,_,h1,_,h3,_⟩
     ·rw[hk]at h1;cases h1
     ·rw[hk]at h1;cases h1;exact Qc h3
    have QbB:∀(R2:z7) (o:Ob),qC s cls done bytes real=⟨λk=>if k=cls then l else s.Jv k,λk=>if k=cls then R2 else s.rows k⟩ ->
      Step S h ((h.set rm (J2 .i64 c2 Je cls (.agg R2.cells))).set cm (J2 .i64 c1 Z4 cls (.ref lo g (off+1) l.length))++[o])/\zg (more S h) ((h.set rm (J2 .i64 c2 Je cls (.agg R2.cells))).set cm (J2 .i64 c1 Z4 cls (.ref lo g (off+1) l.length))++[o]) p (qC s cls done bytes real):=λR2 o e=>by
     rw[e];obtain⟨c2',GI,T1⟩:=T.row (h':=h.set rm (J2 .i64 c2 Je cls (.agg R2.cells))) (r:=R2) (cls:=cls) (Qs Vg) (λj o hj h1=>by rw[Qk (Q8 h1)];exact hj);have hlen:(h.set rm (J2 .i64 c2 Je cls (.agg R2.cells))).length=h.length:=by simp
     have aR:more S (h.set rm (J2 .i64 c2 Je cls (.agg R2.cells)))=more S h:=by unfold more;rw[hlen]
     refine⟨⟨λj hj hn=>?_,by simp⟩,?_⟩
     ·rw[Qx (by simpa using hj),Qk (λe=>hn (by rw[<- e];exact T.sc)),Qk (λe=>hn (by rw[<- e];exact T.sr))]
     ·rw[<- aR];refine T1.put (d:=.ref lo g (off+1) l.length) lo ?_ (λj o hj h1 h2=>?_) (.inr ⟨lo,g,off+1,row,rfl,.inl hS,?_,λi hi=>?_⟩) (λj g off n e=>by cases e;rfl) (λk j g' jg n' Qz ZE e=>?_) (Q8 n1) n3
      ·rw[Qx (by simpa using QG),Qs (by simpa using QG)]
      ·rw[Qx (by have:=Qc hj;simpa using this),Qk (Q8 h1),hj]
      ·rw[Qx (by simpa using ZR),Qk (Q8 n2),Qk n3,h3];simp only[Vh,Za,Ob.mk.injEq,Bd,and_true];omega
      ·rw[show off+1+i=off+(i+1) by omega,h4 (i+1) (by simpa using hi)];simp
      ·subst e;exact Qz (T.sep _ _ _ _ _ _ _ _ _ ZE hk)
    by_cases h5:done<a
    ·have d2:=Q5 h5;have fin:=oD (by unfold qC;rw[hc];dsimp only;rw[Qd (by omega),Qf h5]);refine Q6 Qi 200 func167 rfl ntmps167 results167 rfl λbase w pl hb=>?_;have Qg:=Qc ho;have QG:=Qc hm;have ZR:=Qc h3;simp only[go_sem,Qa,ho,Qg,hm,QG,h3,ZR,hk,d0,d1,d2,ha];exact⟨g1,g2,fin⟩
    ·have d2:=QN h5;have e0:qC s cls done bytes real=⟨λk=>if k=cls then l else s.Jv k,λk=>if k=cls then AU r a done bytes real else s.rows k⟩:=by
      unfold qC;rw[hc];dsimp only;rw[Qd (by omega),Qd h5];congr 1;funext k;by_cases jW:k=cls
      ·rw[Qf jW,Qf jW,jW,<- Bf]
      ·rw[Qd jW,Qd jW]
     have fin:∀(o:Ob) (R2:z7),R2=AU r a done bytes real->∀n,n=l.length->Step S h ((h.set rm (J2 .i64 c2 Je cls (.agg R2.cells))).set cm (J2 .i64 c1 Z4 cls (.ref lo g (off+1) n))++[o])/\zg (more S h) ((h.set rm (J2 .i64 c2 Je cls (.agg R2.cells))).set cm (J2 .i64 c1 Z4 cls (.ref lo g (off+1) n))++[o]) p (qC s cls done bytes real):=λo R2 Hb n hn=>by
      subst hn;exact QbB R2 o (by rw[e0,Hb])
     have w1:IntKind.u64.wrap ((r.p:Int)+1)=(((r.p+1) % 18446744073709551616:Nat):Int):=SD r.p 1;have w2:IntKind.u64.wrap bytes=((bytes.toNat:Nat):Int):=by rw[IntKind.wrap_u64];omega
     have w3:=SD r.b bytes.toNat
     have w4:IntKind.u64.wrap ((r.r:Int)+1)=(((r.r+1) % 18446744073709551616:Nat):Int):=SD r.r 1;have w5:IntKind.u64.wrap ((done:Int) - (a:Int))=((done - a:Nat):Int):=by rw[IntKind.wrap_u64];omega
     have w6:=SD r.w (done - a);have w7:max ((r.l:Nat):Int) ((done - a:Nat):Int)=((max r.l (done - a):Nat):Int):=by omega
     have w8:(((l.length+1:Nat):Int) - 1).toNat=l.length:=by omega
     have Ju:(ZJ Je cls=some (.agg r.cells))\/(ZJ Je cls=none/\r=default):=by
      cases hh:ZJ Je cls with
      | some d=>rw[hh]at ZH;exact .inl (congrArg some ZH)
      | none=>
       rw[hh]at ZH;have ZH:D.agg (default:z7).cells=D.agg r.cells:=ZH;exact .inr ⟨rfl,(z7.QEu (D.agg.inj ZH)).symm⟩
     rcases Ju with Ju|⟨Ju,Xx⟩
     ·refine Q6 Qi 200 func167 rfl ntmps167 results167 rfl λbase w pl hb=>?_;have Qg:=Qc ho;have QG:=Qc hm;have ZR:=Qc h3;have Vg:=Qc hr;simp only[go_sem,Qa,ho,Qg,hm,QG,h3,ZR,hr,Vg,hk,d0,d1,d2,ha,Ju,w1,w2,w3];cases real with
      | true=>
       have AP:=fin ⟨.one,0,5,1,λ_=>(AU r a done bytes true).cells⟩ _ rfl _ w8;simp only[go_sem,AU,↓reduceIte,w8,qa]at AP;simp only[go_sem,Qa,w4];repeat (refine And.intro (by first|exact g1|exact g2|omega) ?_)
       apply QH hb [0,1,2,3,4,5,6,7,8,1009];simp only[go_sem,Qa,ho,Qg,h3,ZR,ha,w5,w6];repeat (refine And.intro (by first|exact g1|exact g2|omega) ?_)
       apply QH hb [0,1,2,3,4,5,6,7,8,1009];simp only[go_sem,Qa,ho,Qg,h3,ZR,ha,w5,w7];repeat (refine And.intro (by first|exact g1|exact g2|omega) ?_)
       apply QH hb [0,1,2,3,4,5,1006];simp only[go_sem,Qa,ho,Qg,h3,ZR,hr,Vg,Qk];repeat (refine And.intro (by first|exact g1|exact g2|omega) ?_)
       apply QH hb [0,1,2,3,4,5,6,1007];simp only[go_sem,Qa,ho,Qg,h3,ZR,hm,QG,Vg,Qk Fx.symm,Qk Qz.symm,Qk n3];repeat (refine And.intro (by first|exact g1|exact g2|omega) ?_)
       simp only[go_sem,w8,Qk n3,h3,OS];exact AP
      | false=>
       have AP:=fin ⟨.one,0,5,1,λ_=>(AU r a done bytes false).cells⟩ _ rfl _ w8;simp only[go_sem,AU,↓reduceIte,w8,qa]at AP;simp only[go_sem,Qa];repeat (refine And.intro (by first|exact g1|exact g2|omega) ?_)
       apply QH hb [0,1,2,3,4,5,6,7,8,1009];simp only[go_sem,Qa,ho,Qg,h3,ZR,ha,w5,w6];repeat (refine And.intro (by first|exact g1|exact g2|omega) ?_)
       apply QH hb [0,1,2,3,4,5,6,7,8,1009];simp only[go_sem,Qa,ho,Qg,h3,ZR,ha,w5,w7];repeat (refine And.intro (by first|exact g1|exact g2|omega) ?_)
       apply QH hb [0,1,2,3,4,5,1006];simp only[go_sem,Qa,ho,Qg,h3,ZR,hr,Vg,Qk];repeat (refine And.intro (by first|exact g1|exact g2|omega) ?_)
       apply QH hb [0,1,2,3,4,5,6,1007];simp only[go_sem,Qa,ho,Qg,h3,ZR,hm,QG,Vg,Qk Fx.symm,Qk Qz.symm,Qk n3];repeat (refine And.intro (by first|exact g1|exact g2|omega) ?_)
       simp only[go_sem,w8,Qk n3,h3,OS];exact AP
     ·have Xx:r=⟨0,0,0,0,0⟩:=Xx;subst Xx;have v1:IntKind.u64.wrap 1=1:=rfl;have v3:IntKind.u64.wrap (0+((bytes.toNat:Nat):Int))=(((0+bytes.toNat) % 18446744073709551616:Nat):Int):=SD 0 bytes.toNat
      have v6:IntKind.u64.wrap (0+((done - a:Nat):Int))=(((0+(done - a)) % 18446744073709551616:Nat):Int):=SD 0 (done - a);have v7:max (0:Int) ((done - a:Nat):Int)=((max 0 (done - a):Nat):Int):=by omega
      refine Q6 Qi 200 func167 rfl ntmps167 results167 rfl λbase w pl hb=>?_;have Qg:=Qc ho;have QG:=Qc hm;have ZR:=Qc h3;have Vg:=Qc hr;simp only[go_sem,Qa,ho,Qg,hm,QG,h3,ZR,hr,Vg,hk,d0,d1,d2,ha,Ju,w2,v1,v3];cases real with
      | true=>
       have AP:=fin ⟨.one,0,5,1,λ_=>(AU ⟨0,0,0,0,0⟩ a done bytes true).cells⟩ _ rfl _ w8;simp only[go_sem,AU,↓reduceIte,w8,qa]at AP;simp only[go_sem,Qa,v1];repeat (refine And.intro (by first|exact g1|exact g2|omega) ?_)
       apply QH hb [0,1,2,3,4,5,6,7,8,1009];simp only[go_sem,Qa,ho,Qg,h3,ZR,ha,w5,v6];repeat (refine And.intro (by first|exact g1|exact g2|omega) ?_)
       apply QH hb [0,1,2,3,4,5,6,7,8,1009];simp only[go_sem,Qa,ho,Qg,h3,ZR,ha,w5,v7];repeat (refine And.intro (by first|exact g1|exact g2|omega) ?_)
       apply QH hb [0,1,2,3,4,5,1006];simp only[go_sem,Qa,ho,Qg,h3,ZR,hr,Vg,Qk];repeat (refine And.intro (by first|exact g1|exact g2|omega) ?_)
       apply QH hb [0,1,2,3,4,5,6,1007];simp only[go_sem,Qa,ho,Qg,h3,ZR,hm,QG,Vg,Qk Fx.symm,Qk Qz.symm,Qk n3];repeat (refine And.intro (by first|exact g1|exact g2|omega) ?_)
       simp only[go_sem,w8,Qk n3,h3,OS];exact AP
      | false=>
       have AP:=fin ⟨.one,0,5,1,λ_=>(AU ⟨0,0,0,0,0⟩ a done bytes false).cells⟩ _ rfl _ w8;simp only[go_sem,AU,↓reduceIte,w8,qa]at AP;simp only[go_sem,Qa];repeat (refine And.intro (by first|exact g1|exact g2|omega) ?_)
       apply QH hb [0,1,2,3,4,5,6,7,8,1009];simp only[go_sem,Qa,ho,Qg,h3,ZR,ha,w5,v6];repeat (refine And.intro (by first|exact g1|exact g2|omega) ?_)
       apply QH hb [0,1,2,3,4,5,6,7,8,1009];simp only[go_sem,Qa,ho,Qg,h3,ZR,ha,w5,v7];repeat (refine And.intro (by first|exact g1|exact g2|omega) ?_)
       apply QH hb [0,1,2,3,4,5,1006];simp only[go_sem,Qa,ho,Qg,h3,ZR,hr,Vg,Qk];repeat (refine And.intro (by first|exact g1|exact g2|omega) ?_)
       apply QH hb [0,1,2,3,4,5,6,1007];simp only[go_sem,Qa,ho,Qg,h3,ZR,hm,QG,Vg,Qk Fx.symm,Qk Qz.symm,Qk n3];repeat (refine And.intro (by first|exact g1|exact g2|omega) ?_)
       simp only[go_sem,w8,Qk n3,h3,OS];exact AP
@[go_sem] def QMt(k:List Int):List D:=k.map λn=>.raw (.int .u16 n)
def QmZ:Q4 prog 103 [] (Qn (.agg [.raw (.int .u16 65535),.raw (.int .u16 65535),.raw (.int .u16 65535),.raw (.int .u16 65535)])):=by
 refine ZA 0 Qi 200 func103 rfl ntmps103 results103 rfl λbase w hb=>?_;simp only[go_sem]
def Qm0(a0 a1 a2 a3 b0 b1 b2 b3):Q4 prog 102 [.agg [.raw (.int .u16 a0),.raw (.int .u16 a1),.raw (.int .u16 a2),.raw (.int .u16 a3)],.agg [.raw (.int .u16 b0),.raw (.int .u16 b1),.raw (.int .u16 b2),.raw (.int .u16 b3)]]
  (Qn (.agg [.raw (.int .u16 (xO a0 b0)),.raw (.int .u16 (xO a1 b1)),.raw (.int .u16 (xO a2 b2)),.raw (.int .u16 (xO a3 b3))])):=by
 refine ZA 0 Qi 200 func102 rfl ntmps102 results102 rfl λbase w hb=>?_;simp only[go_sem];have w1:IntKind.i64.wrap 1=1:=rfl;have w2:IntKind.i64.wrap 2=2:=rfl;have w3:IntKind.i64.wrap 3=3:=rfl;have w4:IntKind.i64.wrap 4=4:=rfl;refine xu 4 ?_;apply QC hb;apply QH hb [0,1,2,3,4,5,6,7,1008];simp only[go_sem];refine Qe hb ?_;simp only[go_sem,Qa,w1];apply QH hb [0,1,2,3,4,5,6,7,1008];simp only[go_sem];refine Qe hb ?_;simp only[go_sem,Qa,w2];apply QH hb [0,1,2,3,4,5,6,7,1008];simp only[go_sem];refine Qe hb ?_;simp only[go_sem,Qa,w3];apply QH hb [0,1,2,3,4,5,6,7,1008];simp only[go_sem];refine Qe hb ?_;simp only[go_sem,Qa,w4];refine Qe hb ?_;simp only[go_sem,Qa,w4];rfl
theorem QEw(r:JU)(x:Pk):jE r (Zy x)=(xO x.yo r.BG==r.Nh&&(xO x.yp r.BH==r.Ni&&(xO x.yq r.Gq==r.Nj&&(xO x.yr r.EN==r.Gr&&true)))):=rfl
@[go_sem] def oF(x:Pk):List D:=[.raw (.int .u16 x.yo),.raw (.int .u16 x.yp),.raw (.int .u16 x.yq),.raw (.int .u16 x.yr)]
def Qm1(r:JU)(x):Q4 prog 161 [.agg r.cells,.agg (oF x)] (Qn (QJ (jE r (Zy x)))):=by
 rw[QEw];refine ZA 0 Qi 200 func161 rfl ntmps161 results161 rfl λbase w hb=>?_;simp only[go_sem];apply QH hb [0,1,2,4,5,1003,6,7];simp only[go_sem];refine VX hb sY (Qm0 x.yo x.yp x.yq x.yr r.BG r.BH r.Gq r.EN) (Qn.flat rfl) λd h hR=>?_;obtain⟨rfl,rfl⟩:=hR;exact Ro hb
structure Qm2 (h:List Ob) (p:Nat) (dr:D) (le:Nat) (dm:D) (c:Nat) (es:List X7) (ms:List Nat) (R:List JU):Prop where
 o:(h.map Ob.ro)[p]? = some (Ol dr le dm).ro
 eo:(h.map Ob.ro)[le]? = some (xj c es).ro
 rs:(dr=.nil/\R=[])\/∃lo g row,dr=.ref lo g 0 R.length/\(h.map Ob.ro)[lo]? = some ⟨.Be,g,9,R.length,row⟩/\∀i,i<R.length->row i=(R.getD i default).cells
 mo:(dm=.nil/\ms=[])\/∃lo g row,dm=.ref lo g 0 ms.length/\(h.map Ob.ro)[lo]? = some ⟨.Be,g,1,ms.length,row⟩/\∀i,i<ms.length->row i=[Qb ((ms.getD i 0:Nat):Int)]
 I:qG R R.length es ms
 ok:qE R=0
def QcH.toR{S}{h}{p}{dr}{le}{dm}{c}{es}{ms}{R}(T:QcH S h p dr le dm c es ms R):Qm2 h p dr le dm c es ms R:=
 ⟨Z3 T.o,Z3 T.eo,T.rs.imp id λ⟨lo,g,row,h1,_,h3,h4⟩=>⟨lo,g,row,h1,Z3 h3,h4⟩,T.mo.imp id λ⟨lo,g,row,h1,_,h3,h4⟩=>⟨lo,g,row,h1,Z3 h3,h4⟩,T.I,T.ok⟩
def QcJ{R}(h:qE R=0):∀r∈R,1<=r.cls:=λr hr=>by
 unfold qE at h;split at h
 ·cases h
 ·split at h
  ·rename_i h2;have:=X6.1 h2 r hr;unfold AV at this;simp only[Z9,XM]at this;exact this.1.1
  ·cases h
def inc_le:∀(ms:List Nat) (n b:Nat),ms.Pairwise (·<·)->(∀j∈ms,b<=j/\j<n)->ms.length<=n - b
 | [],n,b,_,_=>Z7 _
 | a::ms,n,b,hi,h=>by
  rw[Ct]at hi;have h1:=h a (by simp);have:=inc_le ms n (a+1) hi.2 λj hj=>⟨hi.1 j hj,(h j (by simp[hj])).2⟩;simp only[Vh];omega
def QEx{h}{p}{dr}{le}{dm}{c}{es}{ms}{R}(T:Qm2 h p dr le dm c es ms R)(x)(hx:cu x):
  QV prog 113 h [.ptr p 0 0 0,.agg (oF x)] (λd=>d=.tup [Qb (Jj R (Zy x)),Qb (if Jj R (Zy x)=0 then 31 else 0)]):=by
 have ho:=T.o;have he:=T.eo;have h4:=T.I.four;obtain⟨q,hq⟩:∃q,q=XA es (Zy x):=⟨_,rfl⟩;have Fy:=hq;simp only[Zy]at Fy;have ms0:∀j,j<ms.length->ms.getD j 0∈ms:=λj hj=>WI ms 0 j hj;have cz:∀i∈ms,∃j,j<ms.length/\ms.getD j 0=i:=λi hi=>by
  obtain⟨j,hj,e⟩:=y9 hi;exact⟨j,hj,by rw[Ze,QW hj];exact e⟩
 have Bp:ms.length<=32:=by
  have h1:=inc_le ms R.length 0 T.I.inc λj hj=>⟨Z7 j,((T.I.mem j).1 hj).1⟩;have h2:R.length<=32:=by
   have:=T.ok;unfold qE at this;split at this
   ·cases this
   ·omega
  omega
 have QEy:∀j k,j<k->k<ms.length->ms.getD j 0<ms.getD k 0:=λj k V7 hk=>by
  have:=List.pairwise_iff_getElem.1 T.I.inc j k (by omega) hk V7;rw[Ze,Ze,QW hk,QW (show j<ms.length by omega)];exact this
 have QcK:∀j k,j<ms.length->ms.getD j 0<ms.getD k 0->j<k:=λj k hj h=>jM λhc=>by
  rcases Nat.lt_or_eq_of_le (Nat.le_of_not_lt hc) with h2|h2
  ·have:=QEy k j h2 hj;omega
  ·rw[h2]at h;omega
 cases q with
 | none=>
  have out:(∀j∈ms,jE (JZ R j) (Zy x)=false)->Jj R (Zy x)=0:=λJy=>by
   unfold Jj;rw[T.I.none hx hq.symm Jy]
  rcases T.mo with ⟨rfl,rfl⟩|⟨lm,gm,QcL,rfl,hm,zN⟩
  ·rw[out (λj hj=>by cases hj),Qf rfl];refine Zq Qi 200 func113 rfl ntmps113 results113 rfl λbase w pl F hF Q3 hb=>?_;rw[<- hF]at ho he;have Qg:=Qc ho;have ZZ:=Qc he;simp only[go_sem,Qa,ho,Qg,he,ZZ];apply QH hb [0,1,2,3,4,5,6,7,8,9,10];simp only[go_sem,Qa,ho,Qg,he,ZZ,<- Fy];refine⟨h4,?_⟩;refine xu 0 ?_;apply QC hb;apply QC hb;all_goals first|exact⟨_,rfl,rfl⟩|exact⟨_,rfl⟩|rfl|exact⟨[],(QU _).symm⟩|exact⟨[],(QU _).symm,rfl⟩
  ·refine Zq Qi 200 func113 rfl ntmps113 results113 rfl λbase w pl F hF Q3 hb=>?_;rw[<- hF]at ho he hm;have Qg:=Qc ho;have ZZ:=Qc he;have QG:=Qc hm;simp only[go_sem,Qa,ho,Qg,he,ZZ,hm,QG];apply QH hb [0,1,2,3,4,5,6,7,8,9,10];simp only[go_sem,Qa,ho,Qg,he,ZZ,<- Fy];refine⟨h4,?_⟩;refine Jg (λk s=>(∀j,j<k->jE (JZ R (ms.getD j 0)) (Zy x)=false)/\s=⟨[(0,.ptr p 0 0 0),(3,.ptr F.length 0 0 0),(6,Qb 0),(7,QJ false),(24,.ref lm gm 0 ms.length),(25,Qb ms.length),(26,Qb k)],F++[(⟨.one,0,4,1,λ_=>oF x⟩:Ob)]⟩) ms.length QQ ⟨λj hj=>absurd hj (Vw j),rfl⟩ ?_;rintro k _ hk ⟨Jy,rfl⟩;by_cases Qj:k<ms.length
   ·have dk:=Q5 Qj;have QT:=JX (show k<4611686018427387904 by omega);obtain⟨i,hi⟩:∃i,i=ms.getD k 0:=⟨_,rfl⟩;have Nw:=ms0 k Qj;rw[<- hi]at Nw;obtain⟨zj,hiw⟩:=(T.I.mem i).1 Nw;have yw:=zN k Qj;rw[<- hi]at yw;rcases T.rs with ⟨h1,h2⟩|⟨lr,gr,oG,rfl,hr,Bf⟩
    ·rw[h2]at zj;simp at zj
    rw[<- hF]at hr;have Vg:=Qc hr;have zR:oG i=(JZ R i).cells:=Bf i zj;obtain⟨r,Xx⟩:∃r,r=JZ R i:=⟨_,rfl⟩;rw[<- Xx]at zR;have M:=Qm1 r x;simp only[go_sem]at zR yw;cases E8:jE r (Zy x) with
    | false=>
     rw[E8]at M;refine Qe hb ?_;simp only[go_sem,Qa,dk,Qj,hm,QG,yw,Go.undef];apply QH hb [0,1,2,3,4,5,6,7,1008];simp only[go_sem,Qa,ho,Qg,hr,Vg,zR,zj];refine Vj hb iY rfl ?_ M (Qn.flat rfl) rfl λd h hR=>?_
     ·simp only[go_sem,Qa,ho,Qg,hr,Vg,zR,zj]
     obtain⟨rfl,rfl⟩:=hR;refine Zr hb ?_;simp only[go_sem,Qa,ho,Qg,hr,Vg,zR,zj];repeat (refine And.intro (by first|assumption|omega) ?_)
     refine⟨_,Qp.frame (fr':=[(0,.ptr p 0 0 0),(3,.ptr F.length 0 0 0),(6,Qb 0),(7,QJ false),(24,.ref lm gm 0 ms.length),(25,Qb ms.length),(26,Qb (k+1:Nat))]) (by simp only[go_sem,QT]),λj hj=>?_,rfl⟩;rcases qc.1 hj with h5|rfl
     ·exact Jy j h5
     ·rw[<- hi,<- Xx];exact E8
    | true=>
     rw[E8]at M;have e0:Jj R (Zy x)=r.cls:=by
      unfold Jj;rw[T.I.Xh hx zj hiw (by rw[<- Xx];exact E8) (λj hj xl=>?_) (λa' We=>?_),<- Xx]
      ·obtain⟨j2,e1,e2⟩:=cz j hj;rw[<- e2];exact Jy j2 (QcK j2 k e1 (by omega))
      ·rw[<- hq]at We;cases We
     have Ep:=QcJ T.ok r (by rw[Xx];exact WI R default i zj);rw[e0,Qd (by omega)];refine Qe hb ?_;simp only[go_sem,Qa,dk,Qj,hm,QG,yw,Go.undef];apply QH hb [0,1,2,3,4,5,6,7,1008];simp only[go_sem,Qa,ho,Qg,hr,Vg,zR,zj];refine Vj hb iY rfl ?_ M (Qn.flat rfl) rfl λd h hR=>?_
     ·simp only[go_sem,Qa,ho,Qg,hr,Vg,zR,zj]
     obtain⟨rfl,rfl⟩:=hR;refine Zr hb ?_;simp only[go_sem,Qa,ho,Qg,hr,Vg,zR,zj];all_goals first|exact⟨_,rfl,rfl⟩|exact⟨_,rfl⟩|rfl|exact⟨[],(QU _).symm⟩|exact⟨[],(QU _).symm,rfl⟩
   ·have Ju:k=ms.length:=by omega
    have dk:=QN Qj;subst Ju;have KS:∀j∈ms,jE (JZ R j) (Zy x)=false:=λj hj=>by
     obtain⟨j2,e1,e2⟩:=cz j hj;rw[<- e2];exact Jy j2 e1
    rw[out KS,Qf rfl];refine Qe hb ?_;simp only[go_sem,Qa,dk];apply QC hb;all_goals first|exact⟨_,rfl,rfl⟩|exact⟨_,rfl⟩|rfl|exact⟨[],(QU _).symm⟩|exact⟨[],(QU _).symm,rfl⟩
 | some d=>
  obtain⟨a,rfl,LK,Px,aW,han⟩:=T.I.yes _ _ hq.symm;rcases T.rs with ⟨h1,h2⟩|⟨lr,gr,oG,rfl,hr,Bf⟩
  ·rw[h2]at LK;simp at LK
  have SE:oG a=(JZ R a).cells:=Bf a LK;obtain⟨ra,QcN⟩:∃r,r=JZ R a:=⟨_,rfl⟩;rw[<- QcN]at SE;have oH:=QcJ T.ok ra (by rw[QcN];exact WI R default a LK);have out:(∀j∈ms,j<a->jE (JZ R j) (Zy x)=false)->Jj R (Zy x)=ra.cls:=λJy=>by
   unfold Jj;rw[(T.I.whole hx hq.symm Jy).2,<- QcN]
  simp only[go_sem]at SE;rcases T.mo with ⟨rfl,rfl⟩|⟨lm,gm,QcL,rfl,hm,zN⟩
  ·rw[out (λj hj=>by cases hj),Qd (by omega)];refine Zq Qi 200 func113 rfl ntmps113 results113 rfl λbase w pl F hF Q3 hb=>?_;rw[<- hF]at ho he hr;have Qg:=Qc ho;have ZZ:=Qc he;have Vg:=Qc hr;simp only[go_sem,Qa,ho,Qg,he,ZZ,hr,Vg];apply QH hb [0,1,2,3,4,5,6,7,8,9,10];simp only[go_sem,Qa,ho,Qg,he,ZZ,<- Fy];refine⟨h4,?_⟩;refine xu 0 ?_;refine Qe hb ?_;simp only[go_sem,Qa,ho,Qg,hr,Vg,SE,LK];refine Qe hb ?_;simp only[go_sem,Qa,ho,Qg,hr,Vg,SE,LK];all_goals first|exact⟨_,rfl,rfl⟩|exact⟨_,rfl⟩|rfl|exact⟨[],(QU _).symm⟩|exact⟨[],(QU _).symm,rfl⟩
  ·refine Zq Qi 200 func113 rfl ntmps113 results113 rfl λbase w pl F hF Q3 hb=>?_;rw[<- hF]at ho he hr hm;have Qg:=Qc ho;have ZZ:=Qc he;have Vg:=Qc hr;have QG:=Qc hm;simp only[go_sem,Qa,ho,Qg,he,ZZ,hr,Vg,hm,QG];apply QH hb [0,1,2,3,4,5,6,7,8,9,10];simp only[go_sem,Qa,ho,Qg,he,ZZ,<- Fy];refine⟨h4,?_⟩;refine Jg (λk s=>(∀j,j<k->jE (JZ R (ms.getD j 0)) (Zy x)=false)/\s=⟨[(0,.ptr p 0 0 0),(3,.ptr F.length 0 0 0),(6,Qb a),(7,QJ true),(24,.ref lm gm 0 ms.length),(25,Qb ms.length),(26,Qb k)],F++[(⟨.one,0,4,1,λ_=>oF x⟩:Ob)]⟩) ms.length QQ ⟨λj hj=>absurd hj (Vw j),rfl⟩ ?_;rintro k _ hk ⟨Jy,rfl⟩;by_cases Qj:k<ms.length
   ·have dk:=Q5 Qj;have QT:=JX (show k<4611686018427387904 by omega);obtain⟨i,hi⟩:∃i,i=ms.getD k 0:=⟨_,rfl⟩;have Nw:=ms0 k Qj;rw[<- hi]at Nw;obtain⟨zj,hiw⟩:=(T.I.mem i).1 Nw;have yw:=zN k Qj;rw[<- hi]at yw;have zR:oG i=(JZ R i).cells:=Bf i zj;obtain⟨r,Xx⟩:∃r,r=JZ R i:=⟨_,rfl⟩;rw[<- Xx]at zR;have M:=Qm1 r x;simp only[go_sem]at zR yw;by_cases RJ:a<i
    ·have da:=Q5 RJ;rw[out (λj hj hja=>by
      obtain⟨j2,e1,e2⟩:=cz j hj;rw[<- e2];exact Jy j2 (QcK j2 k e1 (by omega))),Qd (by omega)]
     refine Qe hb ?_;simp only[go_sem,Qa,dk,Qj,hm,QG,yw,da];refine Qe hb ?_;simp only[go_sem,Qa,ho,Qg,hr,Vg,SE,LK];all_goals first|exact⟨_,rfl,rfl⟩|exact⟨_,rfl⟩|rfl|exact⟨[],(QU _).symm⟩|exact⟨[],(QU _).symm,rfl⟩
    ·have da:=QN RJ;cases E8:jE r (Zy x) with
     | false=>
      rw[E8]at M;refine Qe hb ?_;simp only[go_sem,Qa,dk,Qj,hm,QG,yw,da];apply QH hb [0,1,2,3,4,5,6,7,1008];simp only[go_sem,Qa,ho,Qg,hr,Vg,zR,zj];refine Vj hb iY rfl ?_ M (Qn.flat rfl) rfl λd h hR=>?_
      ·simp only[go_sem,Qa,ho,Qg,hr,Vg,zR,zj]
      obtain⟨rfl,rfl⟩:=hR;refine Zr hb ?_;simp only[go_sem,Qa,ho,Qg,hr,Vg,zR,zj];repeat (refine And.intro (by first|assumption|omega) ?_)
      refine⟨_,Qp.frame (fr':=[(0,.ptr p 0 0 0),(3,.ptr F.length 0 0 0),(6,Qb a),(7,QJ true),(24,.ref lm gm 0 ms.length),(25,Qb ms.length),(26,Qb (k+1:Nat))]) (by simp only[go_sem,QT]),λj hj=>?_,rfl⟩;rcases qc.1 hj with h5|rfl
      ·exact Jy j h5
      ·rw[<- hi,<- Xx];exact E8
     | true=>
      rw[E8]at M;have e0:Jj R (Zy x)=r.cls:=by
       unfold Jj;rw[T.I.Xh hx zj hiw (by rw[<- Xx];exact E8) (λj hj xl=>?_) (λa' We=>?_),<- Xx]
       ·obtain⟨j2,e1,e2⟩:=cz j hj;rw[<- e2];exact Jy j2 (QcK j2 k e1 (by omega))
       ·rw[<- hq]at We;have:=FP We;simp only[Qb,D.raw.injEq,Value.int.injEq,Bd]at this;omega
      have Ep:=QcJ T.ok r (by rw[Xx];exact WI R default i zj);rw[e0,Qd (by omega)];refine Qe hb ?_;simp only[go_sem,Qa,dk,Qj,hm,QG,yw,da];apply QH hb [0,1,2,3,4,5,6,7,1008];simp only[go_sem,Qa,ho,Qg,hr,Vg,zR,zj];refine Vj hb iY rfl ?_ M (Qn.flat rfl) rfl λd h hR=>?_
      ·simp only[go_sem,Qa,ho,Qg,hr,Vg,zR,zj]
      obtain⟨rfl,rfl⟩:=hR;refine Zr hb ?_;simp only[go_sem,Qa,ho,Qg,hr,Vg,zR,zj];all_goals first|exact⟨_,rfl,rfl⟩|exact⟨_,rfl⟩|rfl|exact⟨[],(QU _).symm⟩|exact⟨[],(QU _).symm,rfl⟩
   ·have Ju:k=ms.length:=by omega
    have dk:=QN Qj;subst Ju;rw[out (λj hj _=>by
     obtain⟨j2,e1,e2⟩:=cz j hj;rw[<- e2];exact Jy j2 e1),Qd (by omega)]
    refine Qe hb ?_;simp only[go_sem,Qa,dk];refine Qe hb ?_;simp only[go_sem,Qa,ho,Qg,hr,Vg,SE,LK];all_goals first|exact⟨_,rfl,rfl⟩|exact⟨_,rfl⟩|rfl|exact⟨[],(QU _).symm⟩|exact⟨[],(QU _).symm,rfl⟩
end Go.Fg.X
namespace Go.Fg
open Go.RowKit (Below)
variable {Z:Nat->Prop}
section
variable {P:Program}{L:Jt}{base nt:Nat}{s:St}{o:Oper}
end
section
variable {P:Program}{L:Jt}{base nt:Nat}{w0:Start}{Q:Exit->St->Prop}
end
def oI:D->Bool
 | .imm _ _ _=>true
 | .ref _ _ _ _=>true
 | .nil=>true
 | _=>false
section
variable {P:Program}{L:Jt}{base nt:Nat}{s:St}{o:Oper}
end
section
variable {P:Program}{L:Jt}{base nt:Nat}{w0:Start}{Q:Exit->St->Prop}
end
def cA:D->Nat
 | .imm _ n _=>n
 | _=>0
def QEz{h}{pl}{w}{d}{v}(r:QE Z h pl w d v)(hd:oI d=true):∃a n cap,v=.slice a n cap/\(a.isNone=true->cA d=0):=by
 cases d<;>simp only[oI,qa]at hd;all_goals first
  | (obtain⟨a,e⟩:=Ei r;exact⟨_,_,_,e,λ_=>rfl⟩)
  | (obtain⟨a,cap,_,_,_,e,h0,_⟩:=TL r;refine⟨_,_,_,e,λhn=>Nat.eq_zero_of_not_pos λhp=>?_⟩;have hq:0<_:=hp;simp only[cA]at hq;rw[h0 hq]at hn;cases hn)
  | (obtain⟨_,_,a,cap,e,_⟩:=Cw r;exact⟨_,_,_,e,λ_=>rfl⟩)
section
variable {P:Program}{L:Jt}{base nt:Nat}{w0:Start}{Q:Exit->St->Prop}
def QEA(hL:Jq P L){Q:Exit->St->Prop}{o:Oper}{rest:List (Oper × G)}{s:St}{t t' e a b:Nat}{x:Operand}{zt:List Value}(ho:o.op=.binOp .eql t x (.const (.slice none 0 0)) t')(hx:oI (Qt s.fr x)=true)(ht:ty L t=some ⟨.slice e,a,b,zt⟩)(hd:ZQ nt o.dst=true)
  (hk:∀b:Bool,(b=true->cA (Qt s.fr x)=0)->AG P base nt w0 rest Q ⟨ZC s.fr o.dst (.raw (.bool b)),s.h⟩):AG P base nt w0 ((o,none)::rest) Q s:=by
 intro Z z pl ac w r b;obtain⟨ad,n,cap,hv,hb⟩:=QEz (r.eval x) hx;have hc:ac.eval (.const (.slice none 0 0))=.slice none 0 0:=rfl;have Zl:(execOp ac.eval o).run P w=.ok (.value (.bool ad.isNone)) w:=by
  have hu:=xZ (hL _ _ ht) rfl;have he:(Op.equal t (.slice ad n cap) (.slice none 0 0)).run P w=.ok ad.isNone w:=fh λm=>by
   cases ad<;>simp[Op.equalIn,run_underlying hu]
  have hq:(eqGuard .eql t x (.const (.slice none 0 0)) (.slice ad n cap) (.slice none 0 0)).run P w=.ok () w:=by simp[eqGuard]
  simp[execOp,ho,hv,hc,Go.binOp,he,hq]
 simp only[qn,XB,K6];unfold Oper.wp;rw[Zl];simp only[Oper.upon_value];refine hk _ hb Z z pl _ w ?_ b;cases hdd:o.dst with
 | none=>exact r
 | some t=>rw[hdd]at hd;exact r.to (Tr.ext r.o λ_ _=>rfl) r.o (kI hd) (.cl _ _ (.raw _))
def QEB(hL:Jq P L){k:List Item}{dst:Option Nat}{BM:TypeId}{pos:String}{after:Array Edge}{gd:Option (Nat × Bool)}{r:List (Oper × G)}{s:St}{t t' e a b:Nat}{x:Operand}{zt:List Value}
  (hx:oI (Qt s.fr x)=true) (ht:ty L t=some ⟨.slice e,a,b,zt⟩) (hd:ZQ nt dst=true) (h1:∀b:Bool,(b=true->cA (Qt s.fr x)=0)->QA P base nt w0 Q (.ops r::k) .normal ⟨ZC s.fr dst (.raw (.bool b)),s.h⟩) :
  QA P base nt w0 Q (.ops ((⟨dst,.binOp .eql t x (.const (.slice none 0 0)) t',BM,pos,after,gd⟩,none)::r)::k) .normal s:=by
 simp only[QA]at h1 ⊢;exact QEA hL rfl hx ht hd h1
end
end Go.Fg
namespace Go.Fg.X
open Go.Proofs Go.Fg
open Go.Proofs.Tryz
@[go_sem] def yU(l:List JU):D:=.imm 9 l.length (JU.rows l)
def Qm4(h:List Ob)(l:List JU)(hl:l.length<1000000):QK prog 101 h [yU l] (λd h'=>∃g,h'=h++g/\WA (λj=>h.length<=j) (h++g) 9 JU.cells d l):=by
 refine Q6 Qi 200 func101 rfl ntmps101 results101 rfl λbase w pl hb=>?_;simp only[go_sem,Qa];refine QEB BE (by simp only[go_sem];rfl) rfl rfl λb ZG=>?_;cases b with
 | true=>
  have h0:=ZG rfl;simp only[go_sem,cA]at h0;apply QC hb;exact⟨[],(QU h).symm,.inl ⟨rfl,Mj.1 h0⟩⟩
 | false=>
  apply QC hb;refine⟨by omega,_,rfl,.inr ⟨h.length,_,_,rfl,QB _,Kx rfl,λi hi=>?_⟩⟩;rw[vL (Z7 _)];rfl
def QEC(r:JU):(cr r.want r.mask==r.want)=(xO r.Nh r.BG==r.Nh&&(xO r.Ni r.BH==r.Ni&&(xO r.Nj r.Gq==r.Nj&&xO r.Gr r.EN==r.Gr))):=by
 rw[<- Bool.and_true (xO r.Gr r.EN==r.Gr)];rfl
structure km (h H:List Ob) (l:List JU) (k p:Nat) (dr:D) (le:Nat) (dm:D) (c:Nat) (es:List X7) (ms:List Nat):Prop where
 ex:Vt h H
 o:H[p]? = some (Ol dr le dm)
 eo:H[le]? = some (xj c es)
 rs:WA (λj=>h.length<=j) H 9 JU.cells dr l
 mo:WA (λj=>h.length<=j) H 1 (λi:Nat=>[Qb i]) dm ms
 hp:h.length<=p
 he:h.length<=le
 I:qG l k es ms
 ok:∀j,j<k->AV (JZ l j)=true
def km.app{h H}{l}{k p}{dr}{le}{dm}{c}{es}{ms}(N:km h H l k p dr le dm c es ms)(g):km h (H++g) l k p dr le dm c es ms:=
 ⟨N.ex.app g,(Qx (Qc N.o)).trans N.o,(Qx (Qc N.eo)).trans N.eo,N.rs.step λj hj h1=>⟨h1,Qx hj⟩,N.mo.step λj hj h1=>⟨h1,Qx hj⟩,N.hp,N.he,N.I,N.ok⟩
def km.next{h H}{l}{k p}{dr}{le}{dm}{c}{es}{ms}(N:km h H l k p dr le dm c es ms){H':List Ob}{dm'}{c'}{es'}{ms'}(hx:Vt h H')(ho:H'[p]? = some (Ol dr le dm'))(he:H'[le]? = some (xj c' es'))
  (hk:∀(j:Nat) (o:Ob),H[j]? = some o->o.kd=.arr->o.sz=9->H'[j]? = some o) (hm:WA (λj=>h.length<=j) H' 1 (λi:Nat=>[Qb i]) dm' ms') (I:qG l (k+1) es' ms') (Ja:∀j,j<k+1->AV (JZ l j)=true):km h H' l (k+1) p dr le dm' c' es' ms':=
 ⟨hx,ho,he,N.rs.imp id λ⟨lo,g,row,h1,h2,h3,h4⟩=>⟨lo,g,row,h1,h2,hk lo _ h3 rfl rfl,h4⟩,hm,N.hp,N.he,I,Ja⟩
def X4{H:List Ob}{a b:Nat}{o o':Ob}(h1:H[a]? = some o)(h2:H[b]? = some o')(h:o.kd≠o'.kd\/o.sz≠o'.sz):a≠b:=λe=>by
 rw[e,h2]at h1;cases h1;rcases h with h|h<;>exact h rfl
def km.BG{h H}{l}{k p}{dr}{le}{c}{es}(N:km h H l k p dr le .nil c es [])(hw:z8 (JZ l k)=false)(Ja:∀j,j<k+1->AV (JZ l j)=true)(o):
  km h (H.set p (Ol dr le (.ref (H.length+2) 0 0 1))++[o,⟨.arr,0,1,1,λ_=>[Qb k]⟩,⟨.arr,0,1,1,λ_=>[Qb k]⟩]) l (k+1) p dr le (.ref (H.length+2) 0 0 1) c es ([]++[k]):=by
 have hp:=Qc N.o;have Qz:p≠le:=X4 N.o N.eo (.inl nofun);refine N.next ((N.ex.set N.hp _).app _) ?_ ?_ (λj o hj h1 h2=>?_) (.inr ⟨H.length+2,0,λ_=>[Qb k],rfl,by have:=N.ex.len;omega,Vr (k:=2) (by simp),λi hi=>?_⟩) (N.I.mask hw) Ja
 ·rw[Qx (by simpa using hp),Qs hp]
 ·rw[Qx (by simpa using Qc N.eo),Qk Qz];exact N.eo
 ·rw[Qx (by simpa using Qc hj),Qk (X4 N.o hj (.inl (by rw[h1];nofun)))];exact hj
 ·simp at hi;subst hi;rfl
def km.BH{h H:List Ob}{l}{k p}{dr}{le}{c}{es}{ms:List Nat}{lo g}{row}(N:km h H l k p dr le (.ref lo g 0 ms.length) c es ms)(Zm:h.length<=lo)(hl:H[lo]? = some ⟨.arr,g,1,ms.length,row⟩)(ZH:∀i,i<ms.length->row i=[Qb ((ms.getD i default:Nat):Int)])
  (hw:z8 (JZ l k)=false) (Ja:∀j,j<k+1->AV (JZ l j)=true) (o o':Ob) :
  km h ((H.set lo ⟨.arr,g+1,1,ms.length+1,J1 ms.length 0 row λ_=>[Qb k]⟩).set p (Ol dr le (.ref lo (g+1) 0 (ms.length+1)))++[o,o']) l (k+1) p dr le (.ref lo (g+1) 0 (ms.length+1)) c es (ms++[k]):=by
 have hp:=Qc N.o;have qi:=Qc hl;have Qz:p≠le:=X4 N.o N.eo (.inl nofun);have KX:lo≠p:=X4 hl N.o (.inl nofun);have VQ:lo≠le:=X4 hl N.eo (.inl nofun);refine N.next (((N.ex.set Zm _).set N.hp _).app _) ?_ ?_ (λj o hj h1 h2=>?_) (.inr ⟨lo,g+1,J1 ms.length 0 row λ_=>[Qb k],by simp,Zm,?_,λi hi=>?_⟩) (N.I.mask hw) Ja
 ·rw[Qx (by simpa using hp),Qs (by simpa using hp)]
 ·rw[Qx (by simpa using Qc N.eo),Qk Qz,Qk VQ];exact N.eo
 ·rw[Qx (by simpa using Qc hj),Qk (X4 N.o hj (.inl (by rw[h1];nofun))),Qk (X4 hl hj (.inr (by rw[h2];show (1:Nat)≠9;decide)))];exact hj
 ·rw[Qx (by simpa using qi),Qk (Q8 KX),Qs qi];simp
 ·simp at hi;by_cases XU:i<ms.length
  ·rw[Ad XU,JV,ZH i XU];simp[XU,JD XU]
  ·have:i=ms.length:=by omega
   subst this;rw[vL (QB _)];simp
def km.new{h H}{l}{k p:Nat}{dr}{le}{dm}{c}{es}{ms}(N:km h H l k p dr le dm c es ms)(hw:z8 (JZ l k)=true)(hn:XA es (JZ l k).want=none)(Ja:∀j,j<k+1->AV (JZ l j)=true)(o):
  km h (H.set le (xj (c+1) (es++[⟨(JZ l k).want,Qb k,c⟩]))++[o]) l (k+1) p dr le dm (c+1) (es++[⟨(JZ l k).want,Qb k,c⟩]) ms:=by
 have hl:=Qc N.eo;have keep:∀(j:Nat) (o':Ob),H[j]? = some o'->o'.kd≠.map->(H.set le (xj (c+1) (es++[⟨(JZ l k).want,Qb k,c⟩]))++[o])[j]? = some o':=λj o' hj h1=>by
  rw[Qx (by simpa using Qc hj),Qk (X4 N.eo hj (.inl (Q8 h1)))];exact hj
 refine N.next ((N.ex.set N.he _).app _) (keep _ _ N.o nofun) ?_ (λj o' hj h1 h2=>keep j o' hj (by rw[h1];nofun)) (N.mo.imp id λ⟨lo,g,row,h1,h2,h3,h4⟩=>⟨lo,g,row,h1,h2,keep _ _ h3 nofun,h4⟩) (N.I.new hw hn c) Ja;rw[Qx (by simpa using hl),Qs hl]
def Qm5(h)(l:List JU)(hl:l.length<1000000):
  QK prog 56 h [yU l] (λd h'=>∃g,h'=h++g/\(qE l=0->∃p,d=.tup [.ptr p 0 0 0,Qb 0]/\LJ (λj=>h.length<=j) (h++g) p l)/\(qE l≠0->d=.tup [.raw (.pointer none),Qb (qE l)])):=by
 by_cases Lf:32<l.length
 ·have d0:decide ((32:Int)<(l.length:Int))=true:=Q5 (by omega);have e:qE l=2:=by unfold qE;rw[Qf Lf]
  rw[e];refine Q6 Qi 200 func56 rfl ntmps56 results56 rfl λbase w pl hb=>?_;simp only[go_sem,Qa,d0];exact⟨[],(QU h).symm⟩
 ·have d0:decide ((32:Int)<(l.length:Int))=false:=QN (by omega);refine Q6 Qi 200 func56 rfl ntmps56 results56 rfl λbase w pl hb=>?_;simp only[go_sem,Qa,d0];refine Jh hb QhE (Qm4 h l hl) λd h1 hR=>?_;obtain⟨g1,rfl,qs⟩:=hR;have e0:=QeV .i64;simp only[QS]at e0;have hcd:YR d=some [d]:=by rcases qs with ⟨rfl,_⟩|⟨_,_,_,rfl,_⟩<;>rfl
  have hod:d.KK=true:=by rcases qs with ⟨rfl,_⟩|⟨_,_,_,rfl,_⟩<;>rfl
  refine Qe hb ?_;simp only[go_sem,Qa,hcd,hod];obtain⟨H,hH⟩:∃H,H=h++(g1++[QS .i64 0 [],Ol d (h.length+g1.length) .nil]):=⟨_,rfl⟩;have N0:km h H l 0 (h.length+(g1.length+1)) d (h.length+g1.length) .nil 0 [] []:=by
   rw[<- WC]at hH;subst hH;refine⟨((Vt.refl h).app g1).app _,?_,?_,qs.step λj hj h1=>⟨h1,Qx hj⟩,.inl ⟨rfl,rfl⟩,by omega,by omega,qG.nil l,λj hj=>absurd hj (Vw j)⟩
   ·rw[show h.length+(g1.length+1)=(h++g1).length+1 by simp;omega];exact Vr (k:=1) rfl
   ·rw[<- QeV .i64,show h.length+g1.length=(h++g1).length by simp];exact Kx rfl
  simp only[go_sem]at hH;rw[<- hH];obtain⟨p,hp⟩:∃p,p=h.length+(g1.length+1):=⟨_,rfl⟩;rw[<- hp]at N0 ⊢;clear hH;refine Jg (λk s=>∃H dr le dm c es ms,km h H l k p dr le dm c es ms/\s=⟨[(4,.ptr p 0 0 0),(17,yU l),(18,Qb l.length),(19,Qb k)],H⟩) l.length QQ ⟨H,_,_,_,_,_,_,N0,rfl⟩ ?_;clear N0 qs hcd hod e0 H hp d g1;rintro k _ hk ⟨H,dr,le,dm,c,es,ms,N,rfl⟩;by_cases Qj:k<l.length
  ·have dk:=Q5 Qj;obtain⟨r,hr⟩:∃r,r=JZ l k:=⟨_,rfl⟩;have Jp:l.getD k default=r:=hr.symm;have Xn:r∈l:=by rw[hr];exact WI l default k Qj
   have QT:=JX (show k<4611686018427387904 by omega);have ho:=N.o;have Qg:=Qc ho;have he:=N.eo;have ZZ:=Qc he;have h4:=N.I.four;have hu:=QEC r;have bad:AV r=false->qE l=1:=λhb=>by
    unfold qE;rw[Qd Lf,Qd];intro KS;have:=X6.1 KS r Xn;rw[hb]at this;cases this
   have U:=Qm0 r.Nh r.Ni r.Nj r.Gr r.BG r.BH r.Gq r.EN;by_cases c1:r.cls<1
   ·have d1:=Q5 c1;rw[bad (by unfold AV;rw[QN (show ¬1<=r.cls by omega)];rfl)];refine Qe hb ?_;simp only[go_sem,Qa,dk,Qj,Jp];apply QH hb [0,1,2,3,4,5,6,7,8,9,10,11,12,14,15,1013,16,17];simp only[go_sem,Qa,d1,Go.undef];exact N.ex.app _
   have d1:=QN c1;by_cases c2:65536<r.cls
   ·have d2:=Q5 c2;rw[bad (by unfold AV;rw[QN (show ¬r.cls<=65536 by omega),Bool.and_false];rfl)];refine Qe hb ?_;simp only[go_sem,Qa,dk,Qj,Jp];apply QH hb [0,1,2,3,4,5,6,7,8,9,10,11,12,14,15,1013,16,17];simp only[go_sem,Qa,d1,d2,Go.undef];exact N.ex.app _
   have d2:=QN c2;cases zC:cr r.want r.mask==r.want with
   | false=>
    rw[bad (by unfold AV;rw[zC,Bool.and_false])];rw[zC]at hu;refine Qe hb ?_;simp only[go_sem,Qa,dk,Qj,Jp];apply QH hb [0,1,2,3,4,5,6,7,8,9,10,11,12,14,15,1013,16,17];simp only[go_sem,Qa,d1,d2,Go.undef];refine Vj hb sY rfl ?_ U (Qn.flat rfl) rfl λd h hR=>?_
    ·simp only[go_sem,Qa,d1,d2,<- hu]
    obtain⟨rfl,rfl⟩:=hR;refine Zr hb ?_;simp only[go_sem,Qa,d1,d2,<- hu];exact N.ex.app _
   | true=>
    rw[zC]at hu;have Ja:∀j,j<k+1->AV (JZ l j)=true:=λj hj=>by
     rcases qc.1 hj with h5|rfl
     ·exact N.ok j h5
     ·rw[<- hr];unfold AV;rw[zC,Q5 (show 1<=r.cls by omega),Q5 (show r.cls<=65536 by omega)];rfl
    obtain⟨q,hq⟩:∃q,q=XA es r.want:=⟨_,rfl⟩;have Fy:=hq;simp only[JU.want]at Fy;have hw:z8 r=(r.BG==65535&&(r.BH==65535&&(r.Gq==65535&&r.EN==65535))):=rfl;obtain⟨b,Jb⟩:∃b,b=z8 r:=⟨_,rfl⟩;rw[<- Jb]at hw;refine Qe hb ?_;simp only[go_sem,Qa,dk,Qj,Jp];apply QH hb [0,1,2,3,4,5,6,7,8,9,10,11,12,14,15,1013,16,17];simp only[go_sem,Qa,d1,d2,Go.undef];refine Vj hb sY rfl ?_ U (Qn.flat rfl) rfl λd h hR=>?_
    ·simp only[go_sem,Qa,d1,d2,<- hu]
    obtain⟨rfl,rfl⟩:=hR;refine Zr hb ?_;simp only[go_sem,Qa,d1,d2,<- hu];cases q with
    | none=>
     apply QH hb [0,1,2,3,4,5,6,7,8,9,10,11];simp only[go_sem,Qa,ho,Qg,he,ZZ,<- Fy];refine⟨h4,?_⟩;apply QH hb [0,1,1002,3,4];simp only[go_sem,Qa];refine Vj hb QhF rfl ?_ QmZ (Qn.flat rfl) rfl λd h hR=>?_
     ·simp only[go_sem,Qa,<- hw]
     obtain⟨rfl,rfl⟩:=hR;refine Zr hb ?_;simp only[go_sem,Qa,<- hw];cases b with
     | false=>
      rcases N.mo with ⟨rfl,rfl⟩|⟨lm,gm,QcL,rfl,Fc,hm,zN⟩
      ·have N2:=N.BG (by rw[<- hr,<- Jb]) Ja ⟨.one,0,9,1,λ_=>r.cells⟩;simp only[go_sem,Qa,ho,Qg];refine⟨Qj,_,Qp.frame (fr':=[(4,.ptr p 0 0 0),(17,yU l),(18,Qb l.length),(19,Qb (k+1:Nat))]) (by simp only[go_sem,QT]),_,_,_,_,_,_,_,N2,rfl⟩
      ·have N2:=N.BH Fc hm zN (by rw[<- hr,<- Jb]) Ja ⟨.one,0,9,1,λ_=>r.cells⟩ ⟨.arr,0,1,1,λ_=>[Qb k]⟩;have QG:=Qc hm;have Dt:lm≠p:=X4 hm ho (.inl nofun);have QcR:ms.length<=4294967295:=by
        have:=inc_le ms k 0 N.I.inc λj hj=>⟨Z7 j,((N.I.mem j).1 hj).1⟩;omega
       have QcS:ms.length+1<=4294967295:=by
        have:=inc_le ms k 0 N.I.inc λj hj=>⟨Z7 j,((N.I.mem j).1 hj).1⟩;omega
       simp only[go_sem,Qa,ho,Qg,hm,QG,Qk Dt,QcR,QcS];repeat (refine And.intro (by first|assumption|omega) ?_)
       refine⟨_,Qp.frame (fr':=[(4,.ptr p 0 0 0),(17,yU l),(18,Qb l.length),(19,Qb (k+1:Nat))]) (by simp only[go_sem,QT]),_,_,_,_,_,_,_,N2,rfl⟩
     | true=>
      simp only[go_sem,Qa,ho,Qg];apply QH hb [0,1,2,3,4,5,6,1007];simp only[go_sem,Qa,ho,Qg,he,ZZ,<- Fy];have N2:=N.new (by rw[<- hr,<- Jb]) (by rw[<- hr];exact hq.symm) Ja ⟨.one,0,9,1,λ_=>r.cells⟩;rw[<- hr]at N2;refine⟨h4,Qj,_,Qp.frame (fr':=[(4,.ptr p 0 0 0),(17,yU l),(18,Qb l.length),(19,Qb (k+1:Nat))]) (by simp only[go_sem,QT]),_,_,_,_,_,_,_,N2,rfl⟩
    | some d=>
     apply QH hb [0,1,2,3,4,5,6,7,8,9,10,11];simp only[go_sem,Qa,ho,Qg,he,ZZ,<- Fy];refine⟨h4,?_⟩;apply QH hb [0,1,1002,3,4];simp only[go_sem,Qa];refine Vj hb QhF rfl ?_ QmZ (Qn.flat rfl) rfl λd h hR=>?_
     ·simp only[go_sem,Qa,<- hw]
     obtain⟨rfl,rfl⟩:=hR;refine Zr hb ?_;simp only[go_sem,Qa,<- hw];cases b with
     | false=>
      rcases N.mo with ⟨rfl,rfl⟩|⟨lm,gm,QcL,rfl,Fc,hm,zN⟩
      ·have N2:=N.BG (by rw[<- hr,<- Jb]) Ja ⟨.one,0,9,1,λ_=>r.cells⟩;simp only[go_sem,Qa,ho,Qg];refine⟨Qj,_,Qp.frame (fr':=[(4,.ptr p 0 0 0),(17,yU l),(18,Qb l.length),(19,Qb (k+1:Nat))]) (by simp only[go_sem,QT]),_,_,_,_,_,_,_,N2,rfl⟩
      ·have N2:=N.BH Fc hm zN (by rw[<- hr,<- Jb]) Ja ⟨.one,0,9,1,λ_=>r.cells⟩ ⟨.arr,0,1,1,λ_=>[Qb k]⟩;have QG:=Qc hm;have Dt:lm≠p:=X4 hm ho (.inl nofun);have QcR:ms.length<=4294967295:=by
        have:=inc_le ms k 0 N.I.inc λj hj=>⟨Z7 j,((N.I.mem j).1 hj).1⟩;omega
       have QcS:ms.length+1<=4294967295:=by
        have:=inc_le ms k 0 N.I.inc λj hj=>⟨Z7 j,((N.I.mem j).1 hj).1⟩;omega
       simp only[go_sem,Qa,ho,Qg,hm,QG,Qk Dt,QcR,QcS];repeat (refine And.intro (by first|assumption|omega) ?_)
       refine⟨_,Qp.frame (fr':=[(4,.ptr p 0 0 0),(17,yU l),(18,Qb l.length),(19,Qb (k+1:Nat))]) (by simp only[go_sem,QT]),_,_,_,_,_,_,_,N2,rfl⟩
     | true=>
      simp only[go_sem,Qa,ho,Qg];have N1:=N.app [⟨.one,0,9,1,λ_=>r.cells⟩];have N2:km h (H++[⟨.one,0,9,1,λ_=>r.cells⟩]) l (k+1) p dr le dm c es ms:=⟨N1.ex,N1.o,N1.eo,N1.rs,N1.mo,N1.hp,N1.he,N.I.there (by rw[<- hr,<- Jb]) (by rw[<- hr,<- hq];rfl),Ja⟩;refine⟨Qj,_,Qp.frame (fr':=[(4,.ptr p 0 0 0),(17,yU l),(18,Qb l.length),(19,Qb (k+1:Nat))]) (by simp only[go_sem,QT]),_,_,_,_,_,_,_,N2,rfl⟩
  ·have Ju:k=l.length:=by omega
   have dk:=QN Qj;subst Ju;have e0:qE l=0:=by
    unfold qE;rw[Qd Lf,Qf];rw[X6];intro r hr;obtain⟨j,hj,e⟩:=y9 hr;have:=N.ok j hj;unfold JZ at this;rw[Ze,QW hj]at this;rw[<- e];exact this
   refine Qe hb ?_;simp only[go_sem,Qa,dk];apply QC hb;obtain⟨g,rfl⟩:=N.ex;refine⟨g,rfl,λ_=>⟨p,rfl,dr,le,dm,c,es,ms,N.o,N.eo,N.rs,N.mo,N.hp,N.he,N.I,e0⟩,λh=>absurd e0 h⟩
@[go_sem] def Ce(d:D):Ob:=⟨.one,0,1,1,λ_=>[d]⟩
structure jF (n:Nat) (own:Nat->Tag) (tw:Nat->TT) (h:List Ob) (bp bo op:Nat) (L:List Ev):Prop where
 hp:h[bp]? = some (Ce (Qb op))
 ho:∃d,h[bo]? = some (Ce d)/\WA (λl=>n<=l/\own l=.no/\tw l=.no/\l≠bp/\l≠bo) h 12 Ev.cells d L
 np:n<=bp
 no:n<=bo
 op:own bp=.no
 oo:own bo=.no
 tp:tw bp=.no
 to:tw bo=.no
 ne:bp≠bo
def jF.AY{n}{own own'}{tw ZK}{h h':List Ob}{bp bo op}{L}(E:jF n own tw h bp bo op L)(D:Jw h.length own tw h own' ZK h'):jF n own' ZK h' bp bo op L:=by
 obtain⟨d,h1,h2⟩:=E.ho;have lp:=Qc E.hp;have lo:=Qc h1;exact⟨(D.keep _ lp E.op E.tp).trans E.hp,⟨d,(D.keep _ lo E.oo E.to).trans h1,h2.step λj hj ⟨a,b,c,e,f⟩=>⟨⟨a,(D.s1 j hj).trans b,(D.s2 j hj).trans c,e,f⟩,D.keep j hj b c⟩⟩,E.np,E.no,(D.s1 _ lp).trans E.op,(D.s1 _ lo).trans E.oo,(D.s2 _ lp).trans E.tp,(D.s2 _ lo).trans E.to,E.ne⟩
def Jw.X8{m n}{own own'}{tw ZK}{h h'}(hm:m<=n)(D:Jw n own tw h own' ZK h'):Jw m own tw h own' ZK h':=⟨D.s1,D.s2,λl hl=>D.keep l (wU hl hm),D.my,D.len⟩
def QED{n}{own}{tw}{h h':List Ob}{bo lo}(hn:n<=bo)(h1:own bo=.no)(h2:tw bo=.no)(hl:lo<h.length->n<=lo/\own lo=.no/\tw lo=.no)(hh:n<=h.length)(len:h.length<=h'.length)
  (k:∀j,j<h.length->j≠bo->j≠lo->h'[j]? = h[j]?):Jw n own tw h (QX own h .no) (ZX tw h .no) h'/\oy own tw h (QX own h .no) (ZX tw h .no) h':=by
 refine⟨⟨λl hl=>Js hl,λl hl=>JN hl,λl Jx _ _=>k l (by omega) (by omega) λe=>?_,λl Qc hm=>k l Qc (λe=>by rw[e,h2]at hm;cases hm) λe=>?_,len⟩,λl Qc=>⟨λhv=>⟨Js Qc,k l Qc (λe=>hv.1 (by rw[e,h1])) λe=>?_⟩,λhv _=>⟨JN Qc,k l Qc (λe=>hv (by rw[e,h2])) λe=>?_⟩⟩⟩
 ·have:=(hl (by omega)).1;omega
 ·rw[e,(hl (by omega)).2.2]at hm;cases hm
 ·exact hv.1 (by rw[e];exact(hl (by omega)).2.1)
 ·exact hv (by rw[e];exact(hl (by omega)).2.2)
def oJ{own}{tw}{h}(ap:∀l,tw l≠.no->own l=.no):∀l,ZX tw h .no l≠.no->QX own h .no l=.no:=λl hl=>by
 by_cases h1:l<h.length
 ·rw[JN h1]at hl;rw[Js h1];exact ap l hl
 ·exact Xb (by omega)
def Qm8{n}{own}{tw}{h:List Ob}{bp bo op}{L:List Ev}(E:jF n own tw h bp bo op L)(hn:n<=h.length)(hL:L.length<1000000000)(e:Ev):
  QK prog 58 h [.agg e.cells,.ptr bp 0 0 0,.ptr bo 0 0 0] (λd h'=>d=.tup []/\jF n (QX own h .no) (ZX tw h .no) h' bp bo op (L++[{ e with op:=op }])/\Jw n own tw h (QX own h .no) (ZX tw h .no) h'/\oy own tw h (QX own h .no) (ZX tw h .no) h'):=by
 have hp:=E.hp;obtain⟨d,ho,hd⟩:=E.ho;have Qz:=E.ne;have lp:=Qc hp;have lo:=Qc ho;have fin:∀(h':List Ob) (d':D) (sl:Nat),h'[bp]? = some (Ce (Qb op))->h'[bo]? = some (Ce d')->WA (λl=>n<=l/\QX own h .no l=.no/\ZX tw h .no l=.no/\l≠bp/\l≠bo) h' 12 Ev.cells d' (L++[{ e with op:=op }])->(sl<h.length->n<=sl/\own sl=.no/\tw sl=.no)->h.length<=h'.length ->
   (∀j,j<h.length->j≠bo->j≠sl->h'[j]? = h[j]?)->jF n (QX own h .no) (ZX tw h .no) h' bp bo op (L++[{ e with op:=op }])/\Jw n own tw h (QX own h .no) (ZX tw h .no) h'/\oy own tw h (QX own h .no) (ZX tw h .no) h':=λh' d' sl a1 a2 a3 a4 a5 a6=>
  ⟨⟨a1,⟨d',a2,a3⟩,E.np,E.no,(Js lp).trans E.op,(Js lo).trans E.oo,(JN lp).trans E.tp,(JN lo).trans E.to,E.ne⟩,QED E.no E.oo E.to a4 hn a5 a6⟩
 rcases hd with ⟨rfl,rfl⟩|⟨sl,g,row,rfl,⟨s1,s2,s3,s4,s5⟩,hs,hr⟩
 ·have fin:=fin (h.set bo (Ce (.ref (h.length+2) 0 0 1))++[⟨.one,0,12,1,λ_=>({ e with op:=op }:Ev).cells⟩,⟨.arr,0,12,1,λ_=>({ e with op:=op }:Ev).cells⟩,⟨.arr,0,12,1,λ_=>({ e with op:=op }:Ev).cells⟩]) (.ref (h.length+2) 0 0 1) h.length
   (by rw[Qx (by simpa using lp),Qk Qz.symm];exact hp) (by rw[Qx (by simpa using lo),Qs lo])
   (.inr ⟨h.length+2,0,λ_=>({ e with op:=op }:Ev).cells,rfl,⟨by omega,Xb (by omega),zf (by omega),by omega,by omega⟩,Vr (k:=2) (by simp),λi hi=>by
    simp at hi;subst hi;rfl⟩) (λh=>absurd h (YP _)) (by simp) (λj hj h1 h2=>by rw[Qx (by simpa using hj),Qk (Q8 h1)])
  refine Q6 Qi 200 func58 rfl ntmps58 results58 rfl λbase w pl hb=>?_;have SF:=Qc hp;have Qg:=Qc ho;simp only[go_sem,Qa,hp,SF,ho,Qg,Qz,Qz.symm];simp only[go_sem]at fin ⊢;exact fin
 ·have Lq:=Qc hs;have bO:L.length<=4294967295:=by omega
  have bU:L.length+1<=4294967295:=by omega
  have fin:=fin ((h.set sl ⟨.arr,g+1,12,L.length+1,J1 L.length 0 row λ_=>({ e with op:=op }:Ev).cells⟩).set bo (Ce (.ref sl (g+1) 0 (L.length+1)))++[⟨.one,0,12,1,λ_=>({ e with op:=op }:Ev).cells⟩,⟨.arr,0,12,1,λ_=>({ e with op:=op }:Ev).cells⟩]) (.ref sl (g+1) 0 (L.length+1)) sl
   (by rw[Qx (by simpa using lp),Qk Qz.symm,Qk s4];exact hp) (by rw[Qx (by simpa using lo),Qs (by simpa using lo)])
   (.inr ⟨sl,g+1,J1 L.length 0 row λ_=>({ e with op:=op }:Ev).cells,by simp,⟨s1,(Js Lq).trans s2,(JN Lq).trans s3,s4,s5⟩,by rw[Qx (by simpa using Lq),Qk s5.symm,Qs Lq];simp,λi hi=>by
    simp at hi;by_cases XU:i<L.length
    ·rw[Ad XU,JV,hr i XU];simp[XU,JD XU]
    ·have:i=L.length:=by omega
     subst this;rw[vL (QB _)];simp⟩) (λ_=>⟨s1,s2,s3⟩) (by simp) (λj hj h1 h2=>by rw[Qx (by simpa using hj),Qk (Q8 h1),Qk (Q8 h2)])
  refine Q6 Qi 200 func58 rfl ntmps58 results58 rfl λbase w pl hb=>?_;have SF:=Qc hp;have Qg:=Qc ho;have Lq:=Qc hs;simp only[go_sem,Qa,hp,SF,ho,Qg,hs,Lq,Qz,Qz.symm,s4,s5,Qk s5,bO,bU];simp only[go_sem]at fin ⊢;repeat (refine And.intro (by first|assumption|omega) ?_)
  exact fin
def QcT{own}{tw}{h}{p}{S}(T:Kj own tw h p S):QV prog 77 h [.ptr p 0 0 0] (λd=>d=u64 (QP S)):=by
 obtain⟨ps,pl,pr,pt,T⟩:=T;have ho:=Z3 T.o;obtain⟨a,b,c,hl⟩:=T.ln;have hl:=Z3 hl;obtain⟨L,C⟩:=T.co.ex;have hD:=QlV C.ro T.co.I;have hU:=λ(F:List Ob) (hF:F=h.map Ob.ro)=>QmX (h:=F) (Kh hF _ _ hl);have hD:=λ(F:List Ob) (hF:F=h.map Ob.ro)=>QlV (C.ro.more (Kh hF)) T.co.I;clear T C;unfold QP;obtain⟨v,hv⟩:∃v,v=KQ S.M:=⟨_,rfl⟩;rw[<- hv]at hD ⊢;refine Zq Qi 200 func77 rfl ntmps77 results77 rfl λbase w pl F hF Q3 hb=>?_;rw[<- hF]at ho hl;have Qg:=Qc ho;have IC:=Qc hl;simp only[go_sem,Qa,ho,Qg,hl,IC];apply QH hb [0,1,2,3,4,5,6,7,9,10,11,12,1008,1013,1014,15];simp only[go_sem,Qa,ho,Qg];refine Yh hb Qhw (hU F hF) λd hR=>?_;subst hR;refine Zr hb ?_;simp only[go_sem,Qa,ho,Qg];refine Yh hb Qu8 (hD F hF) λd hR=>?_;subst hR;refine Zr hb ?_;simp only[go_sem,Qa,ho,Qg];refine Rp hb Qu7 (QEr S.Qh S.JI v) (Qn.flat rfl) λd h hR=>?_;obtain⟨rfl,rfl⟩:=hR;apply XF hb;all_goals first|exact⟨_,rfl,rfl⟩|exact⟨_,rfl⟩|rfl|exact⟨[],(QU _).symm⟩|exact⟨[],(QU _).symm,rfl⟩
def Qm9{n}{own}{tw}{h:List Ob}{p}{S}(T:Kj own tw h p S)(V:ZV S){bp bo op}{L:List Ev}(E:jF n own tw h bp bo op L)(hn:n<=h.length)(hL:L.length<100000000):
  QK prog 116 h [.ptr p 0 0 0,u64 S.Qh,.clo 58 0 [.ptr bp 0 0 0,.ptr bo 0 0 0]] (λd h'=>d=.tup []/\∃own' ZK,Kj own' ZK h' p (Z2 S op S.Qh).1/\jF n own' ZK h' bp bo op (L++(Z2 S op S.Qh).2)/\Jw n own tw h own' ZK h'):=by
 obtain⟨ps,lp,pr,pt,T⟩:=T;have ho:=T.o;obtain⟨a,b,c,hl⟩:=T.ln;have oK:=QcI (Z3 hl) S.Qh;by_cases hu:S.JI<=S.Qh
 ·have du:=Q5 hu;rw[du]at oK;refine Q6 Qi 200 func116 rfl ntmps116 results116 rfl λbase w pl hb=>?_;have Qg:=Qc ho;simp only[go_sem,Qa,ho,Qg];refine ZN hb iP oK λd hR=>?_;subst hR;refine Qe hb ?_;simp only[go_sem,Qa,ho,Qg];refine qZ hb Qvn (QDM T.co S.Qh) λd h1 hR=>?_;obtain⟨rfl,Ji,C1,D1⟩:=hR;have T1:=T.core D1 C1 (LH S.M S.Qh);have K1:Jw h.length own tw h Ji (ZX tw h .no) h1:=Jw.core T.ap (QB _) D1;obtain⟨Kw,QEE⟩:∃t,t=ZX tw h .no:=⟨_,rfl⟩;rw[<- QEE]at T1 K1;have E1:=E.AY K1;have bE:=K1.len;obtain⟨j,hj⟩:∃j,j=WL S.M S.Qh:=⟨_,rfl⟩;obtain⟨k,hk⟩:∃k,k=Vf S.M S.Qh:=⟨_,rfl⟩;obtain⟨b,Bi⟩:∃b,b=Cc S.M S.Qh:=⟨_,rfl⟩;cases ht:Xt S.M S.Qh with
  | false=>
   have e:Z2 S op S.Qh=({ S with M:=takeN S.M S.Qh },[]):=by unfold Z2;rw[Qd (by omega),Qd (by rw[ht];exact ky)]
   rw[e,<- hj,<- hk,<- Bi];apply QC hb;have T2:=T1.YK [⟨.one,0,8,1,λ_=>zV j k b⟩];have K2:=Jw.app (n:=h1.length) Ji Kw h1 [⟨.one,0,8,1,λ_=>zV j k b⟩] .my (QB _);exact⟨_,_,⟨_,_,_,_,T2⟩,E1.AY K2,(K1.X8 hn).trans hn (K2.X8 (by omega))⟩
  | true=>
   have hlen:=V.take_len ht;have YT:=Of V.K hlen;rw[<- hk]at hlen YT;have Fc:=V.K.l2;have ZP:=V.cl;obtain⟨done,Qna⟩:∃d,d=S.Qh+YJ S.M.lk k.len:=⟨_,rfl⟩;have e:Z2 S op S.Qh=({ S with M:=takeN S.M S.Qh,JI:=done,st:=qC S.st j done k.len b },[Hh op b S.Qh done j k]):=by
    unfold Z2;rw[Qd (by omega),Qf ht,<- hk,<- Qna,<- hj,<- Bi]
   rw[e,<- hj,<- hk,<- Bi];have T2:=T1.YK [⟨.one,0,8,1,λ_=>zV j k b⟩];have K2:=K1.trans (QB _) ((Jw.app (n:=h1.length) Ji Kw h1 [⟨.one,0,8,1,λ_=>zV j k b⟩] .my (QB _)).X8 bE);have E2:=E.AY K2;have Jb:(h1++[(⟨.one,0,8,1,λ_=>zV j k b⟩:Ob)])[h1.length]? = some ⟨.one,0,8,1,λ_=>zV j k b⟩:=Kx rfl;have n2:QX Ji h1 .no h1.length=.no:=Xb (QB _);have m2:ZX Kw h1 .my h1.length=.my:=zf (QB _);apply QC hb;obtain⟨h2,SG⟩:∃h2,h2=h1++[(⟨.one,0,8,1,λ_=>zV j k b⟩:Ob)]:=⟨_,rfl⟩;rw[<- SG]at T2 K2 E2 Jb;simp only[go_sem,zV]at SG;rw[<- SG];clear SG;generalize QX Ji h1 .no=JC at T2 K2 E2 n2;generalize ZX Kw h1 .my=Vv at T2 K2 E2 m2;have KJ:=T2.o;have YH:=Qc KJ;have wG:=Qc Jb;obtain⟨a2,b2,c2,Jx⟩:=T2.ln;have Wi:(takeN S.M S.Qh).lk=S.M.lk:=LH S.M S.Qh;have oL:=QEn h2 Jx (by show 1<=(takeN S.M S.Qh).lk.t;rw[Wi];exact V.K.t1) (by show (takeN S.M S.Qh).lk.t<=65536;rw[Wi];exact V.K.t2) ZP hu k ⟨hlen.1,by omega⟩;have QEF:S.Qh+k.len.toNat*(takeN S.M S.Qh).lk.t.toNat=done:=by rw[Wi,Qna];rfl
   have oL:QK prog 166 h2 [.ptr lp 0 0 0,u64 S.Qh,.agg k.cells] (λd h'=>d=.tup [u64 done,Qb 0]/\∃a' b' c' g,h'=h2.set lp (kj a' b' c' (takeN S.M S.Qh).lk.t done)++g):=by
    rw[<- QEF];exact oL
   simp only[go_sem,zV]at Jb;apply Va [7] hb [0,1,2,3,4,5,6,1007,8,9,10,11,12] [];simp only[go_sem,Qa,KJ,YH,Jb,wG];refine xv hb Qvo oL λd h3 hR=>?_;obtain⟨rfl,a3,b3,c3,g3,cB⟩:=hR;have t2l:=T2.tl;have s3:Step (λl=>Vv l=.ln) h2 h3:=by
    rw[cB];exact⟨λl hl Qz=>by rw[Qx (by simpa using hl),Qk (λe=>Qz (by rw[<- e];exact t2l))],by simp⟩
   have xz:h3[lp]? = some (kj a3 b3 c3 (takeN S.M S.Qh).lk.t done):=by rw[cB,Qx (by simpa using Qc Jx),Qs (Qc Jx)]
   have T3:=T2.link s3 xz;have K3:=K2.trans (QB _) ((Jw.part (n:=h2.length) (own:=JC) (t:=.ln) ⟨by simp,by simp⟩ (QB _) s3).X8 K2.len);have E3:=E.AY K3;have zU:h3[h1.length]? = some _:=(s3.keep _ wG (by rw[m2];simp)).trans Jb;have n3:QX JC h2 .no h1.length=.no:=(Js wG).trans n2;have m3:ZX Vv h2 .ln h1.length=.my:=(JN wG).trans m2;clear cB oL;generalize QX JC h2 .no=YI at T3 K3 E3 n3;generalize ZX Vv h2 .ln=wL at T3 K3 E3 m3;have XJ:=T3.o;have j9:=Qc XJ;have DL:=Qc zU;apply XF hb;have QEH:=QEv T3.st j (done:=done) (by omega) (bytes:=k.len) hlen.1 (by omega) b;apply Va [12] hb [0,1,2,3,4,5,6,7,8,9,10,11,1012] [];simp only[go_sem,Qa,XJ,j9,zU,DL];refine xv hb Qvp QEH λd h4 hR=>?_;obtain⟨s4,st4⟩:=hR;have T4:=T3.stat s4 st4;have K4:=K3.trans (QB _) ((Jw.part (n:=h3.length) (own:=YI) (t:=.st) ⟨by simp,by simp⟩ (QB _) s4).X8 K3.len);have E4:=E.AY K4;have wz:h4[h1.length]? = some _:=(s4.keep _ DL (by rw[m3];simp)).trans zU;generalize QX YI h3 .no=own4 at T4 K4 E4;generalize ZX wL h3 .st=Kn at T4 K4 E4;have QEI:=Qc wz;refine Zr hb ?_;simp only[go_sem,Qa,wz,QEI];have bV:n<=h4.length:=KZ hn K4.len;refine VH hb Qhu rfl ?_ (Qm8 E4 bV (by omega) (Hh 0 b S.Qh done j k)) rfl λd h5 hR=>?_
   ·simp only[go_sem,Hh]
   obtain⟨rfl,E5,K5,st5⟩:=hR;have T5:=T4.step st5 (oJ T4.ap);have WG:({ Hh 0 b S.Qh done j k with op:=(op:Int) }:Ev)=Hh op b S.Qh done j k:=rfl;rw[WG]at E5;apply QC hb;exact⟨_,_,⟨_,_,_,_,T5⟩,E5,(K4.X8 hn).trans hn K5⟩
 ·have du:=QN hu;rw[du]at oK;have e:Z2 S op S.Qh=(S,[]):=by unfold Z2;rw[Qf (by omega)]
  rw[e];refine Q6 Qi 200 func116 rfl ntmps116 results116 rfl λbase w pl hb=>?_;have Qg:=Qc ho;simp only[go_sem,Qa,ho,Qg];refine ZN hb iP oK λd hR=>?_;subst hR;refine Qe hb ?_;simp only[go_sem,Qa,ho,Qg];exact⟨own,tw,⟨_,_,_,_,T⟩,E,Jw.refl n own tw h⟩
@[go_sem] def qF.cells(r:qF):List D:=[Qb r.err,Qb r.place,Qb r.cls]
def jF.loc{n}{own}{tw}{h:List Ob}{bp bo op}{L}(E:jF n own tw h bp bo op L){l}{o1:Ob}(hl:h[l]? = some o1)(hk:o1.kd≠.arr)(h1:l≠bp)(h2:l≠bo)(o):jF n own tw (h.set l o) bp bo op L:=by
 obtain⟨d,a1,a2⟩:=E.ho;exact⟨by rw[Qk h1];exact E.hp,⟨d,by rw[Qk h2];exact a1,a2.imp id λ⟨lo,g,row,b1,b2,b3,b4⟩=>⟨lo,g,row,b1,b2,by rw[Qk (X4 hl b3 (.inl hk))];exact b3,b4⟩⟩,E.np,E.no,E.op,E.oo,E.tp,E.to,E.ne⟩
def Jw.Fi{n}{own own'}{tw ZK}{h H:List Ob}(D:Jw n own tw h own' ZK H){l}(hl:n<=l)(hm:h.length<=l)(o):Jw n own tw h own' ZK (H.set l o):=⟨D.s1,D.s2,λj h1 h2 h3=>by rw[Qk (by omega)];exact D.keep j h1 h2 h3,λj h1 h2=>by rw[Qk (by omega)];exact D.my j h1 h2,by simpa using D.len⟩
def QEK{n}{own}{tw}{h:List Ob}{p}{S:Zf}(T:Kj own tw h p S)(V:ZV S){bp bo op}{L:List Ev}(E:jF n own tw h bp bo op L)(hn:n<=h.length)(hL:L.length<10000000)(oH:∀k,(S.st.Jv k).length<1000000)(x)(hx:cu x):
  QK prog 61 h [.ptr p 0 0 0,.agg x.cells,.clo 58 0 [.ptr bp 0 0 0,.ptr bo 0 0 0]] (λd h'=>d=.agg (X3 S op x).r.cells/\∃own' ZK,Kj own' ZK h' p (X3 S op x).S/\jF n own' ZK h' bp bo op (L++(X3 S op x).l)/\Jw n own tw h own' ZK h'):=by
 obtain⟨ps,lp,pr,pt,T⟩:=T;have ZP:=V.cl;have T1:=T.YK [⟨.one,0,6,1,λ_=>x.cells⟩,⟨.one,0,3,1,λ_=>[Qb 0,Qb 0,Qb 0]⟩];have K1:=Jw.app (n:=h.length) own tw h [⟨.one,0,6,1,λ_=>x.cells⟩,⟨.one,0,3,1,λ_=>[Qb 0,Qb 0,Qb 0]⟩] .my (QB _);have E1:=E.AY K1;have Kc:(h++[(⟨.one,0,6,1,λ_=>x.cells⟩:Ob),⟨.one,0,3,1,λ_=>[Qb 0,Qb 0,Qb 0]⟩])[h.length]? = some ⟨.one,0,6,1,λ_=>x.cells⟩:=Kx rfl;have Vx:(h++[(⟨.one,0,6,1,λ_=>x.cells⟩:Ob),⟨.one,0,3,1,λ_=>[Qb 0,Qb 0,Qb 0]⟩])[h.length+1]? = some ⟨.one,0,3,1,λ_=>[Qb 0,Qb 0,Qb 0]⟩:=Vr (k:=1) rfl;have n1:∀i,h.length<=i->QX own h .no i=.no:=λi hi=>Xb hi;have m1:∀i,h.length<=i->ZX tw h .my i=.my:=λi hi=>zf hi;have bE:h.length+2=(h++[(⟨.one,0,6,1,λ_=>x.cells⟩:Ob),⟨.one,0,3,1,λ_=>[Qb 0,Qb 0,Qb 0]⟩]).length:=by simp
 refine Q6 Qi 200 func61 rfl ntmps61 results61 rfl λbase w pl hb=>?_;simp only[go_sem,Qa];obtain⟨h1,DS⟩:∃h1,h1=h++[(⟨.one,0,6,1,λ_=>x.cells⟩:Ob),⟨.one,0,3,1,λ_=>[Qb 0,Qb 0,Qb 0]⟩]:=⟨_,rfl⟩;rw[<- DS]at T1 K1 E1 Kc Vx bE;simp only[go_sem]at DS;rw[<- DS];clear DS;generalize QX own h .no=Ji at T1 K1 E1 n1;generalize ZX tw h .my=Kw at T1 K1 E1 m1;have ZI:=T1.o;have KP:=Qc ZI;have VU:=Qc Kc;have Y6:=Qc Vx;obtain⟨dr,le,dm,cc,es,ms,Tb⟩:=T1.tb;have F:=QEx Tb.toR x hx;obtain⟨cls,LL⟩:∃c,c=Jj S.R (Zy x):=⟨_,rfl⟩;rw[<- LL]at F;by_cases h0:cls=0
 ·have e:X3 S op x=⟨S,⟨31,0,0⟩,[]⟩:=by unfold X3;rw[Qf (by rw[<- LL];exact h0)]
  rw[e];rw[Qf h0,h0]at F;simp only[go_sem]at Kc;apply QH hb [0,1,2,3,4,5,1006,7,8,9,10,11];simp only[go_sem,Qa,ZI,KP,Kc,VU];refine Xj hb QhH rfl ?_ F rfl λd hR=>?_
  ·simp only[go_sem,Qa,ZI,KP,Kc,VU,Vx,Y6,Qs Y6]
  subst hR;refine Zr hb ?_;simp only[go_sem,Qa,ZI,KP,Kc,VU,Vx,Y6,Qs Y6];exact⟨Ji,Kw,⟨_,_,_,_,T1.loc (n1 _ (by omega)) (.inr (m1 _ (by omega))) _⟩,E1.loc Vx nofun (by have:=Qc E.hp;omega) (by obtain⟨d,h1,_⟩:=E.ho;have:=Qc h1;omega) _,(K1.X8 hn).Fi (by omega) (by omega) _⟩
 ·have nb:h.length+1≠bp/\h.length+1≠bo:=by
   obtain⟨d,h1,_⟩:=E.ho;have:=Qc h1;have:=Qc E.hp;omega
  rw[Qd h0]at F;have P:=QDL T1.co S.Qh (by omega) cls x;simp only[go_sem]at Kc;obtain⟨err,SH⟩:∃e,e=Y3 S.M S.Qh cls x:=⟨_,rfl⟩;rw[<- SH]at P;apply QH hb [0,1,2,3,4,5,1006,7,8,9,10,11];simp only[go_sem,Qa,ZI,KP,Kc,VU];refine Xj hb QhH rfl ?_ F rfl λd hR=>?_
  ·simp only[go_sem,Qa,ZI,KP,Kc,VU,Vx,Y6,Qs Y6]
  subst hR;refine Zr hb ?_;simp only[go_sem,Qa,ZI,KP,Kc,VU,Vx,Y6,Qs Y6];apply Va [10] hb [0,1,2,3,4,5,6,7,8,9,1010,11] [];simp only[go_sem,Qa,ZI,KP,Kc,VU];refine xv hb QuU P λd h2 hR=>?_;obtain⟨rfl,JC,C2,D2⟩:=hR;have T2:=T1.core D2 C2 (LG S.M S.Qh cls x);have K2':Jw h1.length Ji Kw h1 JC (ZX Kw h1 .no) h2:=Jw.core T1.ap (QB _) D2;have K2:=K1.trans (QB _) (K2'.X8 K1.len);have E2:=E1.AY K2';have Xg:h2[h.length]? = some _:=(D2.keep _ VU (n1 _ (QB _))).trans Kc;have Jp:h2[h.length+1]? = some _:=(D2.keep _ Y6 (n1 _ (by omega))).trans Vx;have n2:JC (h.length+1)=.no:=(D2.same _ Y6).trans (n1 _ (by omega));have n2x:JC h.length=.no:=(D2.same _ VU).trans (n1 _ (by omega));have m2:ZX Kw h1 .no (h.length+1)=.my:=(JN Y6).trans (m1 _ (by omega));have m2x:ZX Kw h1 .no h.length=.my:=(JN VU).trans (m1 _ (by omega));generalize ZX Kw h1 .no=Vv at T2 K2 E2 m2 m2x;have KJ:=T2.o;have YH:=Qc KJ;have Qnd:=Qc Xg;have Yp:=Qc Jp;refine Zr hb ?_;simp only[go_sem,Qa,KJ,YH,Xg,Qnd];by_cases he:err=0
  ·have R5:(err != 0)=false:=by simpa using he
   have hS':ZV { S with M:=Jr S.M S.Qh cls x,st:=kg S.st cls S.Qh }:=(V.put cls x).Jv cls S.Qh (by show S.Qh<_;omega);have e:X3 S op x=⟨(Z2 { S with M:=Jr S.M S.Qh cls x,st:=kg S.st cls S.Qh } op S.Qh).1,⟨0,0,cls⟩,AW op S.Qh cls x::(Z2 { S with M:=Jr S.M S.Qh cls x,st:=kg S.st cls S.Qh } op S.Qh).2⟩:=by
    unfold X3;rw[Qd (by rw[<- LL];exact h0),Qf (by rw[<- LL,<- SH];exact he),<- LL]
   rw[e];have QEM:=QEt T2.st cls S.Qh (oH cls);simp only[go_sem,Qa,R5];apply Va [9] hb [0,1,2,3,4,5,6,7,8,1009] [];simp only[go_sem,Qa,KJ,YH];refine xv hb QuV QEM λd h3 hR=>?_;obtain⟨rfl,s3,st3⟩:=hR;have T3:=T2.stat s3 st3;have K3':Jw h2.length JC Vv h2 (QX JC h2 .no) (ZX Vv h2 .st) h3:=Jw.part ⟨by simp,by simp⟩ (QB _) s3;have K3:=K2.trans (QB _) (K3'.X8 K2.len);have E3:=E2.AY K3';have NG:h3[h.length]? = some _:=(s3.keep _ Qnd (by rw[m2x];simp)).trans Xg;have j7:h3[h.length+1]? = some _:=(s3.keep _ Yp (by rw[m2];simp)).trans Jp;have n3:QX JC h2 .no (h.length+1)=.no:=(Js Yp).trans n2;have m3:ZX Vv h2 .st (h.length+1)=.my:=(JN Yp).trans m2;generalize QX JC h2 .no=YI at T3 K3 E3 n3;generalize ZX Vv h2 .st=wL at T3 K3 E3 m3;have XJ:=T3.o;have j9:=Qc XJ;have QEO:=Qc NG;have DT:=Qc j7;have BN:n<=h3.length:=KZ hn K3.len;apply XF hb;apply Va [8] hb [0,1,2,3,4,5,6,7,1008] [];simp only[go_sem,Qa,XJ,j9,NG,QEO];refine Aw hb Qhu rfl ?_ (Qm8 E3 BN (by omega) (AW 0 S.Qh cls x)) rfl λd h4 hR=>?_
   ·simp only[go_sem,AW]
   obtain⟨rfl,E4,oM,st4⟩:=hR;have T4:=T3.step st4 (oJ T3.ap);have K4:=(K3.X8 hn).trans hn oM;have RI:h4[h.length+1]? = some _:=(oM.my _ DT m3).trans j7;have n4:QX YI h3 .no (h.length+1)=.no:=(Js DT).trans n3;have m4:ZX wL h3 .no (h.length+1)=.my:=(JN DT).trans m3;have WG:({ AW 0 S.Qh cls x with op:=(op:Int) }:Ev)=AW op S.Qh cls x:=rfl;rw[WG]at E4;generalize QX YI h3 .no=own4 at T4 E4 K4 oM n4;generalize ZX wL h3 .no=Kn at T4 E4 K4 oM m4;have Lm:=T4.o;have R9:=Qc Lm;have QcV:=Qc RI;have bV:n<=h4.length:=KZ hn K4.len;refine Zr hb ?_;simp only[go_sem,Qa,Lm,R9];have QEP:=Qm9 (T:=⟨_,_,_,_,T4⟩) hS' E4 bV (by simp;omega);refine Jh hb QhI QEP λd h5 hR=>?_;obtain⟨rfl,xI,SI,⟨_,_,_,_,T5⟩,E5,K5⟩:=hR;have hr5:h5[h.length+1]? = some _:=(K5.my _ QcV m4).trans RI;have n5:=(K5.s1 _ QcV).trans n4;have m5:=(K5.s2 _ QcV).trans m4;have Qnf:=Qc hr5;rw[WC]at E5;refine Qe hb ?_;simp only[go_sem,Qa,hr5,Qnf,Qs Qnf];exact⟨xI,SI,⟨_,_,_,_,T5.loc n5 (.inr m5) _⟩,E5.loc hr5 nofun nb.1 nb.2 _,(K4.trans hn K5).Fi (by omega) (by omega) _⟩
  ·have e:X3 S op x=⟨{ S with M:=Jr S.M S.Qh cls x },⟨err,0,cls⟩,[]⟩:=by unfold X3;rw[Qd (by rw[<- LL];exact h0),Qd (by rw[<- LL,<- SH];exact he),<- LL,<- SH]
   have R5:(err != 0)=true:=by simpa using he
   rw[e];simp only[go_sem,Qa,R5,Jp,Yp,Qs Yp];exact⟨JC,Vv,⟨_,_,_,_,T2.loc n2 (.inr m2) _⟩,E2.loc Jp nofun nb.1 nb.2 _,(K2.X8 hn).Fi (by omega) (by omega) _⟩
def z6.cC{own}{h}{p}{M}(C:z6 own h p M)(j:Int):(Zn M j).length<=64:=by
 unfold Zn QD;cases hn:Ql M.N j with
 | none=>exact Z7 _
 | some n=>
  show n.q.l.length<=64;cases hl:n.c.leaf with
  | true=>
   obtain⟨L,c⟩:=C.ex;obtain⟨k,hk,r,Q⟩:=c.Wy j n hn hl;have:=Q.ring.Qat
   omega
  | false=>rw[C.V.wJ j n hn hl];exact Z7 _
def SJ(f:Qw->Nat)(b):∀l:List Qw,(∀c∈l,f c<=b)->(l.map f).sum<=l.length*b
 | [],_=>by simp
 | c::l,h=>by
  have h1:=h c (by simp);have h2:=SJ f b l λd hd=>h d (by simp[hd]);simp only[J7,List.sum_cons,Vh,VL,Nat.one_mul];omega
def z6.LM{own}{h}{p}{M}(C:z6 own h p M):Zo M<=4096:=by
 have h1:=SJ (λc=>(Zn M c.iD).length) 64 M.T λc _=>C.cC c.iD;have h2:=C.I.tree.len;unfold Zo;have h3:M.T.length*64<=64*64:=qN 64 h2;omega
def cD(S:Zf)(op now:Nat):(Z2 S op now).2.length<=1:=by
 unfold Z2;split
 ·exact Z7 _
 ·split
  ·exact QB _
  ·exact Z7 _
def Jw.QcX{n}{own own'}{tw ZK}{h H:List Ob}(D:Jw n own tw h own' ZK H){p}(hp:tw p=.sys)(o):Jw n own tw h own' ZK (H.set p o):=
 ⟨D.s1,D.s2,λj h1 h2 h3=>by rw[Qk (λe=>by rw[<- e,hp]at h3;cases h3)];exact D.keep j h1 h2 h3,λj h1 h2=>by rw[Qk (λe=>by rw[<- e,hp]at h2;cases h2)];exact D.my j h1 h2,by simpa using D.len⟩
structure Qng (n:Nat) (own:Nat->Tag) (tw:Nat->TT) (h:List Ob) (p:Nat) (S:Zf) (bp bo op e:Nat) (L:List Ev) (r k:Nat) (own':Nat->Tag) (ZK:Nat->TT) (H:List Ob) (S':Zf) (L':List Ev):Prop where
 T:Kj own' ZK H p S'
 V:ZV S'
 E:jF n own' ZK H bp bo op (L++L')
 K:Jw n own tw h own' ZK H
 hr:H[r]? = some ⟨.one,0,3,1,λ_=>[Qb 0,Qb 0,Qb 0]⟩
 nr:own' r=.no
 mr:ZK r=.my
 hk:Zo S'.M+k=Zo S.M
 cl:S'.Qh<=e
 go:Zz op e (Zo S.M+1) S=((Zz op e (Zo S'.M+1) S').1,L'++(Zz op e (Zo S'.M+1) S').2)
 ln:L'.length<=k
def QEQ{n}{own}{tw}{h:List Ob}{p}{S}(T:Kj own tw h p S)(V:ZV S){bp bo op}{L:List Ev}(E:jF n own tw h bp bo op L)(hn:n<=h.length)(hL:L.length<10000000)(Jn)(YT:Jn<18446744073709551616):
  QK prog 62 h [.ptr p 0 0 0,u64 Jn,.clo 58 0 [.ptr bp 0 0 0,.ptr bo 0 0 0]] (λd h'=>d=.agg (Yo S op Jn).r.cells/\∃own' ZK,Kj own' ZK h' p (Yo S op Jn).S/\jF n own' ZK h' bp bo op (L++(Yo S op Jn).l)/\Jw n own tw h own' ZK h'):=by
 obtain⟨ps,lp,pr,pt,T⟩:=T;have ZP:=V.cl;have nb:h.length≠bp/\h.length≠bo:=by
  obtain⟨d,h1,_⟩:=E.ho;have:=Qc h1;have:=Qc E.hp;omega
 have T1:=T.YK [⟨.one,0,3,1,λ_=>[Qb 0,Qb 0,Qb 0]⟩];have K1:=Jw.app (n:=h.length) own tw h [⟨.one,0,3,1,λ_=>[Qb 0,Qb 0,Qb 0]⟩] .my (QB _);have E1:=E.AY K1;have Vx:(h++[(⟨.one,0,3,1,λ_=>[Qb 0,Qb 0,Qb 0]⟩:Ob)])[h.length]? = some ⟨.one,0,3,1,λ_=>[Qb 0,Qb 0,Qb 0]⟩:=Kx rfl;have n1:QX own h .no h.length=.no:=Xb (QB _);have m1:ZX tw h .my h.length=.my:=zf (QB _);have ho:=T.o;have Qg:=Qc ho;have w1:IntKind.u64.wrap ((4611686018427387904:Int) - (S.Qh:Int))=((4611686018427387904 - S.Qh:Nat):Int):=by rw[IntKind.wrap_u64];omega
 by_cases h0:4611686018427387904 - S.Qh<Jn
 ·have e:Yo S op Jn=⟨S,⟨27,0,0⟩,[]⟩:=by unfold Yo;rw[Qf h0]
  rw[e];have d0:=Q5 h0;refine Q6 Qi 200 func62 rfl ntmps62 results62 rfl λbase w pl hb=>?_;have Qg:=Qc ho;simp only[go_sem,Qa,ho,Qg,w1,d0];exact⟨_,_,⟨_,_,_,_,T.YK _⟩,E.AY (Jw.app own tw h _ .my (QB _)),(Jw.app own tw h _ .my (QB _)).X8 hn⟩
 ·have d0:=QN h0;obtain⟨e,he⟩:∃e,e=S.Qh+Jn:=⟨_,rfl⟩;have w2:IntKind.u64.wrap ((S.Qh:Int)+(Jn:Int))=((e:Nat):Int):=by rw[IntKind.wrap_u64];omega
  have hA:Yo S op Jn=⟨(Zz op e (Zo S.M+1) S).1,⟨0,0,0⟩,(Zz op e (Zo S.M+1) S).2⟩:=by unfold Yo;rw[Qd h0,<- he]
  rw[hA];refine Q6 Qi 200 func62 rfl ntmps62 results62 rfl λbase w pl hb=>?_;have Qg:=Qc ho;simp only[go_sem,Qa,ho,Qg,w1,d0,w2];have A0:Qng n own tw h p S bp bo op e L h.length 0 (QX own h .no) (ZX tw h .my) (h++[(⟨.one,0,3,1,λ_=>[Qb 0,Qb 0,Qb 0]⟩:Ob)]) S []:=
   ⟨⟨_,_,_,_,T1⟩,V,by rw[QU];exact E1,K1.X8 hn,Vx,n1,m1,by omega,by omega,rfl,QB _⟩
  have QMx:=T.co.LM;refine Jg (λk s=>∃own' ZK H S' L',Qng n own tw h p S bp bo op e L h.length k own' ZK H S' L'/\s=⟨[(0,.ptr p 0 0 0),(2,.clo 58 0 [.ptr bp 0 0 0,.ptr bo 0 0 0]),(6,.ptr h.length 0 0 0),(7,u64 e)],H⟩) (Zo S.M) QQ ⟨_,_,_,S,[],A0,rfl⟩ ?_;clear A0 T1 K1 E1 Vx n1 m1;rintro k _ hk ⟨JC,Vv,H,S2,L2,A,rfl⟩;obtain⟨SK,SL,SM,SN,T2⟩:=A.T;have KJ:=T2.o;have YH:=Qc KJ;have N:=QcT ⟨SK,SL,SM,SN,T2⟩;obtain⟨nx,zd⟩:∃nx,nx=QP S2:=⟨_,rfl⟩;rw[<- zd]at N;have Jp:=A.hr;have Yp:=Qc Jp;have pb:p≠bp/\p≠bo:=⟨λe=>(by have h1:=T2.tp;rw[e,A.E.tp]at h1;cases h1),λe=>(by have h1:=T2.tp;rw[e,A.E.to]at h1;cases h1)⟩;have Fx:p≠h.length:=λe=>by have:=T.o;have:=Qc this;omega
  apply QC hb;refine ZN hb sW N λd hR=>?_;subst hR;refine Qe hb ?_;simp only[go_sem,Qa,KJ,YH];by_cases Qz:e<nx
  ·have d1:=Q5 Qz;have yf:Zz op e (Zo S2.M+1) S2=({ S2 with Qh:=e },[]):=by
    unfold Zz;rw[Qf (by rw[<- zd];exact Qz)]
   have hg:=A.go;rw[yf,QU]at hg;rw[hg];simp only[go_sem,Qa,d1,KJ,YH,Qk Fx,Jp,Yp,Qs];have hr9:(H.set p (kh SK SL SM SN e S2.ops))[h.length]? = some ⟨.one,0,3,1,λ_=>[Qb 0,Qb 0,Qb 0]⟩:=(Qk Fx).trans Jp;exact⟨JC,Vv,⟨_,_,_,_,(T2.clock e S2.ops).loc A.nr (.inr A.mr) _⟩,(A.E.loc KJ nofun pb.1 pb.2 _).loc hr9 nofun nb.1 nb.2 _,(A.K.QcX T.tp _).Fi hn (QB _) _⟩
  ·have d1:=QN Qz;have hle:QP S2<=e:=by omega
   obtain⟨V3,c1,c2,c3⟩:=Oj A.V op (by omega) hle;have yf:Zz op e (Zo S2.M+1) S2=((Zz op e (Zo S2.M) (Z2 { S2 with Qh:=QP S2 } op (QP S2)).1).1,(Z2 { S2 with Qh:=QP S2 } op (QP S2)).2++(Zz op e (Zo S2.M) (Z2 { S2 with Qh:=QP S2 } op (QP S2)).1).2):=by
    conv=>lhs;unfold Zz
    rw[Qd (by rw[<- zd];exact Qz)]
   have hg:=A.go;rw[yf,<- c1,<- WC]at hg;have Zk:=cD { S2 with Qh:=QP S2 } op (QP S2);subst zd;have T3:=T2.clock (QP S2) S2.ops;have V2:ZV { S2 with Qh:=QP S2,ops:=S2.ops }:=A.V.at_ c2 (by omega);have E3:=A.E.loc KJ nofun pb.1 pb.2 (kh SK SL SM SN (QP S2) S2.ops);have j7:(H.set p (kh SK SL SM SN (QP S2) S2.ops))[h.length]? = some _:=(Qk Fx).trans Jp;have K3:=A.K.QcX T.tp (kh SK SL SM SN (QP S2) S2.ops);have BN:n<=(H.set p (kh SK SL SM SN (QP S2) S2.ops)).length:=KZ hn K3.len;have Bx:=A.ln;have Ah:=A.hk;have P:=Qm9 (T:=⟨_,_,_,_,T3⟩) V2 E3 BN (by rw[Zj];omega);simp only[go_sem,Qa,d1,KJ,YH];refine Jh hb QhI P λd h5 hR=>?_;obtain⟨rfl,xI,SI,T5,E5,K5⟩:=hR;have DT:=Qc j7;apply QC hb;have QES:Zo (Z2 { S2 with Qh:=QP S2 } op (QP S2)).1.M+(k+1)=Zo S.M:=by omega
   have QET:(L2++(Z2 { S2 with Qh:=QP S2 } op (QP S2)).2).length<=k+1:=by rw[Zj];omega
   refine⟨by omega,_,Qp.frame (fr':=[(0,.ptr p 0 0 0),(2,.clo 58 0 [.ptr bp 0 0 0,.ptr bo 0 0 0]),(6,.ptr h.length 0 0 0),(7,u64 e)]) (by simp only[go_sem]),xI,SI,h5,_,L2++(Z2 { S2 with Qh:=QP S2 } op (QP S2)).2,⟨T5,V3,by rw[<- WC];exact E5,K3.trans hn K5,(K5.my _ DT A.mr).trans j7,(K5.s1 _ DT).trans A.nr,(K5.s2 _ DT).trans A.mr,QES,by rw[c3];exact hle,hg,QET⟩,rfl⟩
def Cg(tw:Nat->TT)(n:Nat):Nat->TT:=λl=>if l=n+2\/l=n+3 then .no else if n<=l then .my else tw l
def oN{tw}{n l}(h:l<n):Cg tw n l=tw l:=by unfold Cg;rw[Qd (by omega),Qd (by omega)]
def Qnh{tw}{n l}(h:l=n+2\/l=n+3):Cg tw n l=.no:=by unfold Cg;rw[Qf h]
def QEU{tw}{n l}(h:n<=l)(h2:l≠n+2)(h3:l≠n+3):Cg tw n l=.my:=by unfold Cg;rw[Qd (by omega),Qf h]
structure LN (S:Zf):Prop where
 ca:∀k,(S.st.Jv k).length<=S.ops
structure Hl (own:Nat->Tag) (tw:Nat->TT) (h:List Ob) (p:Nat) (op:Nat) (S':Zf) (L:List Ev) (r:qF) (own':Nat->Tag) (ZK:Nat->TT) (H:List Ob) (d:D):Prop where
 T:Kj own' ZK H p S'
 E:jF h.length own' ZK H (h.length+3) (h.length+2) op L
 K:Jw h.length own tw h own' ZK H
 CN:H[h.length+1]? = some ⟨.one,0,3,1,λ_=>[Qb 0,Qb 0,Qb 0]⟩
 hr:H[h.length+4]? = some ⟨.one,0,3,1,λ_=>r.cells⟩
 ho:H[h.length+2]? = some (Ce d)
 hs:WA (λl=>h.length<=l/\own' l=.no/\ZK l=.no/\l≠h.length+3/\l≠h.length+2) H 12 Ev.cells d L
 n1:own' (h.length+1)=.no
 m1:ZK (h.length+1)=.my
 n4:own' (h.length+4)=.no
 m4:ZK (h.length+4)=.my
def DoR(own:Nat->Tag)(tw:Nat->TT)(h:List Ob)(p:Nat)(Y:Fw)(d:D)(h':List Ob):Prop:=
 ∃dl own' ZK,d=.tup [.agg Y.r.cells,dl]/\Kj own' ZK h' p Y.S/\WA (λl=>h.length<=l/\own' l=.no/\ZK l=.no) h' 12 Ev.cells dl Y.l/\Jw h.length own tw h own' ZK h'
def Hl.done{own}{tw}{h}{p op}{S'}{L}{r}{own'}{ZK}{H}{d}(I:Hl own tw h p op S' L r own' ZK H d)(o):
  DoR own tw h p ⟨S',r,L⟩ (.tup [.agg r.cells,d]) (H.set (h.length+1) o):=by
 obtain⟨ps,lp,pr,pt,T⟩:=I.T;refine⟨d,own',ZK,rfl,⟨_,_,_,_,T.loc I.n1 (.inr I.m1) o⟩,I.hs.imp id λ⟨lo,g,row,h1,h2,h3,h4⟩=>⟨lo,g,row,h1,⟨h2.1,h2.2.1,h2.2.2.1⟩,by rw[Qk (X4 I.CN h3 (.inl nofun))];exact h3,h4⟩,I.K.Fi (by omega) (by omega) o⟩
def Hl.next{own}{tw}{h}{p op}{S'}{L}{r}{Ji}{Kw}{H}{d}(I:Hl own tw h p op S' L r Ji Kw H d){S2}{L2}{JC}{Vv}{H2}
  (T2:Kj JC Vv H2 p S2) (E2:jF h.length JC Vv H2 (h.length+3) (h.length+2) op L2) (K2:Jw h.length Ji Kw H JC Vv H2):∃d2,Hl own tw h p op S2 L2 r JC Vv H2 d2:=by
 obtain⟨d2,a1,a2⟩:=E2.ho;have l1:=Qc I.CN;have l4:=Qc I.hr;exact⟨d2,T2,E2,I.K.trans (QB _) K2,(K2.my _ l1 I.m1).trans I.CN,(K2.my _ l4 I.m4).trans I.hr,a1,a2,(K2.s1 _ l1).trans I.n1,(K2.s2 _ l1).trans I.m1,(K2.s1 _ l4).trans I.n4,(K2.s2 _ l4).trans I.m4⟩
def Hl.cE{own}{tw}{h:List Ob}{p op}{S'}{L}{r}{Ji}{Kw}{H:List Ob}{d}(I:Hl own tw h p op S' L r Ji Kw H d)(r2:qF):Hl own tw h p op S' L r2 Ji Kw (H.set (h.length+4) ⟨.one,0,3,1,λ_=>r2.cells⟩) d:=by
 obtain⟨ps,lp,pr,pt,T⟩:=I.T;exact⟨⟨_,_,_,_,T.loc I.n4 (.inr I.m4) _⟩,I.E.loc I.hr nofun (by omega) (by omega) _,I.K.Fi (by omega) (by omega) _,by rw[Qk (by omega)];exact I.CN,Qs (Qc I.hr),by rw[Qk (by omega)];exact I.ho,
  I.hs.imp id λ⟨lo,g,row,h1,h2,h3,h4⟩=>⟨lo,g,row,h1,h2,by rw[Qk (X4 I.hr h3 (.inl nofun))];exact h3,h4⟩,I.n1,I.m1,I.n4,I.m4⟩
def Fz{own}{tw}{h}{p}{S:Zf}(T:Kj own tw h p S)(V:ZV S)(hC:LN S)(jG:S.ops<1000000)(o:QZ)(ho:QZ.Ok o)(hc:o.changes.length<1000000)(Ku:o.rules.length<1000000):
  QK prog 16 h [.ptr p 0 0 0,.agg o.cells] (λd h'=>DoR own tw h p (QY S o) d h'):=by
 obtain⟨ps,lp,pr,pt,T⟩:=T;have hp:=T.o;have SF:=Qc hp;have QT:=JX (show S.ops<4611686018427387904 by omega);have eS:QY S o=JA { S with ops:=S.ops+1 } S.ops o:=rfl;rw[eS];obtain⟨S1,RK⟩:∃S1,S1={ S with ops:=S.ops+1 }:=⟨_,rfl⟩;have T0:WM own tw (h.set p (kh ps lp pr pt S.Qh (S.ops+1))) p ps lp pr pt { S with ops:=S.ops+1 }:=T.clock S.Qh (S.ops+1);rw[<- RK]at T0 ⊢;obtain⟨H,hH⟩:∃H,H=h.set p (kh ps lp pr pt S.Qh (S.ops+1))++[(⟨.one,0,10,1,λ_=>o.cells⟩:Ob),⟨.one,0,3,1,λ_=>[Qb 0,Qb 0,Qb 0]⟩,Ce .nil,Ce (Qb S.ops),⟨.one,0,3,1,λ_=>[Qb 1,Qb 0,Qb 0]⟩]:=⟨_,rfl⟩;have XX:(h.set p (kh ps lp pr pt S.Qh (S.ops+1))).length=h.length:=by simp
 have ne:∀l,l<h.length->(Cg tw h.length l)=tw l:=λl hl=>oN hl;have T1:WM (QX own h .no) (Cg tw h.length) H p ps lp pr pt S1:=by
  rw[hH];refine T0.step (λl hl=>⟨λ_=>⟨Js (by rw[<- XX];exact hl),Qx hl⟩,λ_ _=>⟨oN (by rw[<- XX];exact hl),Qx hl⟩⟩) λl hl=>?_;by_cases h1:l<h.length
  ·rw[oN h1]at hl;rw[Js h1];exact T.ap l hl
  ·exact Xb (by omega)
 have K1:Jw h.length own tw h (QX own h .no) (Cg tw h.length) H:=by
  rw[hH];refine⟨λl hl=>Js hl,λl hl=>oN hl,λl hl h1 h2=>?_,λl hl h1=>?_,by simp⟩
  ·rw[Qx (by rw[XX];exact hl),Qk (λe=>by rw[<- e,T.tp]at h2;cases h2)]
  ·rw[Qx (by rw[XX];exact hl),Qk (λe=>by rw[<- e,T.tp]at h1;cases h1)]
 have at_:∀k x,[(⟨.one,0,10,1,λ_=>o.cells⟩:Ob),⟨.one,0,3,1,λ_=>[Qb 0,Qb 0,Qb 0]⟩,Ce .nil,Ce (Qb S.ops),⟨.one,0,3,1,λ_=>[Qb 1,Qb 0,Qb 0]⟩][k]? = some x->H[h.length+k]? = some x:=λk x hk=>by
  rw[hH,Vr (k:=k) XX];exact hk
 have E1:jF h.length (QX own h .no) (Cg tw h.length) H (h.length+3) (h.length+2) S.ops []:=
  ⟨at_ 3 _ rfl,⟨.nil,at_ 2 _ rfl,.inl ⟨rfl,rfl⟩⟩,by omega,by omega,Xb (by omega),Xb (by omega),Qnh (.inr rfl),Qnh (.inl rfl),by omega⟩
 have ZI:H[h.length]? = some ⟨.one,0,10,1,λ_=>o.cells⟩:=at_ 0 _ rfl;have cF:=at_ 1 _ rfl;have cG:=at_ 2 _ rfl;have Vx:=at_ 4 _ rfl;have n1:∀i,h.length<=i->QX own h .no i=.no:=λi hi=>Xb hi;have m1:∀i,h.length<=i->i≠h.length+2->i≠h.length+3->Cg tw h.length i=.my:=λi hi h2 h3=>QEU hi h2 h3;clear at_ ne XX;generalize Gk:QX own h .no=Ji at T1 K1 E1 n1;generalize SO:Cg tw h.length=Kw at T1 K1 E1 m1;have Ys:=T1.o;have QcY:=Qc Ys;have KP:=Qc ZI;have Qnj:=Qc cF;have Qnk:=Qc cG;have Y6:=Qc Vx;have QMy:S1.Qh=S.Qh:=by rw[RK]
 have V1:ZV S1:=by rw[RK];exact V.ops _
 have KX:h.length<=H.length:=K1.len;refine Q6 Qi 200 func16 rfl ntmps16 results16 rfl λbase w pl hb=>?_;have SF:=Qc hp;simp only[go_sem,Qa,hp,SF,QT];simp only[go_sem]at hH ZI Vx cF cG;rw[<- hH];clear hH;have SP:h.length+1≠h.length+2:=by omega
 have cH:h.length+4≠h.length+2:=by omega
 have cI:h.length+4≠h.length+1:=by omega
 have I0:Hl own tw h p S.ops S1 [] ⟨1,0,0⟩ Ji Kw H .nil:=⟨⟨_,_,_,_,T1⟩,E1,K1,cF,Vx,cG,.inl ⟨rfl,rfl⟩,n1 _ (by omega),m1 _ (by omega) (by omega) (by omega),n1 _ (by omega),m1 _ (by omega) (by omega) (by omega)⟩;obtain⟨Eu,⟨_,B4⟩,⟨_,hru⟩,hpk,YT,_⟩:=ho;by_cases k1:o.kind=1
 ·have b1:(o.kind==1)=true:=by simpa using k1
  obtain⟨la,lb,lc,ZB⟩:=T1.ln;have F:=QcI (Z3 ZB) S1.Qh;obtain⟨bf,hbf⟩:∃b,b=decide (S1.JI<=S1.Qh):=⟨_,rfl⟩;have e:JA S1 S.ops o=⟨{ S1 with M:=Ke S1.M bf o.changes },⟨zX S1.M bf o.changes,AQ S1.M o.changes,0⟩,[]⟩:=by unfold JA;rw[Qf k1,<- hbf]
  rw[e];rw[<- hbf]at F;have C:=QDN T1.co bf o.changes B4 hc;obtain⟨ce,hce⟩:∃x,x=zX S1.M bf o.changes:=⟨_,rfl⟩;obtain⟨ca,oH⟩:∃x,x=AQ S1.M o.changes:=⟨_,rfl⟩;rw[<- hce,<- oH]at C ⊢;simp only[go_sem,Qa,b1];apply Va [15] hb [0,1,2,3,4,5,6,7,8,9,10,11,13,14,1012,1015,16,17,18,19,20] [];simp only[go_sem,Qa,Ys,QcY,ZI,KP];refine Yh hb iP F λd hR=>?_;subst hR;refine Zr hb ?_;simp only[go_sem,Qa,Ys,QcY,ZI,KP];refine xv hb QuA C λd h2 hR=>?_;obtain⟨rfl,JC,C2,D2⟩:=hR;have T2:=T1.core D2 C2 (Sy S1.M bf o.changes);have K2:Jw H.length Ji Kw H JC (ZX Kw H .no) h2:=Jw.core T1.ap (QB _) D2;obtain⟨d2,I2⟩:=I0.next ⟨_,_,_,_,T2⟩ (E1.AY K2) (K2.X8 KX);have I:=I2.cE ⟨ce,ca,0⟩;have Jp:=I2.hr;have Yp:=Qc Jp;have Jb:=I2.ho;have wG:=Qc Jb;have JL:=I2.CN;have B8:=Qc JL;refine Zr hb ?_;simp only[go_sem,Qa,Jp,Yp];apply Va [] hb [0] [1,2,3];simp only[go_sem,Qa,Jp,Yp,Jb,wG,JL,B8,Qs,Qk SP,Qk cH,Qk cI];exact⟨I.done _,I.done _⟩
 have b1:(o.kind==1)=false:=by simpa using k1
 by_cases k2:o.kind=2
 ·have b2:(o.kind==2)=true:=by simpa using k2
  have R:=Qm5 H o.rules Ku;by_cases Lg:qE o.rules=0
  ·have e:JA S1 S.ops o=⟨{ S1 with R:=o.rules },⟨0,0,0⟩,[]⟩:=by unfold JA;rw[Qd k1,Qf k2,Qf Lg]
   rw[e];simp only[go_sem,Qa,b1,b2,ZI,KP];refine Jh hb sU R λd h2 hR=>?_;obtain⟨g,rfl,On,_⟩:=hR;obtain⟨p2,rfl,hT⟩:=On Lg;have T2:=T1.rules hT;have oO:(H++g)[p]? = some _:=(Qx QcY).trans Ys;have Qnn:=Qc oO;have K2:Jw H.length Ji Kw H (QX Ji H .no) (ZX Kw H .LI) (H++g):=Jw.app Ji Kw H g .LI (QB _);have E2:=(E1.AY K2).loc oO nofun (by have:=Qc T.o;omega) (by have:=Qc T.o;omega) (kh ps lp p2 pt S1.Qh S1.ops);obtain⟨d2,I2⟩:=I0.next ⟨_,_,_,_,T2⟩ E2 ((K2.X8 KX).QcX T1.tp _);have I:=I2.cE ⟨0,0,0⟩;have Jp:=I2.hr;have Yp:=Qc Jp;have Jb:=I2.ho;have wG:=Qc Jb;have JL:=I2.CN;have B8:=Qc JL;have Zk:=Qc T.o;have p4:p≠h.length+4:=by omega
   have p2':p≠h.length+2:=by omega
   have p1':p≠h.length+1:=by omega
   have By:(H++g)[h.length+4]? = some _:=(Qx Y6).trans Vx;have tt:(H++g)[h.length+2]? = some _:=(Qx Qnk).trans cG;have hsg:(H++g)[h.length+1]? = some _:=(Qx Qnj).trans cF;have Qc1:=Qc By;have Qnq:=Qc tt;have Qnr:=Qc hsg;have KN:d2=.nil:=by
    have h5:=I2.ho;rw[Qk p2',tt]at h5;simp only[Ce,Za,Ob.mk.injEq,Bd]at h5;have:=congrFun h5 0;simp only[Mh,and_true]at this;exact this.symm
   rw[KN]at I;have x4:h.length+4<H.length+g.length:=by have:=Qc1;simpa using this
   have x2:h.length+2<H.length+g.length:=by have:=Qnq;simpa using this
   have x1:h.length+1<H.length+g.length:=by have:=Qnr;simpa using this
   refine Qe hb ?_;simp only[go_sem,Qa,oO,Qnn,Qk p4,By,Qc1,Qs];apply Va [] hb [0] [1,2,3];simp only[go_sem,Qa,x4,x2,x1,oO,Qnn,Qk p4,Qk p2',Qk p1',By,Qc1,tt,Qnq,hsg,Qnr,Qs,Qk SP,Qk cH,Qk cI];exact⟨I.done _,I.done _⟩
  ·have e:JA S1 S.ops o=⟨S1,⟨qE o.rules,0,0⟩,[]⟩:=by unfold JA;rw[Qd k1,Qf k2,Qd Lg]
   have Qns:(qE o.rules==0)=false:=by simpa using Lg
   rw[e];obtain⟨re,QEY⟩:∃x,x=qE o.rules:=⟨_,rfl⟩;rw[<- QEY]at R Qns Lg ⊢;simp only[go_sem,Qa,b1,b2,ZI,KP];refine Jh hb sU R λd h2 hR=>?_;obtain⟨g,rfl,_,On⟩:=hR;have hd:=On Lg;subst hd;have K2:Jw H.length Ji Kw H (QX Ji H .no) (ZX Kw H .my) (H++g):=Jw.app Ji Kw H g .my (QB _);obtain⟨d2,I2⟩:=I0.next ⟨_,_,_,_,T1.YK g⟩ (E1.AY K2) (K2.X8 KX);have I:=I2.cE ⟨re,0,0⟩;have Jp:=I2.hr;have Yp:=Qc Jp;have Jb:=I2.ho;have wG:=Qc Jb;have JL:=I2.CN;have B8:=Qc JL;have x4:h.length+4<H.length+g.length:=by have:=Yp;simpa using this
   have x2:h.length+2<H.length+g.length:=by have:=wG;simpa using this
   have x1:h.length+1<H.length+g.length:=by have:=B8;simpa using this
   refine Qe hb ?_;simp only[go_sem,Qa,Qns,Jp,Yp];apply Va [] hb [0] [1,2,3];simp only[go_sem,Qa,x4,x2,x1,Jp,Yp,Jb,wG,JL,B8,Qs,Qk SP,Qk cH,Qk cI];exact⟨I.done _,I.done _⟩
 have b2:(o.kind==2)=false:=by simpa using k2
 by_cases k3:o.kind=3
 ·have b3:(o.kind==3)=true:=by simpa using k3
  have e:JA S1 S.ops o=X3 S1 S.ops o.Zw:=by unfold JA;rw[Qd k1,Qd k2,Qf k3]
  rw[e];obtain⟨DS,SG,cB,LO⟩:cu o.Zw:=by
   obtain⟨_,_,a0,a1,a2,a3,_⟩:=hpk;have:=wf_u16 a0;have:=wf_u16 a1;have:=wf_u16 a2;have:=wf_u16 a3;exact⟨⟨by omega,by omega⟩,⟨by omega,by omega⟩,⟨by omega,by omega⟩,⟨by omega,by omega⟩⟩
  have P:=QEK ⟨_,_,_,_,T1⟩ V1 E1 KX (by simp) (λk=>by rw[RK];have:=hC.ca k;show (S.st.Jv k).length<1000000;omega) o.Zw ⟨DS,SG,cB,LO⟩;obtain⟨Y,hY⟩:∃Y,Y=X3 S1 S.ops o.Zw:=⟨_,rfl⟩;rw[<- hY]at P ⊢;simp only[go_sem,Qa,b1,b2,b3,ZI,KP];refine Jh hb QuB P λd h2 hR=>?_;obtain⟨rfl,JC,Vv,T2,E2,K2⟩:=hR;rw[zo]at E2;obtain⟨d2,I2⟩:=I0.next T2 E2 K2;have I:=I2.cE Y.r;have Jp:=I2.hr;have Yp:=Qc Jp;have Jb:=I2.ho;have wG:=Qc Jb;have JL:=I2.CN;have B8:=Qc JL;refine Qe hb ?_;simp only[go_sem,Qa,Jp,Yp];apply Va [] hb [0] [1,2,3];simp only[go_sem,Qa,Jp,Yp,Jb,wG,JL,B8,Qs,Qk SP,Qk cH,Qk cI];exact⟨I.done _,I.done _⟩
 have b3:(o.kind==3)=false:=by simpa using k3
 by_cases k4:o.kind=4
 ·have b4:(o.kind==4)=true:=by simpa using k4
  have e:JA S1 S.ops o=Yo S1 S.ops o.Jn.toNat:=by unfold JA;rw[Qd k1,Qd k2,Qd k3,Qf k4]
  rw[e];have hw:=wf_u64 YT;have P:=QEQ ⟨_,_,_,_,T1⟩ V1 E1 KX (by simp) o.Jn.toNat (by omega);obtain⟨Y,hY⟩:∃Y,Y=Yo S1 S.ops o.Jn.toNat:=⟨_,rfl⟩;rw[<- hY,show u64 o.Jn.toNat=.raw (.int .u64 o.Jn) by show D.raw (.int .u64 (o.Jn.toNat:Int))=_;rw[Ea hw.1]]at P;rw[<- hY];simp only[go_sem,Qa,b1,b2,b3,b4,ZI,KP];refine Jh hb QuC P λd h2 hR=>?_;obtain⟨rfl,JC,Vv,T2,E2,K2⟩:=hR;rw[zo]at E2;obtain⟨d2,I2⟩:=I0.next T2 E2 K2;have I:=I2.cE Y.r;have Jp:=I2.hr;have Yp:=Qc Jp;have Jb:=I2.ho;have wG:=Qc Jb;have JL:=I2.CN;have B8:=Qc JL;refine Qe hb ?_;simp only[go_sem,Qa,Jp,Yp];apply Va [] hb [0] [1,2,3];simp only[go_sem,Qa,Jp,Yp,Jb,wG,JL,B8,Qs,Qk SP,Qk cH,Qk cI];exact⟨I.done _,I.done _⟩
 have b4:(o.kind==4)=false:=by simpa using k4
 have e:JA S1 S.ops o=⟨S1,⟨1,0,0⟩,[]⟩:=by unfold JA;rw[Qd k1,Qd k2,Qd k3,Qd k4]
 rw[e];simp only[go_sem,Qa,b1,b2,b3,b4];apply Va [] hb [0] [1,2,3];simp only[go_sem,Qa,Vx,Y6,cG,Qnk,cF,Qnj,Qs,Qk SP];exact⟨I0.done _,I0.done _⟩
def QEZ(h:List Ob):QK prog 56 h [.nil] (λd h'=>∃g p,h'=h++g/\d=.tup [.ptr p 0 0 0,Qb 0]/\LJ (λj=>h.length<=j) (h++g) p []):=
 (QK.PQ (cs':=[.nil]) (Qm5 h [] (by decide)) ⟨rfl,trivial⟩).mono λd h' ⟨g,h1,h2,_⟩=>by
  obtain⟨p,h3,h4⟩:=h2 rfl;exact⟨g,p,h1,h3,h4⟩
def zg.fresh(h:List Ob)(S)(hS:∀j,h.length<=j->S j):zg S (h++[QS .i64 0 [],QS .i64 0 [],ox h.length (h.length+1)]) (h.length+2) ⟨λ_=>[],λ_=>default⟩:=
 ⟨h.length,h.length+1,0,[],0,[],Vr (k:=2) rfl,Kx rfl,Vr (k:=1) rfl,by omega,hS _ (by omega),hS _ (by omega),hS _ (by omega),λk=>.inl ⟨rfl,rfl⟩,λk k' lo g off n g' jg n' h1=>(by cases h1),λk=>rfl⟩
def cJ{own}{tw}(ap:∀l,tw l≠.no->own l=.no)(h){c}(K:XK c):
  QK prog 15 h [.agg c.cells] (λd h'=>∃own' ZK p,d=.tup [.ptr p 0 0 0,Qb 0]/\Kj own' ZK h' p (S0 c)/\Jw h.length own tw h own' ZK h'):=by
 have ZI:(h++[(⟨.one,0,2,1,λ_=>c.cells⟩:Ob)])[h.length]? = some ⟨.one,0,2,1,λ_=>c.cells⟩:=Kx rfl;have hN:=QDO (QX own h .no) (h++[(⟨.one,0,2,1,λ_=>c.cells⟩:Ob)]) K;have K1:=Jw.app own tw h [(⟨.one,0,2,1,λ_=>c.cells⟩:Ob)] .no (QB _);have SQ:=oJ (h:=h) ap;have n1:QX own h .no h.length=.no:=Xb (QB _);refine Q6 Qi 200 func15 rfl ntmps15 results15 rfl λbase w pl hb=>?_;simp only[go_sem,Qa];obtain⟨h1,DS⟩:∃x,x=h++[(⟨.one,0,2,1,λ_=>c.cells⟩:Ob)]:=⟨_,rfl⟩;rw[<- DS]at ZI hN K1;simp only[go_sem]at DS;rw[<- DS];clear DS;have KP:=Qc ZI;generalize QX own h .no=Ji at hN K1 SQ n1;generalize ZX tw h .no=Kw at K1 SQ;refine Jh hb Qux hN λd h2 hR=>?_;obtain⟨JC,ps,rfl,C2,D2⟩:=hR;have K2:=K1.trans (QB _) ((Jw.core SQ (QB _) D2).X8 K1.len);have KJ:h2[h.length]? = some _:=(D2.keep _ KP n1).trans ZI;have YH:=Qc KJ;refine Qe hb ?_;simp only[go_sem,Qa,KJ,YH];refine qZ hb Quy (QEj h2 K.t1 K.t2) λd h hR=>?_;obtain⟨rfl,rfl⟩:=hR;apply QC hb;refine Jh hb sU (QEZ _) λd h4 hR=>?_;obtain⟨g,pr,LO,rfl,Tb⟩:=hR;apply QC hb;refine Jh hb Quz (QEs h4) λd h5 hR=>?_;obtain⟨rfl,hh5⟩:=hR;apply QC hb;have LO:h4=(h2++[kj 0 0 0 c.t 0])++g:=LO;have Tb:LJ (λj=>(h2++[kj 0 0 0 c.t 0]).length<=j) ((h2++[kj 0 0 0 c.t 0])++g) pr []:=Tb;rw[<- LO]at Tb;have l3:(h2++[kj 0 0 0 c.t 0]).length=h2.length+1:=by simp
 rw[l3]at Tb;have l4:h2.length+1<=h4.length:=by rw[LO,Zj,l3];omega
 have l5:h5.length=h4.length+3:=by rw[hh5];simp
 have e4:∀l,l<h2.length->h4[l]? = h2[l]? := λl hl=>by rw[LO,WC,Qx hl]
 have e5:∀l,l<h4.length->h5[l]? = h4[l]? := λl hl=>by rw[hh5,Qx hl]
 have Bx:h4[h2.length]? = some (kj 0 0 0 c.t 0):=by rw[LO,WC];exact Kx rfl
 have ZF:zg (λl=>h4.length<=l) h5 (h4.length+2) ⟨λ_=>[],λ_=>default⟩:=by rw[hh5];exact zg.fresh h4 _ λ_ h=>h
 obtain⟨H,hH⟩:∃H,H=h5++[kh ps h2.length pr (h4.length+2) 0 0]:=⟨_,rfl⟩;have e6:∀l,l<h5.length->H[l]? = h5[l]? := λl hl=>by rw[hH,Qx hl]
 have hp:H[h5.length]? = some (kh ps h2.length pr (h4.length+2) 0 0):=by rw[hH];exact Kx rfl
 obtain⟨LP,SO⟩:∃t:Nat->TT,t=λl=>if l<h2.length then ZX Kw h1 .no l else if l=h2.length then .ln else if l<h4.length then .LI else if l<h5.length then .st else if l=h5.length then .sys else .no:=⟨_,rfl⟩;have t0:∀l,l<h2.length->LP l=ZX Kw h1 .no l:=λl hl=>by rw[SO];dsimp only;rw[Qf hl]
 have t1:LP h2.length=.ln:=by rw[SO];dsimp only;rw[Qd (by omega),Qf rfl]
 have t2:∀l,h2.length+1<=l->l<h4.length->LP l=.LI:=λl h1 h2=>by rw[SO];dsimp only;rw[Qd (by omega),Qd (by omega),Qf h2]
 have t3:∀l,h4.length<=l->l<h5.length->LP l=.st:=λl h1 h2=>by rw[SO];dsimp only;rw[Qd (by omega),Qd (by omega),Qd (by omega),Qf h2]
 have t4:LP h5.length=.sys:=by rw[SO];dsimp only;rw[Qd (by omega),Qd (by omega),Qd (by omega),Qd (by omega),Qf rfl]
 have X:WM (QX JC h2 .no) LP H h5.length ps h2.length pr (h4.length+2) (S0 c):=by
  refine⟨hp,t4,C2.step λl hl _=>⟨Js hl,by rw[e6 l (by omega),e5 l (by omega),e4 l hl]⟩,⟨0,0,0,?_⟩,t1,Tb.step λj hj h1=>⟨t2 j h1 hj,by rw[e6 j (by omega),e5 j hj]⟩,ZF.step λj hj h1=>⟨t3 j h1 hj,e6 j hj⟩,λl hl=>?_⟩
  ·rw[e6 _ (by omega),e5 _ (by omega)];exact Bx
  ·by_cases h6:l<h2.length
   ·rw[t0 l h6]at hl;rw[Js h6];by_cases h7:l<h1.length
    ·rw[JN h7]at hl;rw[D2.same l h7];exact SQ l hl
    ·rw[zf (by omega)]at hl;exact absurd rfl hl
   ·exact Xb (by omega)
 have KH:Jw h.length own tw h (QX JC h2 .no) LP H:=by
  have hle:=K2.len;exact⟨λl hl=>by rw[Js (by omega)];exact K2.s1 l hl,λl hl=>by rw[t0 l (by omega)];exact K2.s2 l hl,λl hl h1 h2=>by rw[e6 l (by omega),e5 l (by omega),e4 l (by omega)];exact K2.keep l hl h1 h2,λl hl h1=>by rw[e6 l (by omega),e5 l (by omega),e4 l (by omega)];exact K2.my l hl h1,by rw[hH];simp;omega⟩
 subst hH;exact⟨_,LP,_,rfl,⟨_,_,_,_,X⟩,KH⟩
end Go.Fg.X
namespace Go.Fg.X
open Go.Proofs Go.Fg
open Go.RowKit (Below)
open Go.Proofs.Tryz
def Oo{P}{f}{args}{R}(d2:D)(hu:d2.upto 0=true)
  (hd:∀d hh,R d hh->J3 6 d d2\/(∃lo g sz n row,hh[lo]? = some ⟨.arr,g,sz,n,row⟩/\(∀i,i<n->(row i).all D.WS=true)/\J3 6 (D.fz lo g n sz row d) d2) \/
   ∃lo g sz n row DU g' Oq n' KO,hh[lo]? = some ⟨.arr,g,sz,n,row⟩/\hh[DU]? = some ⟨.arr,g',Oq,n',KO⟩/\DU≠lo/\(∀i,i<n->(row i).all D.WS=true)/\(∀i,i<n'->(KO i).all D.WS=true)/\J3 6 (D.fz DU g' n' Oq KO (D.fz lo g n sz row d)) d2) (h:Q4 P f args R):Q4 P f args (Qn d2):=by
 intro Z base w pl vs h1 h2 h3 hl hc;have Zk:pl=[]:=by have:=h3.len;simpa using this
 subst Zk;refine(h Z base w [] vs h1 h2 h3 hl hc).mono λe w' he=>?_;obtain⟨v,d,hh,Qm,rfl,hR,hO,hV,hT,hB⟩:=he;suffices fin:QE Z [] [] w' d2 v by
  exact⟨v,_,[],[],rfl,⟨rfl,rfl⟩,Zv.nil,fin,⟨λb hb Qc=>⟨hb,(hT.KE b hb Qc).2⟩,λl o p e=>by simp at e,λl o o' b q e=>by simp at e⟩,hB⟩
 rcases hd _ _ hR with hle|⟨lo,g,sz,n,row,Zm,ZP,hle⟩|⟨lo,g,sz,n,row,DU,g',Oq,n',KO,Zm,Qc3,QE0,ZP,Qnt,hle⟩
 ·exact(yj 6 hle hV).take hu
 ·have Qc:lo<Qm.length:=by rw[hO.len];exact(Xd.1 Zm).1
  obtain⟨p,hp⟩:∃p,Qm[lo]? = some p:=⟨_,QW Qc⟩;have yD:=hV.fz (l:=lo) (o:=⟨.arr,g,sz,n,row⟩) (p:=p) Zm hp rfl (λb q e=>by
   subst e;refine⟨h2 b ?_,λl' q' e'=>?_,(hO.at_ lo _ b q Zm hp).2.cells rfl⟩
   ·rcases Bb b w.heap.size with Qc|XP
    ·exact absurd hp ((hT.KE b (λi q e=>by simp at e) Qc).1 lo q)
    ·exact XP
   ·exact hO.inj _ _ _ _ _ e' hp) ZP (h':=hh.set lo (Ob.gone ⟨.arr,g,sz,n,row⟩)) (λl' o' Qz e=>by
   exact⟨o',by rw[JJ (Q8 Qz)];exact e,rfl,rfl,rfl⟩)
  exact(yj 6 hle yD).take hu
 ·have pos:∀{lo:Nat} {o:Ob},hh[lo]? = some o->∃p,Qm[lo]? = some p:=λ{lo o} Zm=>by
   have Qc:lo<Qm.length:=by rw[hO.len];exact(Xd.1 Zm).1
   exact⟨_,QW Qc⟩
  have zb:∀{lo b q:Nat},Qm[lo]? = some (some (b,q))->Z b:=λ{lo b q} hp=>h2 b (by
   rcases Bb b w.heap.size with Qc|XP
   ·exact absurd hp ((hT.KE b (λi q e=>by simp at e) Qc).1 lo q)
   ·exact XP)
  obtain⟨p,hp⟩:=pos Zm;obtain⟨p',Jl⟩:=pos Qc3;have r1:=hV.fz (l:=lo) (o:=⟨.arr,g,sz,n,row⟩) (p:=p) Zm hp rfl (λb q e=>by
   subst e;exact⟨zb hp,λl' q' e'=>hO.inj _ _ _ _ _ e' hp,(hO.at_ lo _ b q Zm hp).2.cells rfl⟩) ZP (h':=hh) (λl' o' Qz e=>⟨o',e,rfl,rfl,rfl⟩)
  have Zk:∀(l':Nat),l'≠lo->(Qm.set lo none)[l']? = Qm[l']? := λl' qh=>by rw[JJ (Q8 qh)]
  have Qz:DU≠lo:=QE0;have r2:=r1.fz (l:=DU) (o:=⟨.arr,g',Oq,n',KO⟩) (p:=p') Qc3 ((Zk _ Qz).trans Jl) rfl (λb q e=>by
   subst e;refine⟨zb Jl,λl' q' e'=>?_,?_⟩
   ·by_cases e1:l'=lo
    ·subst e1;rw[Wm (Wq hp)]at e';cases e'
    ·rw[Zk _ e1]at e';exact hO.inj _ _ _ _ _ e' Jl
   ·obtain⟨c,el,c1,c2,c3,c4⟩:=(hO.at_ DU _ b q Qc3 Jl).2.cells rfl;refine⟨c,el,c1,c2,c3,λi j hi hj=>?_⟩;obtain⟨v,hv,hr⟩:=c4 i j hi hj;have h5:=Qnt i hi;rw[X6]at h5;have h6:j<(KO i).length:=by rw[c3 i hi];exact hj
    have h7:(nth (KO i) j).WS=true:=h5 _ (by
     simp only[nth,Ze,QW h6,KA];exact qK h6)
    exact⟨v,hv,.cl _ _ ((CO hr h7).mono (N':=free Z (Qm.set lo none)) (w':=w') λb hb _=>⟨⟨hb.1,λl q e=>by
     by_cases e1:l=lo
     ·subst e1;rw[Wm (Wq hp)]at e;cases e
     ·rw[Zk _ e1]at e;exact hb.2 l q e⟩,rfl⟩)⟩) Qnt (h':=hh) (λl' o' Qz e=>⟨o',e,rfl,rfl,rfl⟩)
  exact(yj 6 hle r2).take hu
end Go.Fg.X
namespace Go.Fg.X
open Go.Proofs Go.Fg
open Go.Proofs.Tryz
def Qc4(u)(a b):∀fr:List (Nat × D),put (put fr u a) u b=put fr u b
 | []=>by simp[put]
 | (t,e)::r=>by
  cases h:Nat.beq t u with
  | true=>simp[put,h]
  | false=>simp[put,h,Qc4 u a b r]
def Qnu{α:Type}[Inhabited α]{w0:Start}(hF:w0.F=[])(hp:w0.pl=[]){S:Nat->Prop}{sz:Nat}{f:α->List D}(hf:∀a,(f a).all D.WS=true){fr:List (Nat × D)}{h:List Ob}{d:D}{L:List α}(t:Nat)(ht:get fr t=d)(hS:WA S h sz f d L):
  ∃row h',Qp w0 ⟨fr,h⟩ ⟨put fr t (.imm sz L.length row),h'⟩/\(∀i,i<L.length->row i=f (L.getD i default))/\h.length<=h'.length/\∀l,l<h.length->¬S l->h'[l]? = h[l]? := by
 have XX:w0.pl.length=w0.F.length:=by rw[hF,hp];rfl
 have hg:∀h:List Ob,l9 w0.F h:=λh l o e=>by rw[hF]at e;simp at e
 have hz:∀n,w0.F.length<=n:=λn=>by rw[hF];exact Z7 _
 rcases hS with ⟨rfl,rfl⟩|⟨lo,g,row,rfl,Qc5,Aq,BR⟩
 ·refine⟨rowFrom 0 (λ_=>[]),h++[(⟨.arr,0,sz,0,λ_=>[]⟩:Ob).gone],?_,λi hi=>absurd hi (Vw i),by simp,λl hl Qz=>Qx hl⟩;have W1:=Qp.bY (w0:=w0) (h:=h) t sz ht;have W2:=Qp.IL XX (hg _) t h.length (hz _) (fr:=put fr t (.ref h.length 0 0 0)) (h:=h++[(⟨.arr,0,sz,0,λ_=>[]⟩:Ob)]) (o:=⟨.arr,0,sz,0,λ_=>[]⟩) (off:=0) (len:=0) (by rw[FT,Qf rfl]) (Kx rfl) (QB 0) rfl (λi hi=>absurd hi (Vw i));rw[Qc4,UA rfl]at W2;exact Qp.trans W1 W2
 ·refine⟨rowFrom 0 row,_,Qp.IL XX (hg _) t lo (hz _) ht Aq (by show 0+L.length<=L.length;omega) rfl (λi hi=>?_),λi hi=>?_,by simp,λl hl Qz=>?_⟩
  ·show (row i).all D.WS=true;rw[BR i hi];exact hf _
  ·rw[Ip,JV,BR i hi]
  ·exact Qk λe=>Qz (by rw[<- e];exact Qc5)
def Kj.cK{own}{tw}{h h':List Ob}{p}{S}(T:Kj own tw h p S)(hl:h.length<=h'.length)(e:∀l,l<h.length->¬(own l=.no/\tw l=.no)->h'[l]? = h[l]?):Kj (QX own h .no) (ZX tw h .no) h' p S:=by
 obtain⟨ps,lp,pr,pt,T⟩:=T;exact⟨_,_,_,_,T.step (λl Qc=>⟨λhv=>⟨Js Qc,e l Qc λh1=>hv.1 h1.1⟩,λhv _=>⟨JN Qc,e l Qc λh1=>hv h1.2⟩⟩) (oJ T.ap)⟩
structure QZ.Small (o:QZ):Prop where
 c:o.changes.length<1000000
 r:o.rules.length<1000000
def Qnv(S:Zf)(op now:Nat)(k:Int):((Z2 S op now).1.st.Jv k).length<=(S.st.Jv k).length:=by
 have hw:∀(s:Fv) (cls:Int) (done:Nat) (bytes:Int) (real:Bool),((qC s cls done bytes real).Jv k).length<=(s.Jv k).length:=λs cls done bytes real=>by
  unfold qC;cases hc:s.Jv cls with
  | nil=>exact QB _
  | cons a l=>
   dsimp only;split
   ·exact QB _
   ·split
    ·exact QB _
    ·dsimp only;split
     ·rename_i e;rw[e,hc];simp
     ·exact QB _
 unfold Z2;split
 ·exact QB _
 ·split
  ·exact hw _ _ _ _ _
  ·exact QB _
def Qnw(op e)(k:Int):∀(n:Nat) (S:Zf),((Zz op e n S).1.st.Jv k).length<=(S.st.Jv k).length
 | 0,S=>QB _
 | n+1,S=>by
  unfold Zz;split
  ·exact QB _
  ·exact KZ (Qnw op e k n _) (Qnv { S with Qh:=QP S } op (QP S) k)
def LN.do{S}(C:LN S)(o:QZ):LN (QY S o).S:=by
 refine⟨λk=>?_⟩;rw[Oi];have hk:=C.ca k;show ((JA { S with ops:=S.ops+1 } S.ops o).S.st.Jv k).length<=S.ops+1;unfold JA;split
 ·show (S.st.Jv k).length<=_;omega
 ·split
  ·split<;>(show (S.st.Jv k).length<=_;omega)
  ·split
   ·unfold X3;split
    ·show (S.st.Jv k).length<=_;omega
    ·split
     ·refine KZ (Qnv _ _ _ k) ?_;show (if k=_ then S.st.Jv k++[S.Qh] else S.st.Jv k).length<=_;split
      ·rw[Zj];show _+1<=_;omega
      ·omega
     ·show (S.st.Jv k).length<=_;omega
   ·split
    ·unfold Yo;split
     ·show (S.st.Jv k).length<=_;omega
     ·exact KZ (Qnw _ _ k _ _) (by show (S.st.Jv k).length<=_;omega)
    ·show (S.st.Jv k).length<=_;omega
def Kj.Ot{own}{tw}{h h':List Ob}{p}{S}(T:Kj own tw h p S)(e:∀l,l<h.length->¬(own l=.no/\(tw l=.no\/tw l=.my))->h'[l]? = h[l]?):Kj (QX own h .no) (ZX tw h .my) h' p S:=by
 obtain⟨ps,lp,pr,pt,T⟩:=T;refine⟨_,_,_,_,T.step (λl Qc=>⟨λhv=>⟨Js Qc,e l Qc λh1=>hv.1 h1.1⟩,λhv hm=>⟨JN Qc,e l Qc λh1=>h1.2.elim hv hm⟩⟩) λl hl=>?_⟩;by_cases h1:l<h.length
 ·rw[JN h1]at hl;rw[Js h1];exact T.ap l hl
 ·exact Xb (by omega)
def qF.rows(l:List qF):Nat->List D:=λi=>(l.getD i default).cells
@[go_sem] theorem qF.yn(l:List qF)(i):qF.rows l i=(l.getD i default).cells:=rfl
@[go_sem] def Hm(l:List qF):D:=.imm 3 l.length (qF.rows l)
structure cM (x:KW) (p q k:Nat) (own:Nat->Tag) (tw:Nat->TT) (H:List Ob) (S:Zf) (R:List qF) (E:List Ev) (dR dE:D):Prop where
 T:Kj own tw H p S
 V:ZV S
 C:LN S
 ops:S.ops=k
 hx:H[0]? = some ⟨.one,0,3,1,λ_=>x.cells⟩
 hr:H[1]? = some ⟨.one,0,2,1,λ_=>[.nil,.nil]⟩
 hq:H[q]? = some ⟨.one,0,2,1,λ_=>[dR,dE]⟩
 q2:2<=q
 my:∀l,l=0\/l=1\/l=q->own l=.no/\tw l=.my
 sR:WA (λl=>own l=.no/\tw l=.my) H 3 qF.cells dR R
 sE:WA (λl=>own l=.no/\tw l=.my) H 12 Ev.cells dE E
 run:Zh (S0 x.config) (x.ops.take k)=(S,R,E)
 lR:R.length=k
 lE:E.length<=5000*k
def cO(S:Zf)(o:QZ)(h:Zo S.M<=4096):(QY S o).l.length<=5000:=by
 have hg:∀(op e n:Nat) (S:Zf),(Zz op e n S).2.length<=n:=by
  intro op e n;induction n with
  | zero=>exact λS=>QB _
  | succ n ih=>
   intro S;unfold Zz;split
   ·exact Z7 _
   ·have h1:=ih (Z2 { S with Qh:=QP S } op (QP S)).1;have h2:=cD { S with Qh:=QP S } op (QP S);dsimp only;rw[Zj];omega
 show (JA { S with ops:=S.ops+1 } S.ops o).l.length<=5000;unfold JA;split
 ·exact Z7 _
 ·split
  ·split<;>exact Z7 _
  ·split
   ·unfold X3;split
    ·exact Z7 _
    ·split
     ·have h2:=cD { { S with ops:=S.ops+1 } with M:=Jr S.M S.Qh (Jj S.R (Zy o.Zw)) o.Zw,st:=kg S.st (Jj S.R (Zy o.Zw)) S.Qh } S.ops S.Qh;show (_::_:List Ev).length<=5000;rw[Vh];exact KZ (Nat.succ_le_succ h2) (by decide)
     ·exact Z7 _
   ·split
    ·unfold Yo;split
     ·exact Z7 _
     ·have:=hg S.ops (S.Qh+o.Jn.toNat) (Zo S.M+1) { S with ops:=S.ops+1 };exact KZ this (by omega)
    ·exact Z7 _
def ZV.start{own}{tw}{h}{p}{c}(T:Kj own tw h p (S0 c)):ZV (S0 c):=by
 obtain⟨_,_,_,_,T⟩:=T;exact⟨T.co.I,T.co.V,T.co.K,λj x hx=>(by cases hx),QB _,Z7 _,Z7 _,λk=>⟨xV _,xV _,xV _,xV _,xV _⟩,λk a ha=>(by cases ha)⟩
def cP{α:Type}[Inhabited α]{f:α->List D}{L M:List α}{r1 r2:Nat->List D}(h1:∀i,i<L.length->r1 i=f (L.getD i default))(h2:∀i,i<M.length->r2 i=f (M.getD i default)):∀i,i<(L++M).length->J1 L.length 0 r1 r2 i=f ((L++M).getD i default):=by
 intro i hi;rw[Zj]at hi;rw[Ze];by_cases hl:i<L.length
 ·rw[Ad hl,JV,h1 i hl,JD hl,Ze]
 ·rw[vL (by omega),h2 _ (by omega),Kf (by omega),Ze]
def cM.next{x:KW}{p q k}{own}{tw}{H}{S}{R}{E}{dR dE}(I:cM x p q k own tw H S R E dR dE)(hk:k<x.ops.length)(ho:∀c∈(x.ops.getD k default).changes,JH.Ok c){own4}{Kn}{h4 h':List Ob}{Y:Fw}(hY:Y=QY S (x.ops.getD k default))(T:Kj own4 Kn h4 p Y.S)(hl:h4.length<=h'.length)(e:∀l,l<h4.length->¬(own4 l=.no/\(Kn l=.no\/Kn l=.my))->h'[l]? = h4[l]?)
  (my:∀l o,l<H.length->own l=.no->tw l=.my->H[l]? = some o->own4 l=.no/\Kn l=.my/\h4[l]? = some o) {dR' dE':D}
  (e0:h'[0]? = h4[0]?) (e1:h'[1]? = h4[1]?) (eq:h'[q]? = some ⟨.one,0,2,1,λ_=>[dR',dE']⟩)
  (sR:WA (λl=>h4.length<=l\/own4 l=.no/\Kn l=.my) h' 3 qF.cells dR' (R++[Y.r])) (sE:WA (λl=>h4.length<=l\/own4 l=.no/\Kn l=.my) h' 12 Ev.cells dE' (E++Y.l)) :
  cM x p q (k+1) (QX own4 h4 .no) (ZX Kn h4 .my) h' Y.S (R++[Y.r]) (E++Y.l) dR' dE':=by
 have tg:∀l,(h4.length<=l\/own4 l=.no/\Kn l=.my)->QX own4 h4 .no l=.no/\ZX Kn h4 .my l=.my:=λl hl=>by
  by_cases h1:l<h4.length
  ·rw[Js h1,JN h1];exact hl.resolve_left (by omega)
  ·exact⟨Xb (by omega),zf (by omega)⟩
 have m0:=my 0 _ (Qc I.hx) (I.my 0 (.inl rfl)).1 (I.my 0 (.inl rfl)).2 I.hx;have m1:=my 1 _ (Qc I.hr) (I.my 1 (.inr (.inl rfl))).1 (I.my 1 (.inr (.inl rfl))).2 I.hr;have mq:=my q _ (Qc I.hq) (I.my q (.inr (.inr rfl))).1 (I.my q (.inr (.inr rfl))).2 I.hq;have hn:x.ops.take (k+1)=x.ops.take k++[x.ops.getD k default]:=by
  rw[Ed,QW hk,Ze,QW hk];rfl
 refine⟨T.Ot e,?_,?_,?_,e0.trans m0.2.2,e1.trans m1.2.2,eq,I.q2,λl hl=>?_,sR.step λj _ hj=>⟨tg j hj,rfl⟩,sE.step λj _ hj=>⟨tg j hj,rfl⟩,?_,?_,?_⟩
 ·rw[hY];exact I.V.do ho
 ·rw[hY];exact I.C.do _
 ·rw[hY,Oi,I.ops]
 ·rcases hl with rfl|rfl|rfl
  ·exact tg _ (.inr ⟨m0.1,m0.2.1⟩)
  ·exact tg _ (.inr ⟨m1.1,m1.2.1⟩)
  ·exact tg _ (.inr ⟨mq.1,mq.2.1⟩)
 ·rw[hn,ot,I.run,hY];simp only[Zh,QU]
 ·rw[Zj,I.lR];rfl
 ·obtain⟨_,_,_,_,Tx⟩:=I.T;have h1:=cO S (x.ops.getD k default) Tx.co.LM;have h2:=I.lE;rw[Zj,hY];omega
def Qnx{RR:List qF}{row}(h:∀i,i<RR.length->row i=qF.cells (RR.getD i default)){k}:J3 (k+1) (.imm 3 RR.length (rowFrom 0 row)) (Hm RR):=⟨rfl,rfl,λi hi=>by rw[Ip,JV,h i hi];exact BD (kP _) _⟩
def Qny{RR:List Ev}{row}(h:∀i,i<RR.length->row i=Ev.cells (RR.getD i default)){k}:J3 (k+1) (.imm 12 RR.length (rowFrom 0 row)) (Kv RR):=⟨rfl,rfl,λi hi=>by rw[Ip,JV,h i hi];exact BD (kP _) _⟩
def run_freeze{S}{hh}{dR dE}{RR}{EE}(h1:WA S hh 3 qF.cells dR RR)(h2:WA S hh 12 Ev.cells dE EE){d}(e:d=.tup [.agg [dR,dE],Qb 0]):
  J3 6 d (.tup [.agg [Hm RR,Kv EE],Qb 0])\/(∃lo g sz n row,hh[lo]? = some ⟨.arr,g,sz,n,row⟩/\(∀i,i<n->(row i).all D.WS=true)/\J3 6 (D.fz lo g n sz row d) (.tup [.agg [Hm RR,Kv EE],Qb 0])) \/
   ∃lo g sz n row DU g' Oq n' KO,hh[lo]? = some ⟨.arr,g,sz,n,row⟩/\hh[DU]? = some ⟨.arr,g',Oq,n',KO⟩/\DU≠lo/\(∀i,i<n->(row i).all D.WS=true)/\(∀i,i<n'->(KO i).all D.WS=true)/\J3 6 (D.fz DU g' n' Oq KO (D.fz lo g n sz row d)) (.tup [.agg [Hm RR,Kv EE],Qb 0]):=by
 subst e;have nb:∀{a b:Nat},a≠b->Nat.beq a b=false:=λ{a b} h=>by rw[<- qb,Wp];exact h
 rcases h1 with ⟨rfl,rfl⟩|⟨yV,gR,Ou,rfl,_,DV,Ov⟩
 ·rcases h2 with ⟨rfl,rfl⟩|⟨vz,gE,Hn,rfl,_,vA,Ho⟩
  ·exact .inl ⟨⟨rfl,rfl,trivial⟩,rfl,trivial⟩
  ·refine .inr (.inl ⟨vz,gE,12,_,Hn,vA,λi hi=>by rw[Ho i hi];rfl,?_⟩);have e1:D.fz vz gE EE.length 12 Hn (.tup [.agg [.nil,.ref vz gE 0 EE.length],Qb 0])=.tup [.agg [.nil,.imm 12 EE.length (rowFrom 0 Hn)],Qb 0]:=by simp[D.fz,jS,Gf,Qb]
   rw[e1];exact⟨⟨rfl,Qny Ho,trivial⟩,rfl,trivial⟩
 ·rcases h2 with ⟨rfl,rfl⟩|⟨vz,gE,Hn,rfl,_,vA,Ho⟩
  ·refine .inr (.inl ⟨yV,gR,3,_,Ou,DV,λi hi=>by rw[Ov i hi];rfl,?_⟩);have e1:D.fz yV gR RR.length 3 Ou (.tup [.agg [.ref yV gR 0 RR.length,.nil],Qb 0])=.tup [.agg [.imm 3 RR.length (rowFrom 0 Ou),.nil],Qb 0]:=by simp[D.fz,jS,Gf,Qb]
   rw[e1];exact⟨⟨Qnx Ov,rfl,trivial⟩,rfl,trivial⟩
  ·have Qz:vz≠yV:=X4 vA DV (.inr nofun);refine .inr (.inr ⟨yV,gR,3,_,Ou,vz,gE,12,_,Hn,DV,vA,Qz,λi hi=>by rw[Ov i hi];rfl,λi hi=>by rw[Ho i hi];rfl,?_⟩);have e1:D.fz vz gE EE.length 12 Hn (D.fz yV gR RR.length 3 Ou (.tup [.agg [.ref yV gR 0 RR.length,.ref vz gE 0 EE.length],Qb 0]))=.tup [.agg [.imm 3 RR.length (rowFrom 0 Ou),.imm 12 EE.length (rowFrom 0 Hn)],Qb 0]:=by simp[D.fz,jS,Gf,nb Qz,Qb]
   rw[e1];exact⟨⟨Qnx Ov,Qny Ho,trivial⟩,rfl,trivial⟩
def Qc8(x:KW)(K:XK x.config)(hl:x.ops.length<=1000)(Ja:∀o∈x.ops,QZ.Ok o/\QZ.Small o):
  Q4 prog 37 [.agg x.cells] (Qn (.tup [.agg [Hm (Zh (S0 x.config) x.ops).2.1,Kv (Zh (S0 x.config) x.ops).2.2],Qb 0])):=by
 have dl:decide ((1000:Int)<(x.ops.length:Int))=false:=QN (by omega);refine Oo (R:=λd hh=>∃(S:Nat->Prop) (dR dE:D),d=.tup [.agg [dR,dE],Qb 0]/\WA S hh 3 qF.cells dR (Zh (S0 x.config) x.ops).2.1/\WA S hh 12 Ev.cells dE (Zh (S0 x.config) x.ops).2.2) _ rfl (λd hh ⟨S,dR,dE,e,h1,h2⟩=>run_freeze h1 h2 e) ?_;refine Il Qi 200 func37 rfl ntmps37 results37 rfl λbase w hb=>?_;simp only[go_sem,Qa];have hN:=cJ (own:=λ_=>.no) (tw:=λ_=>.my) (λ_ _=>rfl) [(⟨.one,0,3,1,λ_=>x.cells⟩:Ob),⟨.one,0,2,1,λ_=>[.nil,.nil]⟩] K;refine qZ hb UC hN λd h1 hR=>?_;obtain⟨Ji,Kw,p,rfl,T1,K1⟩:=hR;have Kc:h1[0]? = some _:=K1.my 0 (by simp) rfl;have Vx:h1[1]? = some _:=K1.my 1 (by simp) rfl;have VU:=Qc Kc;refine Qe hb ?_;simp only[go_sem,Qa,Kc,VU,dl];have Y6:=Qc Vx;have T1':=T1;obtain⟨_,_,_,_,T1x⟩:=T1';have I0:cM x p h1.length 0 (QX Ji h1 .no) (ZX Kw h1 .my) (h1++[(⟨.one,0,2,1,λ_=>[.nil,.nil]⟩:Ob)]) (S0 x.config) [] [] .nil .nil:=by
  refine⟨⟨_,_,_,_,T1x.YK _⟩,ZV.start T1,⟨λk=>Z7 _⟩,rfl,(Qx VU).trans Kc,(Qx Y6).trans Vx,Kx rfl,by have:=K1.len;simpa using this,λl qh=>?_,.inl ⟨rfl,rfl⟩,.inl ⟨rfl,rfl⟩,rfl,rfl,Z7 _⟩;rcases qh with rfl|rfl|rfl
  ·exact⟨(Js VU).trans (K1.s1 0 (by simp)),(JN VU).trans (K1.s2 0 (by simp))⟩
  ·exact⟨(Js Y6).trans (K1.s1 1 (by simp)),(JN Y6).trans (K1.s2 1 (by simp))⟩
  ·exact⟨Xb (QB _),zf (QB _)⟩
 obtain⟨q,hq⟩:∃q,q=h1.length:=⟨_,rfl⟩;rw[<- hq]at I0 ⊢;refine Jg (λk s=>∃own tw H S R E dR dE,cM x p q k own tw H S R E dR dE/\s=⟨[(2,.ptr 1 0 0 0),(3,Qb 0),(4,.ptr p 0 0 0),(5,Qb 0),(6,.ptr q 0 0 0),(29,.imm 10 x.ops.length (QZ.rows x.ops)),(30,Qb x.ops.length),(31,Qb k)],H⟩) x.ops.length QQ ⟨_,_,_,_,_,_,_,_,I0,rfl⟩ ?_;clear I0 T1 T1x K1 Kc Vx VU Y6 hN hq;rintro k _ hk ⟨own,tw,H,S,R,E,dR,dE,I,rfl⟩;by_cases Qj:k<x.ops.length
 ·have dk:=Q5 Qj;have QT:=JX (show k<4611686018427387904 by omega);obtain⟨o,ho⟩:∃o,o=x.ops.getD k default:=⟨_,rfl⟩;have YL:o∈x.ops:=by rw[ho];exact WI x.ops default k Qj
  obtain⟨⟨_,_,_,_,Tx⟩,hV,hC,jG⟩:=And.intro I.T (And.intro I.V (And.intro I.C I.ops));have T1:=Tx.YK [⟨.one,0,10,1,λ_=>o.cells⟩];have K1:=Jw.app (n:=H.length) own tw H [⟨.one,0,10,1,λ_=>o.cells⟩] .my (QB _);have Ch:=Fz ⟨_,_,_,_,T1⟩ hV hC (by omega) o (Ja o YL).1 (Ja o YL).2.c (Ja o YL).2.r;refine Qe hb ?_;simp only[go_sem,Qa,dk,Qj,<- ho];refine Jh hb EK Ch λd h2 hR=>?_;obtain⟨dl,JC,Vv,rfl,T2,s2,K2⟩:=hR;refine Ye Qi hb 10 ?_;simp only[go_sem,Qa];obtain⟨Y,hY⟩:∃Y,Y=QY S o:=⟨_,rfl⟩;rw[<- hY]at T2 s2 ⊢;obtain⟨_,_,_,_,T2x⟩:=T2;have F3:H.length+1<=h2.length:=by have:=K2.len;simpa using this
  have T3:=T2x.YK [⟨.one,0,3,1,λ_=>Y.r.cells⟩];have s3:WA (λl=>l<h2.length/\JC l=.no/\Vv l=.no) (h2++[(⟨.one,0,3,1,λ_=>Y.r.cells⟩:Ob)]) 12 Ev.cells dl Y.l:=s2.step λj hj h1=>⟨⟨hj,h1.2⟩,Qx hj⟩;have my2:∀l o',l<H.length->own l=.no->tw l=.my->H[l]? = some o'->JC l=.no/\Vv l=.my/\h2[l]? = some o':=λl o' hl h1 h2 h3=>by
   have ZB:l<(H++[(⟨.one,0,10,1,λ_=>o.cells⟩:Ob)]).length:=by simp;omega
   have a1:=(K1.s1 l hl).trans h1;have a2:=(K1.s2 l hl).trans h2;exact⟨(K2.s1 l ZB).trans a1,(K2.s2 l ZB).trans a2,(K2.my l ZB a2).trans ((Qx hl).trans h3)⟩
  obtain⟨row,h4,W4,ZH,wk,k4⟩:=Qnu (w0:=⟨w,[],[]⟩) rfl rfl (λa=>rfl) (fr:=[(2,.ptr 1 0 0 0),(3,Qb 0),(4,.ptr p 0 0 0),(5,Qb 0),(6,.ptr q 0 0 0),(9,.ptr h2.length 0 0 0),(10,dl),(29,.imm 10 x.ops.length (QZ.rows x.ops)),(30,Qb x.ops.length),(31,Qb k),(41,.ptr q 0 0 0)]) (h:=h2++[(⟨.one,0,3,1,λ_=>Y.r.cells⟩:Ob)]) 10 rfl s3;have wk:h2.length+1<=h4.length:=by simpa using wk
  have cQ:h4[h2.length]? = some ⟨.one,0,3,1,λ_=>Y.r.cells⟩:=by rw[k4 _ (by simp) (λh=>absurd h.1 (YP _))];exact Kx rfl
  obtain⟨own4,cR⟩:∃f,f=QX (QX JC h2 .no) (h2++[(⟨.one,0,3,1,λ_=>Y.r.cells⟩:Ob)]) .no:=⟨_,rfl⟩;obtain⟨Kn,cS⟩:∃f,f=ZX (ZX Vv h2 .my) (h2++[(⟨.one,0,3,1,λ_=>Y.r.cells⟩:Ob)]) .no:=⟨_,rfl⟩;have T4:Kj own4 Kn h4 p Y.S:=by
   rw[cR,cS];refine Kj.cK ⟨_,_,_,_,T3⟩ (by simpa using wk) λl hl hn=>k4 l hl λhh=>hn ?_;exact⟨(Js hh.1).trans hh.2.1,(JN hh.1).trans hh.2.2⟩
  have Ci:∀l o',l<H.length->own l=.no->tw l=.my->H[l]? = some o'->own4 l=.no/\Kn l=.my/\h4[l]? = some o':=λl o' hl h1 YQ h3=>by
   obtain⟨b1,b2,b3⟩:=my2 l o' hl h1 YQ h3;have Jx:l<h2.length:=by omega
   have xz:l<(h2++[(⟨.one,0,3,1,λ_=>Y.r.cells⟩:Ob)]).length:=by simp;omega
   refine⟨by rw[cR,Js xz,Js Jx];exact b1,by rw[cS,JN xz,JN Jx];exact b2,?_⟩;rw[k4 l xz λh=>(by rw[b2]at h;cases h.2.2),Qx Jx];exact b3
  refine kO (Qp.trans (Qp.frame (fr':=[(2,.ptr 1 0 0 0),(3,Qb 0),(4,.ptr p 0 0 0),(5,Qb 0),(6,.ptr q 0 0 0),(9,.ptr h2.length 0 0 0),(10,dl),(29,.imm 10 x.ops.length (QZ.rows x.ops)),(30,Qb x.ops.length),(31,Qb k),(41,.ptr q 0 0 0)]) (by simp only[go_sem])) W4) ?_;have WV:=Qc I.hx;have Vg:=Qc I.hr;have Qdb:=Qc I.hq;obtain⟨qo,qt,LQ⟩:=Ci q _ Qdb (I.my q (.inr (.inr rfl))).1 (I.my q (.inr (.inr rfl))).2 I.hq;have Cj:=Qc LQ;have oP:=Qc cQ;have sR4:WA (λl=>own4 l=.no/\Kn l=.my) h4 3 qF.cells dR R:=I.sR.imp id λ⟨lo,g,row,a1,a2,a3,a4⟩=>by
   obtain⟨b1,b2,b3⟩:=Ci lo _ (Qc a3) a2.1 a2.2 a3;exact⟨lo,g,row,a1,⟨b1,b2⟩,b3,a4⟩
  have sE4:WA (λl=>own4 l=.no/\Kn l=.my) h4 12 Ev.cells dE E:=I.sE.imp id λ⟨lo,g,row,a1,a2,a3,a4⟩=>by
   obtain⟨b1,b2,b3⟩:=Ci lo _ (Qc a3) a2.1 a2.2 a3;exact⟨lo,g,row,a1,⟨b1,b2⟩,b3,a4⟩
  have bE:=I.lR;have Sd:=I.lE;have q4:=I.q2;obtain⟨_,_,_,_,Tc⟩:=I.T;have hlY:=cO S o Tc.co.LM;rw[<- hY]at hlY;have zd:=λh'=>I.next (h':=h') Qj (ho▸(Ja o YL).1.2.1.2) (by rw[<- ho];exact hY) (own4:=own4) (Kn:=Kn) (h4:=h4) T4;have ZP:∀i,i<Y.l.length->(row i).all D.KK=true:=λi hi=>by rw[ZH i hi];rfl
  have tn:∀{l},¬(own4 l=.no/\(Kn l=.no\/Kn l=.my))->∀{l'},own4 l'=.no/\Kn l'=.my->l'≠l:=λh l' h' e=>h (e▸⟨h'.1,.inr h'.2⟩);have n0:q≠0:=by omega
  have n1:q≠1:=by omega
  have z0:0<h4.length:=by omega
  have z1:1<h4.length:=by omega
  have z40:=(Ci 0 _ WV (I.my 0 (.inl rfl)).1 (I.my 0 (.inl rfl)).2 I.hx).2.2;have z41:=(Ci 1 _ Vg (I.my 1 (.inr (.inl rfl))).1 (I.my 1 (.inr (.inl rfl))).2 I.hr).2.2;rcases sR4 with ⟨rfl,rfl⟩|⟨yV,gR,Ou,rfl,oQ,DV,Ov⟩
  ·rcases sE4 with ⟨rfl,rfl⟩|⟨vz,gE,Hn,rfl,cT,vA,Ho⟩
   ·refine Qe hb ?_;simp only[go_sem,Qa,LQ,Cj,cQ,oP,Qs];refine⟨⟨by omega,ZP⟩,Qj,_,Qp.frame (by simp only[go_sem,QT]),_,_,_,_,_,_,_,_,zd _ (by simp) (λl hl hn=>(Qx (by rw[KD];exact hl)).trans (Qk (tn hn ⟨qo,qt⟩))) Ci ((Qx (by rw[KD];exact z0)).trans (Qk n0)) ((Qx (by rw[KD];exact z1)).trans (Qk n1)) ((Qx (by rw[KD];exact Cj)).trans (Qs Cj)) (.inr ⟨h4.length+1,0,_,rfl,.inl (Nat.le_succ _),Vr (by rw[KD]),λi hi=>?_⟩) (.inr ⟨h4.length+2,0,_,rfl,.inl (by omega),Vr (by rw[KD]),λi hi=>ZH i hi⟩),rfl⟩;obtain rfl:i=0:=by simpa using hi
    rfl
   ·have Ow:=Qc vA;have Ox:vz≠q:=X4 vA LQ (.inl nofun);refine Qe hb ?_;simp only[go_sem,Qa,LQ,Cj,cQ,oP,vA,Ow,Qs,Qk Ox,Qk Ox.symm];have Cm:∀(A B C:Ob) {l},l<h4.length->l<(((h4.set q A).set vz B).set q C).length:=λA B C l hl=>by simp only[KD];exact hl
    have nE0:=X4 vA z40 (.inl nofun);have nE1:=X4 vA z41 (.inl nofun);refine⟨⟨by omega,ZP⟩,Qj,_,Qp.frame (by simp only[go_sem,QT]),_,_,_,_,_,_,_,_,zd _ (by simp) (λl hl hn=>by rw[Qx (Cm _ _ _ hl),Qk (tn hn ⟨qo,qt⟩),Qk (tn hn cT),Qk (tn hn ⟨qo,qt⟩)]) Ci (by rw[Qx (Cm _ _ _ z0),Qk n0,Qk nE0,Qk n0]) (by rw[Qx (Cm _ _ _ z1),Qk n1,Qk nE1,Qk n1]) ((Qx (Cm _ _ _ Cj)).trans (Qs (by simp only[KD];exact Cj))) (.inr ⟨h4.length+1,0,_,rfl,.inl (Nat.le_succ _),Vr (by simp only[KD]),λi hi=>?_⟩) (.inr ⟨vz,gE+1,_,?_,.inr cT,?_,cP (r2:=row) Ho λi hi=>ZH i hi⟩),rfl⟩
    ·obtain rfl:i=0:=by simpa using hi
     rfl
    ·rw[Zj]
    ·rw[Qx (Cm _ _ _ Ow),Qk Ox.symm,Qs (by simp only[KD];exact Ow),Zj]
  ·have SR:=Qc DV;have Oy:yV≠q:=X4 DV LQ (.inl nofun);have nR0:=X4 DV z40 (.inl nofun);have nR1:=X4 DV z41 (.inl nofun);rcases sE4 with ⟨rfl,rfl⟩|⟨vz,gE,Hn,rfl,cT,vA,Ho⟩
   ·refine Qe hb ?_;simp only[go_sem,Qa,LQ,Cj,cQ,oP,DV,SR,Qs,Qk Oy,Qk Oy.symm];have Oz:∀(A B:Ob) {l},l<h4.length->l<((h4.set yV A).set q B).length:=λA B l hl=>by simp only[KD];exact hl
    refine⟨by omega,⟨by omega,ZP⟩,Qj,_,Qp.frame (by simp only[go_sem,QT]),_,_,_,_,_,_,_,_,zd _ (by simp) (λl hl hn=>by rw[Qx (Oz _ _ hl),Qk (tn hn ⟨qo,qt⟩),Qk (tn hn oQ)]) Ci (by rw[Qx (Oz _ _ z0),Qk n0,Qk nR0]) (by rw[Qx (Oz _ _ z1),Qk n1,Qk nR1]) ((Qx (Oz _ _ Cj)).trans (Qs (by simp only[KD];exact Cj))) (.inr ⟨yV,gR+1,_,?_,.inr oQ,?_,cP (r2:=λ_=>Y.r.cells) Ov λi hi=>?_⟩) (.inr ⟨h4.length+1,0,_,rfl,.inl (Nat.le_succ _),Vr (by simp only[KD]),λi hi=>ZH i hi⟩),rfl⟩
    ·rw[Zj];rfl
    ·rw[Qx (Oz _ _ SR),Qk Oy.symm,Qs SR,Zj];rfl
    ·obtain rfl:i=0:=by simpa using hi
     rfl
   ·have Ow:=Qc vA;have Ox:vz≠q:=X4 vA LQ (.inl nofun);have nER:vz≠yV:=X4 vA DV (.inr nofun);have nE0:=X4 vA z40 (.inl nofun);have nE1:=X4 vA z41 (.inl nofun);refine Qe hb ?_;simp only[go_sem,Qa,LQ,Cj,cQ,oP,DV,SR,vA,Ow,Qs,Qk Oy,Qk Oy.symm,Qk Ox,Qk Ox.symm,Qk nER,Qk nER.symm];have SS:∀(A B C D:Ob) {l},l<h4.length->l<((((h4.set yV A).set q B).set vz C).set q D).length:=λA B C D l hl=>by simp only[KD];exact hl
    refine⟨by omega,⟨by omega,ZP⟩,Qj,_,Qp.frame (by simp only[go_sem,QT]),_,_,_,_,_,_,_,_,zd _ (by simp) (λl hl hn=>by rw[Qx (SS _ _ _ _ hl),Qk (tn hn ⟨qo,qt⟩),Qk (tn hn cT),Qk (tn hn ⟨qo,qt⟩),Qk (tn hn oQ)]) Ci (by rw[Qx (SS _ _ _ _ z0),Qk n0,Qk nE0,Qk n0,Qk nR0]) (by rw[Qx (SS _ _ _ _ z1),Qk n1,Qk nE1,Qk n1,Qk nR1]) ((Qx (SS _ _ _ _ Cj)).trans (Qs (by simp only[KD];exact Cj))) (.inr ⟨yV,gR+1,_,?_,.inr oQ,?_,cP (r2:=λ_=>Y.r.cells) Ov λi hi=>?_⟩) (.inr ⟨vz,gE+1,_,?_,.inr cT,?_,cP Ho λi hi=>ZH i hi⟩),rfl⟩
    ·rw[Zj];rfl
    ·rw[Qx (SS _ _ _ _ SR),Qk Oy.symm,Qk nER,Qk Oy.symm,Qs SR,Zj];rfl
    ·obtain rfl:i=0:=by simpa using hi
     rfl
    ·rw[Zj]
    ·rw[Qx (SS _ _ _ _ Ow),Qk Ox.symm,Qs (by simp only[KD];exact Ow),Zj]
 ·obtain rfl:k=x.ops.length:=by omega
  have dk:=QN Qj;have hr:=I.hr;have Vg:=Qc hr;have hq:=I.hq;have Qdb:=Qc hq;refine Qe hb ?_;simp only[go_sem,Qa,dk,Qj];have oR:dR.KK=true:=by rcases I.sR with ⟨rfl,_⟩|⟨_,_,_,rfl,_⟩<;>rfl
  have oE:dE.KK=true:=by rcases I.sE with ⟨rfl,_⟩|⟨_,_,_,rfl,_⟩<;>rfl
  have Zl:=I.run;rw[YO]at Zl;rw[Zl];refine Qe hb ?_;simp only[go_sem,Qa,hr,Vg,hq,Qdb,Qs,oR,oE];refine⟨_,_,_,rfl,I.sR.imp id λ⟨lo,g,row,b1,b2,b3,b4⟩=>⟨lo,g,row,b1,b2,by rw[Qk (X4 hr b3 (.inl nofun))];exact b3,b4⟩,I.sE.imp id λ⟨lo,g,row,b1,b2,b3,b4⟩=>⟨lo,g,row,b1,b2,by rw[Qk (X4 hr b3 (.inl nofun))];exact b3,b4⟩⟩
def LR(o:QZ):Bool:=decide (o.changes.length<=40)&&decide (o.rules.length<=40)
def wN(x:KW)(m:Nat):Bool:=decide (x.ops.length<=m)&&x.ops.all LR
def QnE{α:Type}(l:List α)(d:α)(f):l.all f=true↔∀j,j<l.length->f (l.getD j d)=true:=by
 rw[X6];constructor
 ·intro h j hj;exact h _ (WI l d j hj)
 ·intro h a ha;obtain⟨i,hi,rfl⟩:=y9 ha;have:=h i hi;simpa[Ze,hi] using this
def SU(x:KW)(m:Nat)(hm:m<1000000):Q4 prog 11 [.agg x.cells,Qb m] (Qn (QJ (wN x m))):=by
 refine ZA 0 Qi 200 func11 rfl ntmps11 results11 rfl λbase w hb=>?_;simp only[go_sem];by_cases h1:m<x.ops.length
 ·simp only[go_sem,h1,decide_true];have:wN x m=false:=by simp[wN];omega
  rw[this]
 ·have JE:decide (m<x.ops.length)=false:=by simp;omega
  simp only[go_sem,JE];refine BB (G:=Nat) [13,14] (λk=>∀j,j<k->LR (x.ops.getD j default)=true) (λk γ=>[(15,Qb k)]) (λk γ=>[]) (x.ops.length) (0) rfl (Qp.to 0 (by (simp only[go_sem])<;>simp)) ?_ ?_
  ·intro j hj;omega
  intro k γ hk KS;apply Zi hb;have QT:=JX (show k<4611686018427387904 by omega);first|refine YU hk (λQj=>?_) (λQj=>?_)|refine qu hk (λQj=>?_) (λQj=>?_)
  ·simp only[go_sem,Qj];have ff:¬ (∀j,j<x.ops.length->LR (x.ops.getD j default)=true)->wN x m=false:=λhn=>by
    rw[jK];intro hf;simp only[wN,Z9]at hf;exact hn ((QnE _ default _).1 hf.2)
   first|refine zE (λh2=>?_) (λh2=>?_)|refine zF (λh2=>?_) (λh2=>?_)|refine zG (λh2=>?_) (λh2=>?_)|refine XS (λh2=>?_) (λh2=>?_)|refine zH (λh2=>?_) (λh2=>?_)|refine zI (λh2=>?_) (λh2=>?_)|refine zJ (λh2=>?_) (λh2=>?_)|refine zD (λh2=>?_) (λh2=>?_)
   ·simp only[go_sem];rw[ff (λhn=>by have:=hn k Qj;simp only[LR,Z9,XM]at this;omega)]
   ·simp only[go_sem];first|refine zE (λh3=>?_) (λh3=>?_)|refine zF (λh3=>?_) (λh3=>?_)|refine zG (λh3=>?_) (λh3=>?_)|refine XS (λh3=>?_) (λh3=>?_)|refine zH (λh3=>?_) (λh3=>?_)|refine zI (λh3=>?_) (λh3=>?_)|refine zJ (λh3=>?_) (λh3=>?_)|refine zD (λh3=>?_) (λh3=>?_)
    ·simp only[go_sem];rw[ff (λhn=>by have:=hn k Qj;simp only[LR,Z9,XM]at this;omega)]
    ·simp only[go_sem];repeat (refine And.intro (by first|assumption|omega) ?_)
     refine⟨_,Qp.to 0 (by (simp only[go_sem,QT])<;>simp),VG.mk (0) (?_)⟩;intro j hj;rcases qc.1 hj with h|rfl
     ·exact KS j h
     ·simp only[LR,Z9,XM];omega
  ·simp only[go_sem];apply Zi hb;subst Qj;have:wN x m=true:=by
    simp only[wN,Z9];exact⟨by simp;omega,(QnE _ default _).2 KS⟩
   rw[this]
def cU{own}{tw}{h}{p}{S:Zf}(T:Kj own tw h p S):QV prog 21 h [.ptr p 0 0 0] (λd=>d=u64 S.Qh):=by
 obtain⟨ps,pl,pr,pt,T⟩:=T;have ho:=Z3 T.o;refine Zq Qi 200 func21 rfl ntmps21 results21 rfl λbase w pl F hF Q3 hb=>?_;rw[<- hF]at ho;have Qg:=Qc ho;simp only[go_sem,Qa,ho,Qg];exact⟨[],(QU _).symm⟩
def oS:QZ:=⟨1,[Hg 1 65536],[],⟨0,0,0,0,0,0⟩,0⟩
def QnF:QZ:=⟨2,[],[⟨0,0,0,0,0,0,0,0,1⟩],⟨0,0,0,0,0,0⟩,0⟩
def oU:QZ:=⟨3,[],[],⟨7,100,0,0,0,0⟩,0⟩
def QnG:QZ:=⟨4,[],[],⟨0,0,0,0,0,0⟩,150⟩
def cV:List QZ:=[oS,QnF,oU,oU,QnG]
def OA:KW:=⟨c6,cV⟩
def QE3:∀o∈cV,QZ.Ok o/\QZ.Small o:=by
 have k0:Pk.Ok ⟨0,0,0,0,0,0⟩:=⟨by decide,by decide,by decide,by decide,by decide,by decide,trivial⟩;have k7:Pk.Ok ⟨7,100,0,0,0,0⟩:=⟨by decide,by decide,by decide,by decide,by decide,by decide,trivial⟩;have c1:JH.Ok (Hg 1 65536):=⟨by decide,⟨by decide,by decide,trivial,⟨by decide,by decide,by decide,trivial⟩,⟨by decide,by decide,by decide,trivial⟩,⟨by decide,by decide,by decide,trivial⟩,by decide,by decide,trivial⟩,trivial⟩;have r1:JU.Ok ⟨0,0,0,0,0,0,0,0,1⟩:=⟨by decide,by decide,by decide,by decide,by decide,by decide,by decide,by decide,by decide,trivial⟩;have n0:∀{α:Type} {P:α->Prop},∀a∈([]:List α),P a:=λa h=>(by cases h);intro o ho;simp only[cV,QM,List.not_mem_nil,or_false]at ho;rcases ho with rfl|rfl|rfl|rfl|rfl
 ·exact⟨⟨by decide,⟨by decide,λa ha=>by obtain rfl:=zn.1 ha;exact c1⟩,⟨by decide,n0⟩,k0,by decide,trivial⟩,by decide,by decide⟩
 ·exact⟨⟨by decide,⟨by decide,n0⟩,⟨by decide,λa ha=>by obtain rfl:=zn.1 ha;exact r1⟩,k0,by decide,trivial⟩,by decide,by decide⟩
 ·exact⟨⟨by decide,⟨by decide,n0⟩,⟨by decide,n0⟩,k7,by decide,trivial⟩,by decide,by decide⟩
 ·exact⟨⟨by decide,⟨by decide,n0⟩,⟨by decide,n0⟩,k7,by decide,trivial⟩,by decide,by decide⟩
 ·exact⟨⟨by decide,⟨by decide,n0⟩,⟨by decide,n0⟩,k0,by decide,trivial⟩,by decide,by decide⟩
def T7:List Qw:=[(Hg 1 65536).cls]
def QnH:JM [] [Hg 1 65536]=T7:=by kernel_rfl
def QnI:Ko [] T7=[1]:=by
 unfold Ko;have h:AJ [] T7=[1]:=by kernel_rfl
 rw[h,Qiy (OO [1]) (by simp)];rfl
def M7:Qq:=QmF [1] (M0 c6) T7
def QE4:kf (M0 c6) T7 true=false:=by
 unfold kf m9;have h:(M0 c6).T=[]:=rfl;rw[h,QnI];decide +kernel
def QE5:zX (M0 c6) true [Hg 1 65536]=0:=by
 unfold zX;have h:(M0 c6).T=[]:=rfl;rw[h,QnH,QE4];decide +kernel
def QE6:Ke (M0 c6) true [Hg 1 65536]=M7:=by
 unfold Ke;rw[Qf QE5,show (M0 c6).T=[] from rfl,QnH,QDV,show (M0 c6).T=[] from rfl,QnI];rfl
def S7:Zf:=⟨M7,0,[],⟨λ_=>[],λ_=>default⟩,0,1⟩
def QE7:(QY (S0 c6) oS).S=S7:=by
 show Zf.mk (Ke (M0 c6) true [Hg 1 65536]) 0 [] _ 0 1=S7;rw[QE6];rfl
def LS:List Ev:=[⟨2,true,false,0,0,1,7,100,0,0,0,0⟩,⟨2,false,false,0,100,1,7,100,0,0,0,0⟩,⟨3,true,false,0,0,1,7,100,0,0,0,0⟩,⟨4,false,false,100,200,1,7,100,0,0,0,0⟩]
def QE8:(Zh (S0 c6) cV).2.2=LS:=by
 show (QY (S0 c6) oS).l++(Zh (QY (S0 c6) oS).S [QnF,oU,oU,QnG]).2.2=LS;rw[QE7];kernel_rfl
theorem QE9:(Zh (S0 c6) cV).2.1.length=5:=rfl
def qH(n:Nd)(a:Bool)(f:Nat):List D:=n.c.cells++(QJ a::u64 n.Jz::(n.du.cells++(n.sh.cells++(n.cp.cells++(u64 f::n.q.ay)))))
theorem QFa(M)(id)(n):QlW M id n=qH n (JR M id) (VE M id n):=rfl
section
variable (n:Nd)(a:Bool)(f:Nat)
@[go_sem] theorem QMz:(qH n a f).length=67:=rfl
@[go_sem] theorem QMA:(qH n a f).all D.KK=true:=rfl
@[go_sem] theorem QMB:(List.drop 15 (qH n a f)).getD 0 D.undef=u64 n.Jz:=rfl
@[go_sem] theorem QMC:(List.drop 2 (qH n a f)).getD 0 D.undef=QJ n.c.leaf:=rfl
@[go_sem] theorem QMD:(List.drop 63 (qH n a f)).getD 0 D.undef=u64 n.q.cd:=rfl
@[go_sem] theorem QME:(List.drop 65 (qH n a f)).getD 0 D.undef=u64 n.q.bo:=rfl
@[go_sem] theorem QMF:(List.drop 66 (qH n a f)).getD 0 D.undef=u64 n.q.bd:=rfl
@[go_sem] theorem QMG(v):List.take 63 (qH n a f)++(.raw (.int .u64 ((v:Nat):Int))::List.drop 64 (qH n a f))=qH { n with q:={ n.q with cd:=v } } a f:=rfl
@[go_sem] theorem QMH(v):List.take 66 (qH n a f)++[.raw (.int .u64 ((v:Nat):Int))]=qH { n with q:={ n.q with bd:=v } } a f:=rfl
end
@[go_sem] def SV(n:Nd)(a:Bool)(f:Nat):Ob:=⟨.one,0,67,1,λ_=>qH n a f⟩
def cW{own}{tw}{h}{p}{S:Zf}(T:Kj own tw h p S):QV prog 20 h [.ptr p 0 0 0] (λd=>d=u64 S.JI):=by
 obtain⟨ps,pl,pr,pt,T⟩:=T;have ho:=Z3 T.o;obtain⟨a,b,c,hl⟩:=T.ln;have hl:=Z3 hl;have hU:=λ(F:List Ob) (hF:F=h.map Ob.ro)=>QmX (h:=F) (Kh hF _ _ hl);clear T;refine Zq Qi 200 func20 rfl ntmps20 results20 rfl λbase w pl F hF Q3 hb=>?_;rw[<- hF]at ho;have Qg:=Qc ho;simp only[go_sem,Qa,ho,Qg];refine ZN hb Qhw (hU F hF) λd hR=>?_;subst hR;apply QC hb;all_goals first|exact⟨_,rfl,rfl⟩|exact⟨_,rfl⟩|rfl|exact⟨[],(QU _).symm⟩|exact⟨[],(QU _).symm,rfl⟩
def QFb{h}{p}{L}{M}(c:Yn h p L M)(V:Inv M)(id):QV prog 71 h [.ptr p 0 0 0,Qb id] (λd=>d=jD (Zn M id)):=by
 cases hn:Ql M.N id with
 | none=>
  have e:Zn M id=[]:=by unfold Zn QD;rw[hn];rfl
  rw[e];exact Oc.closed (Wf.mono (QC3 c hn) λd g h=>.inl ⟨h.2,rfl⟩)
 | some n=>
  have e:Zn M id=n.q.l:=by unfold Zn QD;rw[hn];rfl
  have h1:=QC4 c hn;cases hl:n.c.leaf with
  | true=>
   rw[e];exact QV.mono h1 λd h=>by rw[h,Qf hl]
  | false=>
   rw[e,V.wJ id n hn hl];exact Oc.closed (Wf.mono h1 λd g h=>.inl ⟨by rw[h.2,Qd (by rw[hl];exact ky)],rfl⟩)
def Qdg{own}{tw}{h}{p}{S:Zf}(T:Kj own tw h p S)(id):QV prog 28 h [.ptr p 0 0 0,Qb id] (λd=>d=jD (Zn S.M id)):=by
 obtain⟨ps,pl,pr,pt,T⟩:=T;have ho:=Z3 T.o;obtain⟨L,C⟩:=T.co.ex;have hP:=λ(F:List Ob) (hF:F=h.map Ob.ro)=>QFb (C.ro.more (Kh hF)) T.co.V id;clear C T;refine Zq Qi 200 func28 rfl ntmps28 results28 rfl λbase w pl F hF Q3 hb=>?_;rw[<- hF]at ho;have Qg:=Qc ho;simp only[go_sem,Qa,ho,Qg];refine ZN hb QuG (hP F hF) λd hR=>?_;subst hR;apply QC hb;all_goals first|exact⟨_,rfl,rfl⟩|exact⟨_,rfl⟩|rfl|exact⟨[],(QU _).symm⟩|exact⟨[],(QU _).symm,rfl⟩
def Qdh{own}{tw}{h}{p}{S:Zf}(T:Kj own tw h p S){id}{n}(hn:Ql S.M.N id=some n):QV prog 40 h [.ptr p 0 0 0,Qb id] (λd=>d=.tup [.agg (qH n (JR S.M id) (VE S.M id n)),Qb 0]):=by
 obtain⟨ps,pl,pr,pt,T⟩:=T;have ho:=Z3 T.o;obtain⟨L,C⟩:=T.co.ex;have hP:=λ(F:List Ob) (hF:F=h.map Ob.ro) (G:List Ob)=>QCX ((C.ro.more (Kh hF)).more (yE (g:=G))) T.co.I hn (T.co.V.wJ id n hn);clear C T;rw[QFa]at hP;refine Zq Qi 200 func40 rfl ntmps40 results40 rfl λbase w pl F hF Q3 hb=>?_;rw[<- hF]at ho;have Qg:=Qc ho;simp only[go_sem,Qa,ho,Qg];refine ZN hb QuM (hP F hF _) λd hR=>?_;subst hR;apply QC hb;exact⟨_,rfl,rfl,rfl⟩
def oV{own}{tw}{h}{p}{S:Zf}(T:Kj own tw h p S):QK prog 25 h [.ptr p 0 0 0] (λd h'=>d=ints (S.M.T.map (·.iD))/\∃g,h'=h++g):=by
 obtain⟨ps,pl,pr,pt,T⟩:=T;have ho:=T.o;obtain⟨L,C⟩:=T.co.ex;have hT:=QCU C;have hl:=T.co.I.tree.len;refine Q6 Qi 200 func25 rfl ntmps25 results25 rfl λbase w pl hb=>?_;have Qg:=Qc ho;simp only[go_sem,Qa,ho,Qg];refine qZ hb QuF hT λd h2 hR=>?_;obtain⟨rfl,hS,g,rfl,hg⟩:=hR;apply QC hb;refine ZN hb iO (mn hS.toR (by omega)) λd hR=>?_;subst hR;apply QC hb;exact⟨_,rfl⟩
def QFc{h:List Ob}{p cm rm c2:Nat}{Je:List ZU}{r:z7}{id:Int}(ho:(h.map Ob.ro)[p]? = some (ox cm rm).ro)(hm:(h.map Ob.ro)[rm]? = some (QS .i64 c2 Je).ro)(hr:(ZJ Je id).getD (.agg (default:z7).cells)=.agg r.cells):QV prog 133 h [.ptr p 0 0 0,Qb id] (λd=>d=.agg r.cells):=by
 cases ha:ZJ Je id with
 | none=>
  rw[ha]at hr;have hr:(.agg (default:z7).cells:D)=.agg r.cells:=hr;rw[<- hr];refine Zq Qi 200 func133 rfl ntmps133 results133 rfl λbase w pl F hF Q3 hb=>?_;rw[<- hF]at ho hm;have Qg:=Qc ho;have QG:=Qc hm;simp only[go_sem,Qa,ho,Qg,hm,QG,ha];first|exact⟨_,rfl⟩|exact⟨_,rfl,rfl⟩
 | some d=>
  rw[ha]at hr;obtain rfl:d=.agg r.cells:=hr;refine Zq Qi 200 func133 rfl ntmps133 results133 rfl λbase w pl F hF Q3 hb=>?_;rw[<- hF]at ho hm;have Qg:=Qc ho;have QG:=Qc hm;simp only[go_sem,Qa,ho,Qg,hm,QG,ha];first|exact⟨_,rfl⟩|exact⟨_,rfl,rfl⟩
def QnK{own}{tw}{h}{p}{S:Zf}(T:Kj own tw h p S)(id:Int):QV prog 75 h [.ptr p 0 0 0,Qb id] (λd=>d=.agg (S.st.rows id).cells):=by
 obtain⟨ps,pl,pr,pt,T⟩:=T;have ho:=Z3 T.o;obtain⟨cm,rm,c1,Z4,c2,Je,Q⟩:=T.st;have q1:=Z3 Q.o;have q2:=Z3 Q.ro;have q3:=Q.rw_ id;have hP:=λ(F:List Ob) (hF:F=h.map Ob.ro) (G:List Ob)=>QFc (h:=F++G) (yE (g:=G) _ _ (Kh hF _ _ q1)) (yE (g:=G) _ _ (Kh hF _ _ q2)) q3;clear Q T;refine Zq Qi 200 func75 rfl ntmps75 results75 rfl λbase w pl F hF Q3 hb=>?_;rw[<- hF]at ho;have Qg:=Qc ho;simp only[go_sem,Qa,ho,Qg];refine ZN hb Qu6 (hP F hF _) λd hR=>?_;subst hR;apply QC hb;first|exact⟨_,rfl⟩|exact⟨_,rfl,rfl⟩
def QFd(l:List QZ){k}(hk:k<l.length):l.take (k+1)=l.take k++[l.getD k default]:=by
 rw[Ed,QW hk,Ze,QW hk];rfl
def oW(S:Zf)(l:List QZ){k}(hk:k<l.length):(Zh S (l.take (k+1))).1=(QY (Zh S (l.take k)).1 (l.getD k default)).S/\(Zh S (l.take (k+1))).2.2=(Zh S (l.take k)).2.2++(QY (Zh S (l.take k)).1 (l.getD k default)).l:=by
 rw[QFd l hk,ot];exact⟨rfl,by simp only[Zh,QU]⟩
structure jH (c:Cf) (ops:List QZ) (p k lo g:Nat) (h0:List Ob) (Kp:Nat->Prop) (own:Nat->Tag) (tw:Nat->TT) (H:List Ob) (S:Zf) (E:List Ev) (row:Nat->List D):Prop where
 T:Kj own tw H p S
 V:ZV S
 C:LN S
 jG:S.ops=k
 kp:∀l,l<h0.length->Kp l->H[l]? = h0[l]?/\own l=.no/\tw l=.my
 Zm:H[lo]? = some ⟨.arr,g,12,E.length,row⟩
 rw_:∀i,i<E.length->row i=Ev.cells (E.getD i default)
 my:own lo=.no/\tw lo=.my
 nk:lo<h0.length->¬Kp lo
 S_:S=(Zh (S0 c) (ops.take k)).1
 E_:E=(Zh (S0 c) (ops.take k)).2.2
 lE:E.length<=5000*k
section
variable {c:Cf}{ops:List QZ}{p k lo g:Nat}{h0:List Ob}{Kp:Nat->Prop}{own:Nat->Tag}{tw:Nat->TT}{H:List Ob}{S:Zf}{E:List Ev}{row:Nat->List D}
end
def Qoc{α:Type}[Inhabited α]{w0:Start}(hF:w0.F=[])(hp:w0.pl=[]){S:Nat->Prop}{sz:Nat}{f:α->List D}(hf:∀a,(f a).all D.WS=true){fr:List (Nat × D)}{h:List Ob}{d:D}{L:List α}(t:Nat)(ht:get fr t=d)(hS:WA S h sz f d L):
  ∃h',Qp w0 ⟨fr,h⟩ ⟨put fr t (.imm sz L.length λi=>f (L.getD i default)),h'⟩/\h.length<=h'.length/\∀l,l<h.length->¬S l->h'[l]? = h[l]? := by
 have XX:w0.pl.length=w0.F.length:=by rw[hF,hp];rfl
 have hg:∀h:List Ob,l9 w0.F h:=λh l o e=>by rw[hF]at e;simp at e
 have hz:∀n,w0.F.length<=n:=λn=>by rw[hF];exact Z7 _
 rcases hS with ⟨rfl,rfl⟩|⟨lo,g,row,rfl,Qc5,Aq,BR⟩
 ·have W1:=Qp.bY (w0:=w0) (h:=h) t sz ht;have W2:=Qp.rows (w0:=w0) (fr:=put fr t (.ref h.length 0 0 0)) (h:=h++[(⟨.arr,0,sz,0,λ_=>[]⟩:Ob)]) h.length (λi=>f (([]:List α).getD i default)) (Kx rfl) (λi hi=>absurd hi (Vw i));rw[UA rfl]at W2;have W3:=Qp.IL XX (hg _) t h.length (hz _) (fr:=put fr t (.ref h.length 0 0 0)) (h:=h++[(⟨.arr,0,sz,0,λi=>f (([]:List α).getD i default)⟩:Ob)]) (o:=⟨.arr,0,sz,0,λi=>f (([]:List α).getD i default)⟩) (off:=0) (len:=0) (by rw[FT,Qf rfl]) (Kx rfl) (QB 0) rfl (λi hi=>absurd hi (Vw i));rw[Qc4,ie]at W3;refine⟨_,Qp.trans W1 (Qp.trans W2 W3),by simp,λl hl Qz=>?_⟩;rw[Qk (by omega)];exact Qx hl
 ·have W1:=Qp.rows (w0:=w0) (fr:=fr) lo (λi=>f (L.getD i default)) Aq BR;have h1:(h.set lo ⟨.arr,g,sz,L.length,λi=>f (L.getD i default)⟩)[lo]? = some ⟨.arr,g,sz,L.length,λi=>f (L.getD i default)⟩:=Qs (Qc Aq);have W2:=Qp.IL XX (hg _) t lo (hz _) ht h1 (by show 0+L.length<=L.length;omega) rfl (λi hi=>hf _);rw[ie]at W2;refine⟨_,Qp.trans W1 W2,by simp,λl hl Qz=>?_⟩;have hn:lo≠l:=λe=>Qz (by rw[<- e];exact Qc5);rw[Qk hn,Qk hn]
structure zl (own:Nat->Tag) (tw:Nat->TT) (own':Nat->Tag) (ZK:Nat->TT) (H:List Ob) (p p':Nat) (S S':Zf):Prop where
 a:Kj own tw H p S
 b:Kj own' ZK H p' S'
 ap:∀l,l<H.length->(own l=.no/\tw l=.my)\/(own' l=.no/\ZK l=.my)
section
variable {own own':Nat->Tag}{tw ZK:Nat->TT}{H:List Ob}{p p':Nat}{S S':Zf}
def zl.swap(W:zl own tw own' ZK H p p' S S'):zl own' ZK own tw H p' p S' S:=⟨W.b,W.a,λl hl=>(W.ap l hl).symm⟩
def zl.left(W:zl own tw own' ZK H p p' S S'){YI}{wL}{H3}{S3}(T3:Kj YI wL H3 p S3)(D:Jw H.length own tw H YI wL H3):zl YI wL (QX own' H .no) (ZX ZK H .my) H3 p p' S3 S':=by
 refine⟨T3,W.b.Ot λl hl hn=>?_,λl hl=>?_⟩
 ·have:=(W.ap l hl).resolve_right λh=>hn ⟨h.1,.inr h.2⟩;exact D.my l hl this.2
 ·by_cases h1:l<H.length
  ·rw[Js h1,JN h1,D.s1 l h1,D.s2 l h1];exact W.ap l h1
  ·exact .inr ⟨Xb (by omega),zf (by omega)⟩
def zl.app(W:zl own tw own' ZK H p p' S S')(G):zl (QX own H .no) (ZX tw H .my) (QX own' H .no) (ZX ZK H .my) (H++G) p p' S S':=by
 obtain⟨_,_,_,_,Ta⟩:=W.a;obtain⟨_,_,_,_,Tb⟩:=W.b;refine⟨⟨_,_,_,_,Ta.YK G⟩,⟨_,_,_,_,Tb.YK G⟩,λl hl=>?_⟩;by_cases h1:l<H.length
 ·rw[Js h1,JN h1,Js h1,JN h1];exact W.ap l h1
 ·exact .inr ⟨Xb (by omega),zf (by omega)⟩
def zl.cK(W:zl own tw own' ZK H p p' S S'){H4:List Ob}(hl:H.length<=H4.length)(e:∀l,l<H.length->¬((own l=.no/\(tw l=.no\/tw l=.my))/\own' l=.no/\(ZK l=.no\/ZK l=.my))->H4[l]? = H[l]?):zl (QX own H .no) (ZX tw H .my) (QX own' H .no) (ZX ZK H .my) H4 p p' S S':=by
 refine⟨W.a.Ot λl hl hn=>e l hl λh=>hn h.1,W.b.Ot λl hl hn=>e l hl λh=>hn h.2,λl _=>?_⟩;by_cases h1:l<H.length
 ·rw[Js h1,JN h1,Js h1,JN h1];exact W.ap l h1
 ·exact .inr ⟨Xb (by omega),zf (by omega)⟩
def dB(own:Nat->Tag)(tw:Nat->TT)(own':Nat->Tag)(ZK:Nat->TT)(l:Nat):Prop:=own l=.no/\tw l=.my/\own' l=.no/\ZK l=.my
def zl.step(W:zl own tw own' ZK H p p' S S'){Y:Fw}{YI}{wL}{h3}{dl}(T3:Kj YI wL h3 p Y.S)(s3:WA (λl=>H.length<=l/\YI l=.no/\wL l=.no) h3 12 Ev.cells dl Y.l)(Dd:Jw H.length own tw H YI wL h3)(G)
  {w0:Start} (hF:w0.F=[]) (hp:w0.pl=[]) {fr:List (Nat × D)} (t:Nat) (ht:get fr t=dl) :
  ∃h4 own4 Kn dC dD,Qp w0 ⟨fr,h3++G⟩ ⟨put fr t (Kv Y.l),h4⟩/\zl own4 Kn dC dD h4 p p' Y.S S' /\
   (∀l,l<H.length->dB own tw own' ZK l->h4[l]? = H[l]?/\dB own4 Kn dC dD l)/\∀j,j<G.length->h4[h3.length+j]? = G[j]?/\dB own4 Kn dC dD (h3.length+j):=by
 have xz:=Dd.len;have W3:=(W.left T3 Dd).app G;have s4:WA (λl=>l<h3.length/\H.length<=l/\YI l=.no/\wL l=.no) (h3++G) 12 Ev.cells dl Y.l:=s3.step λj hj h1=>⟨⟨hj,h1⟩,Qx hj⟩;obtain⟨h4,W4,wk,k4⟩:=Qoc hF hp (λa=>rfl) (h:=h3++G) t ht s4;refine⟨h4,_,_,_,_,W4,W3.cK wk λl hl hn=>k4 l hl λ⟨a,b,c,d⟩=>hn ⟨⟨(Js a).trans c,.inl ((JN a).trans d)⟩,?_⟩,λl hl hm=>?_,λj hj=>?_⟩
 ·rw[Js a,JN a];exact⟨Xb b,.inr (zf b)⟩
 ·have a:l<h3.length:=by omega
  have b:l<(h3++G).length:=by rw[Zj];omega
  obtain⟨m1,m2,m3,m4⟩:=hm;refine⟨(k4 l b λh=>absurd h.2.1 (by omega)).trans ((Qx a).trans (Dd.my l hl m2)),?_,?_,?_,?_⟩
  ·rw[Js b,Js a,Dd.s1 l hl];exact m1
  ·rw[JN b,JN a,Dd.s2 l hl];exact m2
  ·rw[Js b,Js a,Js hl];exact m3
  ·rw[JN b,JN a,JN hl];exact m4
 ·have b:h3.length+j<(h3++G).length:=by rw[Zj];omega
  have a:h3.length<=h3.length+j:=Nat.le_add_right _ _;refine⟨(k4 _ b λh=>absurd h.1 (by omega)).trans (Vr rfl),?_,?_,?_,?_⟩
  ·rw[Js b];exact Xb a
  ·rw[JN b];exact zf a
  ·rw[Js b];exact Xb a
  ·rw[JN b];exact zf a
end
def o5{own}{tw}(ap:∀l,tw l≠.no->own l=.no)(h)(x:KW)(K:XK x.config)(hl:x.ops.length<=1000)(Ja:∀o∈x.ops,QZ.Ok o/\QZ.Small o):
  QK prog 31 h [.agg x.cells] (λd h'=>∃own' ZK p,d=.tup [.ptr p 0 0 0,Qb 0]/\Kj own' ZK h' p (Zh (S0 x.config) x.ops).1/\LN (Zh (S0 x.config) x.ops).1/\(Zh (S0 x.config) x.ops).1.ops=x.ops.length/\ZV (Zh (S0 x.config) x.ops).1/\Jw h.length own tw h own' ZK h'):=by
 have ZI:(h++[(⟨.one,0,3,1,λ_=>x.cells⟩:Ob)])[h.length]? = some ⟨.one,0,3,1,λ_=>x.cells⟩:=Kx rfl;have K1:=Jw.app own tw h [(⟨.one,0,3,1,λ_=>x.cells⟩:Ob)] .my (QB _);have SQ:∀l,ZX tw h .my l≠.no->QX own h .no l=.no:=λl hl=>by
  by_cases h1:l<h.length
  ·rw[JN h1]at hl;rw[Js h1];exact ap l hl
  ·exact Xb (by omega)
 have hN:=cJ SQ (h++[(⟨.one,0,3,1,λ_=>x.cells⟩:Ob)]) K;refine Q6 Qi 200 func31 rfl ntmps31 results31 rfl λbase w pl hb=>?_;simp only[go_sem,Qa];refine qZ hb UC hN λd h1 hR=>?_;obtain⟨Ji,Kw,p,rfl,T1,D1⟩:=hR;have Kc:h1[h.length]? = some ⟨.one,0,3,1,λ_=>x.cells⟩:=(D1.my _ (by simp) (zf (QB _))).trans ZI;have VU:=Qc Kc;have D2:=K1.trans (QB _) (D1.X8 (by simp));refine Qe hb ?_;simp only[go_sem,Qa,Kc,VU];refine Jg (λk s=>∃own' ZK H S,(Kj own' ZK H p S/\ZV S/\LN S/\S.ops=k/\S=(Zh (S0 x.config) (x.ops.take k)).1/\Jw h.length own tw h own' ZK H)/\s=⟨[(4,.ptr p 0 0 0),(5,Qb 0),(15,.imm 10 x.ops.length (QZ.rows x.ops)),(16,Qb x.ops.length),(17,Qb k)],H⟩) x.ops.length QQ ⟨_,_,_,_,⟨T1,ZV.start T1,⟨λk=>Z7 _⟩,rfl,rfl,D2⟩,rfl⟩ ?_;clear T1 D1 D2 Kc VU hN K1 ZI;rintro k _ hk ⟨JC,Vv,H,S,⟨T,V,C,ops,hS,D⟩,rfl⟩;by_cases Qj:k<x.ops.length
 ·have dk:=Q5 Qj;have QT:=JX (show k<4611686018427387904 by omega);obtain⟨o,ho⟩:∃o,o=x.ops.getD k default:=⟨_,rfl⟩;have YL:o∈x.ops:=by rw[ho];exact WI x.ops default k Qj
  obtain⟨_,_,_,_,Tx⟩:=T;have Ch:=Fz ⟨_,_,_,_,Tx.YK [⟨.one,0,10,1,λ_=>o.cells⟩]⟩ V C (by omega) o (Ja o YL).1 (Ja o YL).2.c (Ja o YL).2.r;have K1:=Jw.app (n:=H.length) JC Vv H [⟨.one,0,10,1,λ_=>o.cells⟩] .my (QB _);refine Qe hb ?_;simp only[go_sem,Qa,dk,Qj,<- ho];refine qZ hb EK Ch λd h3 hR=>?_;obtain⟨dl,YI,wL,rfl,T3,s3,K3⟩:=hR;apply QC hb;have nx:=(oW (S0 x.config) x.ops Qj).1;rw[<- hS,<- ho]at nx;have hle:h.length<=H.length:=D.len;have D4:=D.trans (QB _) ((K1.X8 hle).trans (by omega) (K3.X8 (by rw[Zj];omega)));refine⟨Qj,_,Qp.frame (by simp only[go_sem,QT]),_,_,_,_,⟨T3,V.do (Ja o YL).1.2.1.2,C.do o,by rw[Oi,ops],nx.symm,D4⟩,rfl⟩
 ·obtain rfl:k=x.ops.length:=by omega
  have dk:=QN Qj;rw[YO]at hS;rw[<- hS];refine Qe hb ?_;simp only[go_sem,Qa,dk,Qj];apply QC hb;exact⟨_,_,_,rfl,T,C,ops,V,D⟩
def Qdk(S:Zf)(op now:Nat):∀e∈(Z2 S op now).2,e.op=op:=by
 unfold Z2;split
 ·intro e he;cases he
 ·split
  ·intro e he;simp only[zn]at he;rw[he];rfl
  ·intro e he;cases he
def QnM(op en):∀(n:Nat) (S:Zf),∀e∈(Zz op en n S).2,e.op=op
 | 0,S=>λe he=>by cases he
 | n+1,S=>λe he=>by
  unfold Zz at he;split at he
  ·cases he
  ·rcases Q9.1 he with h|h
   ·exact Qdk _ _ _ e h
   ·exact QnM op en n _ e h
def Qdl(S:Zf)(o:QZ):∀e∈(QY S o).l,e.op=S.ops:=by
 intro e he;have he:e∈(JA { S with ops:=S.ops+1 } S.ops o).l:=he;unfold JA at he;split at he
 ·cases he
 ·split at he
  ·split at he<;>cases he
  ·split at he
   ·unfold X3 at he;split at he
    ·cases he
    ·split at he
     ·rcases QM.1 he with h|h
      ·rw[h];rfl
      ·exact Qdk _ _ _ e h
     ·cases he
   ·split at he
    ·unfold Yo at he;split at he
     ·cases he
     ·exact QnM _ _ _ _ e he
    ·cases he
def QL(S:Zf)(n:Nat):Prop:=∀j,(Zn S.M j).length<=n
def FC(n:Nd)(a b:Nat):Nd:={ n with q:={ n.q with cd:=a,bd:=b } }
structure jc (M M':Qq):Prop where
 T:M'.T=M.T
 A:M'.A=M.A
 KT:M'.KT=M.KT
 Lv:M'.Lv=M.Lv
 acc:M'.acc=M.acc
 N:∀id n,Ql M.N id=some n->∃a b,Ql M'.N id=some (FC n a b)
def jc.of{M M':Qq}(h1:M'.T=M.T)(h2:M'.A=M.A)(h3:M'.KT=M.KT)(h4:M'.Lv=M.Lv)(h5:M'.acc=M.acc)(h6:M'.N=M.N):jc M M':=
 ⟨h1,h2,h3,h4,h5,λid n hn=>⟨n.q.cd,n.q.bd,by rw[h6,hn];rfl⟩⟩
def QFV(M)(now):jc M (Z1 M now):=by
 unfold Z1;split<;>exact jc.of rfl rfl rfl rfl rfl rfl
def QFW{M}{now}{cls}{x}(h:Y3 M now cls x≠0):jc M (Jr M now cls x):=by
 unfold Y3 at h;unfold Jr;split
 ·rename_i ht;rw[Qf ht]at h;unfold VT;have R:=QFV M now;by_cases wK:V5 (Z1 M now) cls x=30
  ·rw[Qf wK];refine⟨R.T,R.A,R.KT,R.Lv,R.acc,λid n hn=>?_⟩;obtain⟨a,b,h1⟩:=R.N id n hn;rw[LD];split
   ·rename_i e;subst e;have ZY:QD (Z1 M now) id=FC n a b:=by unfold QD;rw[h1];rfl
    obtain⟨_,h2⟩:=Qcn h1 wK;rw[h1,ZY];refine⟨WY (a+1),WY (b+x.len.toNat),?_⟩;simp only[K0,Za];unfold Yj;rw[Qf h2];rfl
   ·exact⟨a,b,h1⟩
  ·rw[Qd wK,Qd h];exact R
 ·exact jc.of rfl rfl rfl rfl rfl rfl
def QFX{M}{b}{l}(h:zX M b l≠0):jc M (Ke M b l):=by
 unfold Ke;rw[Qd h];exact jc.of rfl rfl rfl rfl rfl rfl
def jc.act{M M'}(R:jc M M')(id):JR M' id=JR M id:=by unfold JR;rw[R.T,R.A]
def jc.fit{M M'}(R:jc M M')(id)(n)(a b):VE M' id (FC n a b)=VE M id n:=by
 unfold VE;rw[R.act,R.KT];rfl
def jc.due{M M'}(R:jc M M'):KQ M'=KQ M:=by unfold KQ;rw[R.Lv,R.KT]
def jc.q{M M':Qq}(R:jc M M'){id}{n}(hn:Ql M.N id=some n):Zn M' id=Zn M id:=by
 obtain⟨a,b,h⟩:=R.N id n hn;unfold Zn QD;rw[h,hn];rfl
structure QdB (S S':Zf):Prop where
 M:jc S.M S'.M
 un:S'.JI=S.JI
 R:S'.R=S.R
 st:S'.st=S.st
 ck:S'.Qh=S.Qh
def QFY{S}{o:QZ}(h:(QY S o).r.err≠0):(QY S o).l=[]/\QdB S (QY S o).S:=by
 have same:jc S.M S.M:=jc.of rfl rfl rfl rfl rfl rfl;have h:(JA { S with ops:=S.ops+1 } S.ops o).r.err≠0:=h;show (JA { S with ops:=S.ops+1 } S.ops o).l=[]/\QdB S (JA { S with ops:=S.ops+1 } S.ops o).S;unfold JA at h ⊢;split
 ·rename_i hk;rw[Qf hk]at h;exact⟨rfl,⟨QFX h,rfl,rfl,rfl,rfl⟩⟩
 ·rename_i hk;rw[Qd hk]at h;split
  ·rename_i hk;rw[Qf hk]at h;split
   ·rename_i hr;rw[Qf hr]at h;exact absurd rfl h
   ·exact⟨rfl,⟨same,rfl,rfl,rfl,rfl⟩⟩
  ·rename_i hk;rw[Qd hk]at h;split
   ·rename_i hk;rw[Qf hk]at h;unfold X3 at h ⊢;split
    ·exact⟨rfl,⟨same,rfl,rfl,rfl,rfl⟩⟩
    ·rename_i hf;rw[Qd hf]at h;split
     ·rename_i hp;rw[Qf hp]at h;exact absurd rfl h
     ·rename_i hp;exact⟨rfl,⟨QFW hp,rfl,rfl,rfl,rfl⟩⟩
   ·rename_i hk;rw[Qd hk]at h;split
    ·rename_i hk;rw[Qf hk]at h;unfold Yo at h ⊢;split
     ·exact⟨rfl,⟨same,rfl,rfl,rfl,rfl⟩⟩
     ·rename_i hc;rw[Qd hc]at h;exact absurd rfl h
    ·exact⟨rfl,⟨same,rfl,rfl,rfl,rfl⟩⟩
section
variable (n:Nd)(x y:Nat)(a:Bool)(f:Nat)
@[go_sem] theorem QMN:(FC n x y).q.cd=x:=rfl
@[go_sem] theorem QMO:(FC n x y).q.bd=y:=rfl
theorem QFZ:qH { n with q:={ n.q with cd:=x,bd:=y } } a f=qH (FC n x y) a f:=rfl
end
def Qod:∀{l:List Value},(∀v∈l,YS v v=some true)->jk l l=some true
 | [],_=>rfl
 | a::r,h=>by
  unfold jk;rw[h a Vn,Qod λv hv=>h v (KI _ hv)];rfl
def QF0:∀{v:Value},cat v<2->YS v v=some true
 | .int k a,_=>by cases k<;>simp[YS,IntKind.same]
 | .bool a,_=>by simp[YS]
def QF1{l:List Value}(h:((l.map cat).all λk=>decide (k<2))=true):∀v∈l,cat v<2:=λv hv=>by
 have:=X6.1 h (cat v) (Jk.2 ⟨v,hv,rfl⟩);simpa using this
def dF(n:Nd)(a:Bool)(f:Nat):List Value:=(CG (qH n a f)).getD []
section
variable (n:Nd)(a:Bool)(f:Nat)
@[go_sem] theorem QMP:List.take 67 (qH n a f)=qH n a f:=rfl
@[go_sem] theorem QMQ:CG (qH n a f)=some (dF n a f):=rfl
@[go_sem] theorem QMR:HV (List.map cat (dF n a f)) [0,0,1,0,0,0,0,0,0,0,0,0,0,0,1,0,1,0,0,0,0,0,0,0,0,1,0,0,0,0,0,0,0,0,1,0,0,0,1,0,0,0,0,0,0,0,0,1,0,1,0,0,0,0,0,0,0,0,1,0,0,0,0,0,0,0,0]=true:=rfl
@[go_sem] theorem QMS:jk (dF n a f) (dF n a f)=some true:=Qod λv hv=>QF0 (QF1 (l:=dF n a f) rfl v hv)
end
def Qoe(l:List Int)(hl:l.length<2147483648):Q4 prog 76 [ints l,ints l] (Qn (QJ true)):=by
 refine ZA 0 Qi 200 func76 rfl ntmps76 results76 rfl λbase w hb=>?_;simp only[go_sem];simp only[go_sem,kB];refine BB (G:=Nat) [0,1,11,12] (λk=>True) (λk γ=>[(13,Qb k)]) (λk γ=>[]) (l.length) (0) rfl (Qp.to 0 (by (simp only[go_sem])<;>simp)) trivial ?_;intro k γ hk _;apply Zi hb;have QT:=JX (show k<4611686018427387904 by omega);first|refine YU hk (λQj=>?_) (λQj=>?_)|refine qu hk (λQj=>?_) (λQj=>?_)
 ·simp only[go_sem,Qj];apply QH hb [0,1,2,3,4,5,6,7,8];simp only[go_sem,Qj,kB];repeat (refine And.intro (by first|assumption|omega) ?_)
  refine⟨_,Qp.to 0 (by (simp only[go_sem,QT])<;>simp),VG.mk (γ) (trivial)⟩
 ·simp only[go_sem];exact qY hb
def Qof{own own'}{tw ZK}{h}{p p'}{S S':Zf}(W:zl own tw own' ZK h p p' S S')(R:QdB S S')(b)(ZG:b=false->∀id n,Ql S.M.N id=some n->Ql S'.M.N id=some n)(nx:QP S'=QP S):
  QK prog 32 h [.ptr p 0 0 0,.ptr p' 0 0 0,QJ b] (λd h'=>d=QJ true):=by
 have hC:=oV W.a;have Rf:=R.M;obtain⟨_,_,_,_,Ta⟩:=W.a;obtain⟨_,_,_,_,Tb⟩:=W.b;have I:=Ta.co.I;have hTl:=I.tree.len;have CS:=λg=>(⟨_,_,_,_,Ta.YK g⟩:Kj (QX own h .no) (ZX tw h .my) (h++g) p S);have CT:=λg=>(⟨_,_,_,_,Tb.YK g⟩:Kj (QX own' h .no) (ZX ZK h .my) (h++g) p' S');refine Q6 Qi 200 func32 rfl ntmps32 results32 rfl λbase w pl hb=>?_;simp only[go_sem,Qa];refine Jh hb iL hC λd h1 hR=>?_;obtain⟨rfl,g0,rfl⟩:=hR;obtain⟨ids,FA⟩:∃ids,ids=S.M.T.map (·.iD):=⟨_,rfl⟩;have hil:ids.length=S.M.T.length:=by rw[FA,Kl]
 rw[<- FA];apply QC hb;refine Jg (λk s=>∃g,s=⟨[(0,.ptr p 0 0 0),(1,.ptr p' 0 0 0),(2,QJ b),(7,ints ids),(16,ints ids),(17,Qb ids.length),(18,Qb k)],h++g⟩) ids.length QQ ⟨g0,rfl⟩ ?_;rintro k _ hk ⟨g,rfl⟩;by_cases Qj:k<ids.length
 ·have dk:=Q5 Qj;have QT:=JX (show k<4611686018427387904 by omega);obtain⟨id,Zg⟩:∃id,id=ids.getD k 0:=⟨_,rfl⟩;obtain⟨n,hn⟩:∃n,Ql S.M.N id=some n:=by
   have hm:id∈ids:=by rw[Zg];exact WI ids 0 k Qj
   rw[FA]at hm;obtain⟨cc,Ep,x6⟩:=Jk.1 hm;obtain⟨n,h1,_⟩:=I.NV ((Vs I.tree.rising).2 ⟨Ep,x6⟩);exact⟨n,h1⟩
  obtain⟨x,y,hn'⟩:=Rf.N id n hn;have hG1:=λg=>Qdh (CS g) hn;have hG2:=λg=>Qdh (CT g) hn';rw[Rf.act,Rf.fit]at hG2;obtain⟨A,hA⟩:∃A,A=JR S.M id:=⟨_,rfl⟩;obtain⟨F,hF⟩:∃F,F=VE S.M id n:=⟨_,rfl⟩;rw[<- hA,<- hF]at hG1 hG2;refine Qe hb ?_;simp only[go_sem,Qa,dk,Qj,<- Zg];refine ZN hb sT (hG1 _) λd hR=>?_;subst hR;apply QC hb;refine ZN hb sT (hG2 _) λd hR=>?_;subst hR;refine Ye Qi hb 12 ?_;simp only[go_sem,Qa];first|refine Yu ?_|skip
  refine Lb (λst=>∃m,st=⟨[(0,.ptr p 0 0 0),(1,.ptr p' 0 0 0),(2,QJ b),(7,ints ids),(16,ints ids),(17,Qb ids.length),(18,Qb k),(9,Qb id),(10,.ptr (h.length+g.length) 0 0 0),(11,Qb 0),(12,.ptr (h.length+(g.length+1)) 0 0 0),(13,Qb 0)],h++(g++[SV m A F,SV m A F])⟩) ?_ ?_
  ·cases b with
   | true=>
    apply QC hb;apply Va [] hb [0,1,2,3,4,6,7] [5,8,9,10,11];simp only[go_sem,Qa]
    repeat' refine And.intro ?_ ?_
    all_goals exact⟨⟨[(0,.ptr p 0 0 0),(1,.ptr p' 0 0 0),(2,QJ true),(7,ints ids),(16,ints ids),(17,Qb ids.length),(18,Qb k),(9,Qb id),(10,.ptr (h.length+g.length) 0 0 0),(11,Qb 0),(12,.ptr (h.length+(g.length+1)) 0 0 0),(13,Qb 0)],h++(g++[SV (FC n x y) A F,SV (FC n x y) A F])⟩,⟨FC n x y,rfl⟩,Qp.frame (by simp only[go_sem,QFZ])⟩
   | false=>
    have e:FC n x y=n:=FP (hn'.symm.trans (ZG rfl id n hn));rw[e];apply QC hb;exact⟨⟨[(0,.ptr p 0 0 0),(1,.ptr p' 0 0 0),(2,QJ false),(7,ints ids),(16,ints ids),(17,Qb ids.length),(18,Qb k),(9,Qb id),(10,.ptr (h.length+g.length) 0 0 0),(11,Qb 0),(12,.ptr (h.length+(g.length+1)) 0 0 0),(13,Qb 0)],h++(g++[SV n A F,SV n A F])⟩,⟨n,rfl⟩,QQ⟩
  rintro s1 ⟨m,rfl⟩;have hP1:=λg=>Qdg (CS g) id;have hP2:=λg=>Qdg (CT g) id;rw[Rf.q hn]at hP2;have hQl:(Zn S.M id).length<=64:=Ta.co.cC id;have dG:=QmE (Zn S.M id) (by omega);unfold jD at hP1 hP2 dG;generalize Zn S.M id=Q at *;have On:=λg=>QnK (CS g) id;have Hb:=λg=>QnK (CT g) id;rw[R.st]at Hb;generalize S.st.rows id=rr at *;apply QC hb;refine ZN hb sP (hP1 _) λd hR=>?_;subst hR;apply QC hb;refine ZN hb sP (hP2 _) λd hR=>?_;subst hR;apply QC hb;refine Ax hb Qhn dG (Qn.flat rfl) λd h hR=>?_;obtain⟨rfl,rfl⟩:=hR;apply QC hb;refine ZN hb Qhy (On _) λd hR=>?_;subst hR;apply QC hb;refine ZN hb Qhy (Hb _) λd hR=>?_;subst hR;apply QC hb;exact⟨Qj,_,Qp.frame (by simp only[go_sem,QT]),_,rfl⟩
 ·have dk:=QN Qj;have hC2:=oV (CT g);have Cb:=λg=>cU (CS g);have nN:=λg=>cU (CT g);have zC:=λg=>cW (CS g);have Qok:=λg=>cW (CT g);have zd:=λg=>QcT (CS g);have Qol:=λg=>QcT (CT g);rw[R.ck]at nN;rw[R.un]at Qok;rw[nx]at Qol;rw[Rf.T,<- FA]at hC2;refine Qe hb ?_;simp only[go_sem,Qa,dk];apply QC hb;refine Jh hb iL hC2 λd h5 hR=>?_;obtain⟨rfl,g5,rfl⟩:=hR;apply QC hb;refine Ax hb Qhz (Qoe ids (by omega)) (Qn.flat rfl) λd h hR=>?_;obtain⟨rfl,rfl⟩:=hR;apply QC hb;refine ZN hb Ng (Cb _) λd hR=>?_;subst hR;apply QC hb;refine ZN hb Ng (nN _) λd hR=>?_;subst hR;apply QC hb;refine ZN hb Iw (zC _) λd hR=>?_;subst hR;apply QC hb;refine ZN hb Iw (Qok _) λd hR=>?_;subst hR;apply QC hb;refine ZN hb sW (zd _) λd hR=>?_;subst hR;apply QC hb;refine ZN hb sW (Qol _) λd hR=>?_;subst hR;exact V9 hb
def QF2:Q4 prog 74 [] (Qn (.agg OA.cells)):=by
 refine Oo (R:=λd hh=>J3 6 d (.agg OA.cells)) _ rfl (λd hh h=>.inl h) ?_;refine Il Qi 24 func74 rfl ntmps74 results74 rfl λbase w hb=>?_;simp only[go_sem,Qa];refine kO (Qp.IL rfl (λl o hl=>by simp at hl) 10 3 (Z7 _) rfl rfl (QB 1) rfl ?_) ?_
 ·intro i hi;match i,hi with
  | 0,_=>rfl
  | j+1,h=>exact absurd (show j+1<1 from h) (by omega)
 simp only[go_sem,Qa];refine Ye Qi hb 3 ?_;simp only[go_sem,Qa];refine kO (Qp.IL rfl (λl o hl=>by simp at hl) 13 4 (Z7 _) rfl rfl (QB 1) rfl ?_) ?_
 ·intro i hi;match i,hi with
  | 0,_=>rfl
  | j+1,h=>exact absurd (show j+1<1 from h) (by omega)
 simp only[go_sem,Qa];refine Ye Qi hb 5 ?_;simp only[go_sem,Qa];refine kO (Qp.IL rfl (λl o hl=>by simp at hl) 18 5 (Z7 _) rfl rfl (QB 5) rfl ?_) ?_
 ·intro i hi;match i,hi with
  | 0,_=>rfl
  | 1,_=>rfl
  | 2,_=>rfl
  | 3,_=>rfl
  | 4,_=>rfl
  | j+5,h=>exact absurd (show j+5<5 from h) (by omega)
 simp only[go_sem,Qa];apply QC hb;refine⟨rfl,rfl,rfl,λi hi=>?_⟩;match i,hi with
 | 0,_=>exact⟨rfl,⟨rfl,rfl,λj hj=>by match j,hj with|0,_=>exact BD (kP _) _|j+1,h=>exact absurd (show j+1<1 from h) (by omega)⟩,rfl,rfl,rfl,rfl,rfl,rfl,rfl,rfl,trivial⟩
 | 1,_=>exact⟨rfl,rfl,⟨rfl,rfl,λj hj=>by match j,hj with|0,_=>exact BD (kP _) _|j+1,h=>exact absurd (show j+1<1 from h) (by omega)⟩,rfl,rfl,rfl,rfl,rfl,rfl,rfl,trivial⟩
 | 2,_=>exact⟨rfl,rfl,rfl,rfl,rfl,rfl,rfl,rfl,rfl,rfl,trivial⟩
 | 3,_=>exact⟨rfl,rfl,rfl,rfl,rfl,rfl,rfl,rfl,rfl,rfl,trivial⟩
 | 4,_=>exact⟨rfl,rfl,rfl,rfl,rfl,rfl,rfl,rfl,rfl,rfl,trivial⟩
 | j+5,h=>exact absurd (show j+5<5 from h) (by omega)
theorem o7:LS.length=4:=rfl
theorem o9:LS.getD 0 default=⟨2,true,false,0,0,1,7,100,0,0,0,0⟩:=rfl
theorem pc:LS.getD 1 default=⟨2,false,false,0,100,1,7,100,0,0,0,0⟩:=rfl
theorem pe:LS.getD 2 default=⟨3,true,false,0,0,1,7,100,0,0,0,0⟩:=rfl
theorem pf:LS.getD 3 default=⟨4,false,false,100,200,1,7,100,0,0,0,0⟩:=rfl
def Qom:Q4 prog 30 [] (Qn (QJ true)):=by
 have hR:=Qc8 OA ⟨by decide,by decide,by decide,by decide⟩ (by decide) QE3;rw[show (Zh (S0 OA.config) OA.ops).2.2=LS from QE8]at hR;obtain⟨R,hRR,hl⟩:∃R,R=(Zh (S0 OA.config) OA.ops).2.1/\R.length=5:=⟨_,rfl,QE9⟩;rw[<- hRR]at hR;refine ZA 0 Qi 200 func30 rfl ntmps30 results30 rfl λbase w hb=>?_;simp only[go_sem];refine Zu hb [] QuJ rfl ?_ QF2 rfl λd h hR=>?_
 ·simp only[go_sem,Qa]
 obtain⟨rfl,rfl⟩:=hR;simp only[go_sem,Qa];apply QC hb;have e4:((4:Nat):Int)=4:=rfl;have e5:((5:Nat):Int)=5:=rfl;refine Zu hb [] sS rfl ?_ hR rfl λd h hR=>?_
 ·simp only[go_sem,Qa,o7,hl,e4,e5,o9,pc,pe,pf]
 obtain⟨rfl,rfl⟩:=hR;simp only[go_sem,Qa,o7,hl,e4,e5,o9,pc,pe,pf];refine Qe hb ?_;simp only[go_sem,Qa,o7,hl,e4,e5,o9,pc,pe,pf];simp only[go_sem,List.append_eq,qJ,zo,J7,List.map_nil,Qa,o7,e4,e5,o9,pc,pe,pf]
def S5{x:KW}{m}(h:wN x m=true)(hx:∀a∈x.ops,QZ.Ok a):x.ops.length<=m/\∀o∈x.ops,QZ.Ok o/\QZ.Small o:=by
 simp only[wN,Z9,XM]at h;obtain⟨hlen,KS⟩:=h;refine⟨hlen,λo ho=>?_⟩;have:=X6.1 KS o ho;simp only[LR,Z9,XM]at this;exact⟨hx o ho,by omega,by omega⟩
end Go.Fg.X
