/- Contracts and laws on the way to the statement. No conditions. -/
import Derived.Test.YtjhngjdipealfaaGreatFgHx
import Derived.Test.YtjhngjdipealfaaGreatTA1
import Derived.Test.YtjhngjdipealfaaGreatSC7
set_option maxRecDepth 100000
set_option maxHeartbeats 16000000
set_option linter.unusedVariables false
set_option linter.unusedSimpArgs false
set_option linter.unusedSectionVars false
set_option linter.defProp false
namespace Go.Fg.X
open Go.Proofs Go.Fg
open Go.Proofs.Tryz
@[go_sem] def QAD(n:Int):D:=.raw (.int .u64 n)
def ct(n m):Zh prog 151 [Qb n,Qb m] (Qo (QY (decide (1<=n/\n<=m)))):=by
 refine Zy 0 Qh 200 func151 rfl ntmps151 results151 rfl λbase w hb=>?_;simp only[go_sem];first|refine EX (λh=>?_) (λh=>?_)|refine EY (λh=>?_) (λh=>?_)|refine EZ (λh=>?_) (λh=>?_)|refine vg (λh=>?_) (λh=>?_)|refine E0 (λh=>?_) (λh=>?_)|refine E6 (λh=>?_) (λh=>?_)|refine E7 (λh=>?_) (λh=>?_)|refine ET (λh=>?_) (λh=>?_)
 all_goals (simp only[go_sem];congr 2;rw[kG];simp only[Yq,Yn,false_iff];omega)
def Ni(p:Pk)(m:Int):Int:=if ¬(1<=m/\m<=16384) then 1 else if ¬ (1<=p.len/\p.len<=m) then 26 else 0
def QAE(p:Pk)(m):Zh prog 111 [.agg p.cells,Qb m] (Qo (Qb (Ni p m))):=by
 refine Zy 0 Qh 200 func111 rfl ntmps111 results111 rfl λbase w hb=>?_;simp only[go_sem];refine Wj hb Uw (ct m 16384) (Qo.flat rfl) λd h hR=>?_;obtain⟨rfl,rfl⟩:=hR;apply ZC hb;by_cases h:1<=m/\m<=16384
 ·simp only[go_sem,Q7 h];refine Wj hb Uw (ct p.len m) (Qo.flat rfl) λd h hR=>?_;obtain⟨rfl,rfl⟩:=hR;apply ZC hb;by_cases h2:1<=p.len/\p.len<=m
  ·simp only[go_sem,Q7 h2];simp[Ni,h,h2]
  ·simp only[go_sem,QQ h2];simp[Ni,h,h2]
 ·simp only[go_sem,QQ h];simp[Ni,h]
def Nj(p:Pk)(t:Int):Int:=if (1<=t/\t<=65536)/\(1<=p.len/\p.len<=16384) then IntKind.u64.wrap (p.len*t) else 0
def Nk(p:Pk)(t:Int):Int:=if (1<=t/\t<=65536)/\(1<=p.len/\p.len<=16384) then 0 else 1
def QAF(p:Pk)(t):Zh prog 152 [.agg p.cells,Qb t] (Qo (.tup [QAD (Nj p t),Qb (Nk p t)])):=by
 refine Zy 0 Qh 200 func152 rfl ntmps152 results152 rfl λbase w hb=>?_;simp only[go_sem];refine Wj hb Uw (ct t 65536) (Qo.flat rfl) λd h hR=>?_;obtain⟨rfl,rfl⟩:=hR;apply ZC hb;by_cases h:1<=t/\t<=65536
 ·simp only[go_sem,Q7 h];refine Wj hb Uw (ct p.len 16384) (Qo.flat rfl) λd h hR=>?_;obtain⟨rfl,rfl⟩:=hR;apply ZC hb;by_cases h2:1<=p.len/\p.len<=16384
  ·simp only[go_sem,Q7 h2];have e1:IntKind.u64.wrap p.len=p.len:=UH (by omega) (by omega);have e2:IntKind.u64.wrap t=t:=UH (by omega) (by omega);simp[e1,e2,Nj,Nk,h,h2]
  ·simp only[go_sem,QQ h2];simp[Nj,Nk,h,h2]
 ·simp only[go_sem,QQ h];simp[Nj,Nk,h]
def QAG(h:List Ob){t}(h1:1<=t)(h2:t<=65536):MFn prog 37 h [Qb t] (λd h'=>d=.tup [.ptr h.length 0 0 0,Qb 0]/\h'=h++[qX 0 0 0 t 0]):=by
 have d1:decide (t<1)=false:=QQ (by omega);have d2:decide (65536<t)=false:=QQ (by omega);refine QU Qh 200 func37 rfl ntmps37 results37 rfl λbase w pl hb=>?_;simp only[go_sem,Qa,d1,d2]
section
variable {h:List Ob}{lp a b c:Nat}{t:Int}{u:Nat}(ho:(h.map Ob.ro)[lp]? = some (qX a b c t u).ro)
include ho
theorem o7(now):Zg prog 42 h [.ptr lp 0 0 0,u64 now] (λd=>d=QY (decide (u<=now))):=by
 refine Zt Qh 200 func42 rfl ntmps42 results42 rfl λbase w pl F hF Za hb=>?_;rw[<- hF]at ho;have Qe:=Qc ho;simp only[go_sem,Qa,ho,Qe];all_goals first|exact⟨_,rfl,rfl⟩|exact⟨_,rfl⟩|rfl|exact⟨[],(Zd _).symm⟩|exact⟨[],(Zd _).symm,rfl⟩
theorem QAH:Zg prog 46 h [.ptr lp 0 0 0] (λd=>d=u64 u):=by
 refine Zt Qh 200 func46 rfl ntmps46 results46 rfl λbase w pl F hF Za hb=>?_;rw[<- hF]at ho;have Qe:=Qc ho;simp only[go_sem,Qa,ho,Qe];all_goals first|exact⟨_,rfl,rfl⟩|exact⟨_,rfl⟩|rfl|exact⟨[],(Zd _).symm⟩|exact⟨[],(Zd _).symm,rfl⟩
end
def QAI(h:List Ob){lp a b c}{t}{u}(ho:h[lp]? = some (qX a b c t u))(n)(k):MFn prog 179 h [.ptr lp 0 0 0,Qb n,u64 k] (λd h'=>∃a' b' c',h'=h.set lp (qX a' b' c' t u)):=by
 have e:∀(x y:Nat),∃z:Nat,IntKind.u64.wrap ((x:Int)+y)=z:=λx y=>⟨(IntKind.u64.wrap ((x:Int)+y)).toNat,by rw[IntKind.wrap_u64];omega⟩;have e1:∀(x:Nat) (y:Int),∃z:Nat,IntKind.u64.wrap ((x:Int)+y)=z:=λx y=>⟨(IntKind.u64.wrap ((x:Int)+y)).toNat,by rw[IntKind.wrap_u64];omega⟩;obtain⟨z1,hz1⟩:=e1 a 1;obtain⟨z2,Pa⟩:=e1 b (IntKind.u64.wrap n);obtain⟨z3,hz3⟩:=e c k;have hl:=Qc ho;refine QU Qh 200 func179 rfl ntmps179 results179 rfl λbase w pl hb=>?_;have Qe:=Qc ho;simp only[go_sem,Qa,ho,Qe,hz1,Pa,hz3,Qv hl];exact⟨z1,z2,z3,rfl⟩
def QAL(h:List Ob){lp a b c}{t}{u}(ho:h[lp]? = some (qX a b c t u))(h1:1<=t)(h2:t<=65536){now}(hn:now<=4611686018427387904)(hu:u<=now)(x:Pk)(hx:1<=x.len/\x.len<=16384):
  MFn prog 140 h [.ptr lp 0 0 0,u64 now,.agg x.cells] (λd h'=>d=.tup [u64 (now+x.len.toNat*t.toNat),Qb 0]/\∃a' b' c' g,h'=h.set lp (qX a' b' c' t (now+x.len.toNat*t.toNat))++g):=by
 have hl:=Qc ho;have dn:decide ((4611686018427387904:Int)<(now:Int))=false:=QQ (by omega);have e1:Ni x 16384=0:=by unfold Ni;rw[Qd (by simp),Qd (by simp;omega)]
 have k1:x.len.toNat*t.toNat<=1073741824:=kO (show x.len.toNat<=16384 by omega) (show t.toNat<=65536 by omega);have e2:Nj x t=((x.len.toNat*t.toNat:Nat):Int):=by
  have k2:x.len*t=((x.len.toNat*t.toNat:Nat):Int):=by
   rw[Se,Gc (by omega),Gc (by omega)]
  unfold Nj;rw[Qg ⟨⟨h1,h2⟩,hx⟩,k2];exact UH (by omega) (by omega)
 obtain⟨k,hk⟩:∃k,k=x.len.toNat*t.toNat:=⟨_,rfl⟩;rw[<- hk]at k1 e2 ⊢;have e3:IntKind.u64.wrap ((now:Int)+(k:Int))=((now+k:Nat):Int):=by rw[UH (by omega) (by omega)];omega
 have hT:=QAF x t;have dE:Nk x t=0:=by unfold Nk;rw[Qg ⟨⟨h1,h2⟩,hx⟩]
 rw[e2,dE]at hT;have hM:=QAE x 16384;rw[e1]at hM;refine QU Qh 200 func140 rfl ntmps140 results140 rfl λbase w pl hb=>?_;have Qe:=Qc ho;simp only[go_sem,Qa,ho,Qe,dn];refine ZA hb Qrn rfl ?_ hM (Qo.flat rfl) rfl λd h hR=>?_
 ·simp only[go_sem,Qa,ho,Qe]
 obtain⟨rfl,rfl⟩:=hR;refine Qf hb ?_;simp only[go_sem,Qa,ho,Qe];refine JJ hb Ur (o7 (u:=u) (ZM (by rw[QC hl];exact ho)) now) λd hR=>?_;subst hR;refine Qf hb ?_;simp only[go_sem,Qa,Q7 hu,ho,Qe];apply QH hb [0,1,2,3,4,1005,6,7,8,9,10];simp only[go_sem,Qa,ho,Qe];refine KB hb QrG rfl ?_ hT (Qo.flat rfl) rfl λd h hR=>?_
 ·simp only[go_sem,Qa,ho,Qe,e3,Qv hl]
 obtain⟨rfl,rfl⟩:=hR;refine Zb hb ?_;simp only[go_sem,Qa,ho,Qe,e3,Qv hl];apply KL [6] hb [0,1,2,3,4,5,1006] [];simp only[go_sem,Qa,ho,Qe,Qv hl];obtain⟨H,hH⟩:∃H,H=h.set lp (qX a b c t (now+k))++[(⟨.one,0,6,1,λ_=>x.cells⟩:Ob)]:=⟨_,rfl⟩;have KU:H[lp]? = some (qX a b c t (now+k)):=by rw[hH,QC (by simpa using hl),Qv hl]
 have qm:=Qc KU;have hf:∀o:Ob,H.set lp o=h.set lp o++[(⟨.one,0,6,1,λ_=>x.cells⟩:Ob)]:=λo=>by rw[hH,Bt (by simpa using hl),Ji]
 simp only[go_sem]at hH;rw[<- hH];refine j9 hb QrY (QAI H KU x.len k) λd h6 hR=>?_;obtain⟨a',b',c',rfl⟩:=hR;refine Zb hb ?_;simp only[go_sem,Qv qm];exact⟨a',b',c',_,hf _⟩
def QAM(a):Zh prog 180 [u64 a] (Qo (QY false)):=by
 have e:((a:Int) != (a:Int))=false:=by simp
 refine Zy 0 Qh 200 func180 rfl ntmps180 results180 rfl λbase w hb=>?_;simp only[go_sem];simp only[go_sem,e]
def QiQ(a b):Zh prog 142 [u64 a,u64 b] (Qo (QY (decide (a<b)))):=by
 refine Zy 0 Qh 200 func142 rfl ntmps142 results142 rfl λbase w hb=>?_;simp only[go_sem];refine ZA hb QdP rfl ?_ (QAM a) (Qo.flat rfl) rfl λd h hR=>?_
 ·simp only[go_sem,Go.undef]
 obtain⟨rfl,rfl⟩:=hR;refine Qf hb ?_;simp only[go_sem,Go.undef]
def QAN(h:List Ob)(a b c lo)(row)(ho:(h.map Ob.ro)[lo]? = some ⟨.xm,0,1,2,row⟩)(h0:row 0=[u64 b])(h1:row 1=[u64 c]):
  Zg prog 88 h [u64 a,.ref lo 0 0 2] (λd=>d=u64 (max (max a b) c)):=by
 simp only[go_sem]at h0 h1;refine Zt Qh 200 func88 rfl ntmps88 results88 rfl λbase w pl F hF Za hb=>?_;rw[<- hF]at ho;have Qe:=Qc ho;simp only[go_sem,Qa,ho,Qe];have w1:IntKind.i64.wrap 1=1:=rfl;have w2:IntKind.i64.wrap 2=2:=rfl;have key:∀m k:Nat,∃d:Bool,d=decide (m<k)/\max m k=bif d then k else m:=λm k=>⟨_,rfl,by
  by_cases e:m<k
  ·rw[Q7 e];show _=k;omega
  ·rw[QQ e];show _=m;omega⟩
 obtain⟨d1,e1,m1⟩:=key a b;have L1:=QiQ a b;rw[<- e1]at L1;obtain⟨d2,e2,m2⟩:=key (max a b) c;have L2:=QiQ (max a b) c;rw[<- e2]at L2;rw[m2];rw[m1]at L2 ⊢;clear e1 e2 m1 m2 key;cases d1<;>cases d2;all_goals
  simp only[jQ,qB]at L2 ⊢;refine vv 2 ?_;refine Qf hb ?_;simp only[go_sem,Qa,ho,Qe,h0];refine Ax hb zk L1 (Qo.flat rfl) λd h hR=>?_;obtain⟨rfl,rfl⟩:=hR;apply Q1 hb;refine Qf hb ?_;simp only[go_sem,Qa,ho,Qe,h1,w1];refine Ax hb zk L2 (Qo.flat rfl) λd h hR=>?_;obtain⟨rfl,rfl⟩:=hR;apply Q1 hb;refine Qf hb ?_;simp only[go_sem,Qa,ho,Qe,h1,w2];refine Qf hb ?_;simp only[go_sem,Qa,ho,Qe,h1,w2];all_goals first|exact⟨_,rfl,rfl⟩|exact⟨_,rfl⟩|rfl|exact⟨[],(Zd _).symm⟩|exact⟨[],(Zd _).symm,rfl⟩
def QAO(h:List Ob)(a lo)(row)(ho:(h.map Ob.ro)[lo]? = some ⟨.xm,0,1,1,row⟩)(h0:row 0=[u64 a]):
  Zg prog 87 h [.ref lo 0 0 1] (λd=>d=u64 (min 9223372036854775808 a)):=by
 simp only[go_sem]at h0;have e:min (9223372036854775808:Int) (a:Int)=((min 9223372036854775808 a:Nat):Int):=by omega
 have w1:IntKind.i64.wrap 1=1:=rfl;refine Zt Qh 200 func87 rfl ntmps87 results87 rfl λbase w pl F hF Za hb=>?_;rw[<- hF]at ho;have Qe:=Qc ho;simp only[go_sem,Qa,ho,Qe];refine vv 1 ?_;refine Qf hb ?_;simp only[go_sem,Qa,ho,Qe,h0,e,w1];refine Qf hb ?_;simp only[go_sem,Qa,ho,Qe,h0,e,w1];refine Qf hb ?_;simp only[go_sem,Qa,ho,Qe,h0,e,w1];all_goals first|exact⟨_,rfl,rfl⟩|exact⟨_,rfl⟩|rfl|exact⟨[],(Zd _).symm⟩|exact⟨[],(Zd _).symm,rfl⟩
def QAP(a b c):Zh prog 45 [u64 a,u64 b,u64 c] (Qo (u64 (XU a b c))):=by
 have e:XU a b c=min 9223372036854775808 (max (max a b) c):=by unfold XU;omega
 rw[e];refine Zy 0 Qh 200 func45 rfl ntmps45 results45 rfl λbase w hb=>?_;simp only[go_sem];refine JJ hb Qri (QAN _ a b c 0 _ (ZM (o:=⟨.arr,0,1,2,_⟩) rfl) rfl rfl) λd hR=>?_;subst hR;apply Q1 hb;obtain⟨m,hm⟩:∃m,m=max (max a b) c:=⟨_,rfl⟩;rw[<- hm];refine JJ hb Qrh (QAO _ m 1 _ (ZM (o:=⟨.arr,0,1,1,_⟩) rfl) rfl) λd hR=>?_;subst hR;exact LV hb
def QAQ(h:List Ob):MFn prog 39 h [] (λd h'=>d=.ptr (h.length+2) 0 0 0/\h'=h++[QM .i64 0 [],QM .i64 0 [],o5 h.length (h.length+1)]):=by
 refine QU Qh 200 func39 rfl ntmps39 results39 rfl λbase w pl hb=>?_;simp only[go_sem,Qa]
def DS.put{S}{h h'}{p cm rm c1}{Zw}{c2}{ZQ}{s}(T:DS S h p cm rm c1 Zw c2 ZQ s){cls}{d}{l}(lo)
  (hc:h'[cm]? = some (JI .i64 c1 Zw cls d)) (ho:∀j o,h[j]? = some o->j≠cm->j≠lo->h'[j]? = some o) (hd:Ia (more S h) h' d l) (hl:∀j g off n,d=.ref j g off n->j=lo)
  (hs:∀k j g off n,k≠cls->ZP Zw k=some (.ref j g off n)->j≠lo) (hp:p≠lo) (hr:rm≠lo) :
  Yk (more S h) h' p { s with ZV:=λk=>if k=cls then l else s.ZV k }:=by
 obtain⟨c',es',h3,h4⟩:=rL .i64 c1 Zw cls d;have ze:p≠cm:=λe=>by have:=T.o;rw[e,T.co]at this;cases this
 refine⟨cm,rm,c',es',c2,ZQ,ho _ _ T.o ze hp,by rw[hc,h3],ho _ _ T.ro (Q3 T.ne) hr,T.ne,.inl T.sp,.inl T.sc,.inl T.sr,λk=>?_,λk1 k2 j g off n g' xr n' h1 h2=>?_,T.rw_⟩
 ·rw[h4 k];by_cases hk:k=cls
  ·rw[Qg hk];dsimp only;rw[Qg hk];exact hd
  ·rw[Qd hk];dsimp only;rw[Qd hk];rcases T.ca k with ⟨h1,h2⟩|⟨j,g,off,row,h1,h2,h5,h6⟩
   ·exact .inl ⟨h1,h2⟩
   ·have ZW:ZP Zw k=some (.ref j g off (s.ZV k).length):=by
     cases ha:ZP Zw k with
     | none=>rw[ha]at h1;cases h1
     | some d'=>rw[ha]at h1;exact congrArg some h1
    refine .inr ⟨j,g,off,row,h1,.inl h2,ho j _ h5 (λe=>?_) (hs k _ _ _ _ hk ZW),h6⟩;rw[e,T.co]at h5;cases h5
 ·rw[h4 k1]at h1;rw[h4 k2]at h2;by_cases a1:k1=cls<;>by_cases a2:k2=cls
  ·rw[a1,a2]
  ·rw[Qg a1]at h1;rw[Qd a2]at h2;exact absurd (hl _ _ _ _ (IC h1)) (hs k2 _ _ _ _ a2 h2)
  ·rw[Qd a1]at h1;rw[Qg a2]at h2;exact absurd (hl _ _ _ _ (IC h2)) (hs k1 _ _ _ _ a1 h1)
  ·rw[Qd a1]at h1;rw[Qd a2]at h2;exact T.sep k1 k2 j g off n g' xr n' h1 h2
def QAR{S}{h}{p}{s:jK}(T:Yk S h p s)(cls:Int)(a)(hb:(s.ZV cls).length<1000000):
  MFn prog 85 h [.ptr p 0 0 0,Qb cls,u64 a] (λd h'=>d=Qb 0/\Step S h h'/\Yk (more S h) h' p (AV s cls a)):=by
 obtain⟨cm,rm,c1,Zw,c2,ZQ,T⟩:=T;have ho:=T.o;have hm:=T.co;have Qe:=Qc ho;have QK:=Qc hm;have hp:=T.ca cls;have ze:p≠cm:=λe=>by rw[e,hm]at ho;cases ho
 have Jg:AV s cls a={ s with ZV:=λk=>if k=cls then s.ZV cls++[a] else s.ZV k }:=by
  unfold AV;congr 1;funext k;by_cases hk:k=cls
  ·rw[Qg hk,Qg hk,hk]
  ·rw[Qd hk,Qd hk]
 rw[Jg];have N6:∀k j g off n,ZP Zw k=some (.ref j g off n)->j<h.length:=λk j g off n hk=>by
  rcases T.ca k with ⟨h1,_⟩|⟨j',_,_,_,h1,_,h3,_⟩
  ·rw[hk]at h1;cases h1
  ·rw[hk]at h1;cases h1;exact Qc h3
 have new:(ZP Zw cls=none\/ZP Zw cls=some .nil)->s.ZV cls=[]->Step S h (h.set cm (JI .i64 c1 Zw cls (.ref (h.length+1) 0 0 1))++[⟨.arr,0,1,1,λ_=>[u64 a]⟩,⟨.arr,0,1,1,λ_=>[u64 a]⟩]) /\
   Yk (more S h) (h.set cm (JI .i64 c1 Zw cls (.ref (h.length+1) 0 0 1))++[⟨.arr,0,1,1,λ_=>[u64 a]⟩,⟨.arr,0,1,1,λ_=>[u64 a]⟩]) p { s with ZV:=λk=>if k=cls then s.ZV cls++[a] else s.ZV k }:=λhk hw=>by
  refine⟨⟨λl hl hn=>?_,by simp⟩,T.put (d:=.ref (h.length+1) 0 0 1) (h.length+1) ?_ (λj o hj h1 h2=>?_) (.inr ⟨h.length+1,0,0,λ_=>[u64 a],by simp[hw],.inr (by omega),?_,λi hi=>?_⟩) (λj g off n e=>by cases e;rfl) (λk j g off n _ ZW=>by have:=N6 k _ _ _ _ ZW;omega) (by omega) (by have:=Qc T.ro;omega)⟩
  ·rw[QC (by simpa using hl),Qi (λe=>hn (by rw[<- e];exact T.sc))]
  ·rw[QC (by simpa using QK),Qv QK]
  ·rw[QC (by simpa using Qc hj),Qi (Q3 h1),hj]
  ·rw[KX (k:=1) (by simp),hw];rfl
  ·rw[hw]at hi ⊢;simp at hi;subst hi;rfl
 cases hk:ZP Zw cls with
 | none=>
  rw[hk]at hp;have fin:=new (.inl hk) hp.nil;refine QU Qh 200 func85 rfl ntmps85 results85 rfl λbase w pl hb=>?_;have Qe:=Qc ho;have QK:=Qc hm;simp only[go_sem,Qa,ho,Qe,hm,QK,ze,ze.symm,hk];apply KL [] hb [0,1,2,4,5,6,7,8,9,10,11] [3,12,13,14];simp only[go_sem,Qa,ho,Qe,hm,QK,ze,ze.symm,hk,Qv,Qi,↓reduceIte];simp only[go_sem]at fin ⊢
  repeat' apply And.intro
  all_goals first|exact fin.1|exact fin.2
 | some d=>
  rw[hk]at hp;rcases hp with ⟨h2,h3⟩|⟨lo,g,off,row,h2,hS,h3,h4⟩
  ·simp only[KS]at h2;subst h2;have fin:=new (.inr hk) h3;refine QU Qh 200 func85 rfl ntmps85 results85 rfl λbase w pl hb=>?_;have Qe:=Qc ho;have QK:=Qc hm;simp only[go_sem,Qa,ho,Qe,hm,QK,ze,ze.symm,hk];apply KL [] hb [0,1,2,4,5,6,7,8,9,10,11] [3,12,13,14];simp only[go_sem,Qa,ho,Qe,hm,QK,ze,ze.symm,hk,Qv,Qi,↓reduceIte];simp only[go_sem]at fin ⊢
   repeat' apply And.intro
   all_goals first|exact fin.1|exact fin.2
  ·simp only[KS]at h2;subst h2;have n1:lo≠p:=λe=>by rw[e,ho]at h3;cases h3
   have n2:lo≠cm:=λe=>by rw[e,hm]at h3;cases h3
   have n3:lo≠rm:=λe=>by rw[e,T.ro]at h3;cases h3
   have yg:(s.ZV cls).length<=4294967295:=by omega
   have h9:(s.ZV cls).length+1<=4294967295:=by omega
   have Zz:=Qc h3;have fin:Step S h ((h.set lo ⟨.arr,g+1,1,(s.ZV cls).length+1,J2 (s.ZV cls).length off row λ_=>[u64 a]⟩).set cm (JI .i64 c1 Zw cls (.ref lo (g+1) 0 ((s.ZV cls).length+1)))++[⟨.arr,0,1,1,λ_=>[u64 a]⟩]) /\
     Yk (more S h) ((h.set lo ⟨.arr,g+1,1,(s.ZV cls).length+1,J2 (s.ZV cls).length off row λ_=>[u64 a]⟩).set cm (JI .i64 c1 Zw cls (.ref lo (g+1) 0 ((s.ZV cls).length+1)))++[⟨.arr,0,1,1,λ_=>[u64 a]⟩]) p { s with ZV:=λk=>if k=cls then s.ZV cls++[a] else s.ZV k }:=by
    refine⟨⟨λl hl hn=>?_,by simp⟩,T.put (d:=.ref lo (g+1) 0 ((s.ZV cls).length+1)) lo ?_ (λj o hj h1 h2=>?_) (.inr ⟨lo,g+1,0,J2 (s.ZV cls).length off row λ_=>[u64 a],by simp,.inl hS,?_,λi hi=>?_⟩) (λj g off n e=>by cases e;rfl) (λk j g' xr n' QB ZD e=>?_) (Q3 n1) (Q3 n3)⟩
    ·rw[QC (by simpa using hl),Qi (λe=>hn (by rw[<- e];exact T.sc)),Qi (λe=>hn (by rw[<- e];exact hS))]
    ·rw[QC (by simpa using QK),Qv (by simpa using QK)]
    ·rw[QC (by simpa using Qc hj),Qi (Q3 h1),Qi (Q3 h2),hj]
    ·rw[QC (by simpa using Zz),Qi (Q3 n2),Qv Zz];simp
    ·simp at hi;rw[JG];by_cases Yx:i<(s.ZV cls).length
     ·rw[yL Yx,h4 i Yx];simp[Yx,Jy Yx]
     ·have:i=(s.ZV cls).length:=by omega
      subst this;rw[vV (QD _)];simp
    ·subst e;exact QB (T.sep _ _ _ _ _ _ _ _ _ ZD hk)
   refine QU Qh 200 func85 rfl ntmps85 results85 rfl λbase w pl hb=>?_;have Qe:=Qc ho;have QK:=Qc hm;have Zz:=Qc h3;simp only[go_sem,Qa,ho,Qe,hm,QK,h3,Zz,ze,ze.symm,hk,n1,n2,n1.symm,n2.symm];apply KL [] hb [0,1,2,4,5,6,7,8,9,10,11] [3,12,13,14];simp only[go_sem,Qa,ho,Qe,hm,QK,ze,ze.symm,hk,Qv,Qi,h3,Zz,n1,n2,n1.symm,n2.symm,↓reduceIte,yg,h9];simp only[go_sem]at fin ⊢
   repeat' apply And.intro
   all_goals first|exact fin.1|exact fin.2
def DS.row{S}{h h'}{p cm rm c1}{Zw}{c2}{ZQ}{s}(T:DS S h p cm rm c1 Zw c2 ZQ s){cls}{r}
  (hr:h'[rm]? = some (JI .i64 c2 ZQ cls (.agg r.cells))) (ho:∀j o,h[j]? = some o->j≠rm->h'[j]? = some o) :
  ∃c2' Di,DS S h' p cm rm c1 Zw c2' Di { s with rows:=λk=>if k=cls then r else s.rows k }:=by
 obtain⟨c',es',h3,h4⟩:=rL .i64 c2 ZQ cls (.agg r.cells);have B7:p≠rm:=λe=>by have:=T.o;rw[e,T.ro]at this;cases this
 refine⟨c',es',ho _ _ T.o B7,ho _ _ T.co T.ne,by rw[hr,h3],T.ne,T.sp,T.sc,T.sr,λk=>?_,T.sep,λk=>?_⟩
 ·rcases T.ca k with h1|⟨j,g,off,row,h1,h2,h5,h6⟩
  ·exact .inl h1
  ·refine .inr ⟨j,g,off,row,h1,h2,ho j _ h5 (λe=>?_),h6⟩;rw[e,T.ro]at h5;cases h5
 ·rw[h4 k];dsimp only;by_cases hk:k=cls
  ·rw[Qg hk,Qg hk];rfl
  ·rw[Qd hk,Qd hk];exact T.rw_ k
def qU.QAS{a b:qU}(h:a.cells=b.cells):a=b:=by
 obtain⟨a1,a2,a3,a4,a5⟩:=a;obtain⟨b1,b2,b3,b4,b5⟩:=b;simp only[qU.cells,u64,Gd,D.raw.injEq,Value.int.injEq,xl,and_true]at h;obtain⟨h1,h2,h3,h4,h5⟩:=h;congr 1<;>omega
def No(a b:Nat):IntKind.u64.wrap ((a:Int)+(b:Int))=(((a+b) % 18446744073709551616:Nat):Int):=by
 rw[IntKind.wrap_u64];omega
def QAT{S}{h}{p}{s}(T:Yk S h p s)(cls){done}(hd:done<18446744073709551616){bytes}(J3:1<=bytes)(ZB:bytes<=16384)(real):
  MFn prog 141 h [.ptr p 0 0 0,Qb cls,u64 done,Qb bytes,QY real] (λd h'=>Step S h h'/\Yk (more S h) h' p (Yj s cls done bytes real)):=by
 obtain⟨cm,rm,c1,Zw,c2,ZQ,T⟩:=T;have ho:=T.o;have hm:=T.co;have hr:=T.ro;have QB:=T.ne;have Qe:=Qc ho;have QK:=Qc hm;have KI:=Qc hr;have hp:=T.ca cls;have ze:p≠cm:=λe=>by rw[e,hm]at ho;cases ho
 have B7:p≠rm:=λe=>by rw[e,hr]at ho;cases ho
 have same:∀g:List Ob,Yj s cls done bytes real=s->Step S h (h++g)/\Yk (more S h) (h++g) p (Yj s cls done bytes real):=λg e=>by
  rw[e];exact⟨Step.app S h g,Yk.step (λj hj h1=>⟨.inl h1,QC hj⟩) ⟨cm,rm,c1,Zw,c2,ZQ,T⟩⟩
 have cu:Yj s cls done bytes real=s->Step S h h/\Yk (more S h) h p (Yj s cls done bytes real):=λe=>by
  have:=same [] e;rwa [Zd]at this
 obtain⟨r,xn⟩:∃r,r=s.rows cls:=⟨_,rfl⟩;have Zx:=T.rw_ cls;rw[<- xn]at Zx;cases hk:ZP Zw cls with
 | none=>
  rw[hk]at hp;have h0:=hp.nil;have fin:=cu (by unfold Yj;rw[h0]);refine QU Qh 200 func141 rfl ntmps141 results141 rfl λbase w pl hb=>?_;have Qe:=Qc ho;have QK:=Qc hm;simp only[go_sem,Qa,ho,Qe,hm,QK,hk];exact fin
 | some d=>
  rw[hk]at hp;rcases hp with ⟨h2,h3⟩|⟨lo,g,off,row,h2,hS,h3,h4⟩
  ·simp only[KS]at h2;subst h2;have fin:=cu (by unfold Yj;rw[h3]);refine QU Qh 200 func141 rfl ntmps141 results141 rfl λbase w pl hb=>?_;have Qe:=Qc ho;have QK:=Qc hm;simp only[go_sem,Qa,ho,Qe,hm,QK,hk];exact fin
  ·simp only[KS]at h2;subst h2;have Zz:=Qc h3;cases hc:s.ZV cls with
   | nil=>
    have fin:=cu (by unfold Yj;rw[hc]);rw[hc]at hk;refine QU Qh 200 func141 rfl ntmps141 results141 rfl λbase w pl hb=>?_;have Qe:=Qc ho;have QK:=Qc hm;simp only[go_sem,Qa,ho,Qe,hm,QK,hk];exact fin
   | cons a l=>
    rw[hc]at hk h3 h4;have ha:=h4 0 (by simp);simp only[go_sem,Gh,List.getD_cons_zero]at ha;have d1:decide (bytes<1)=false:=QQ (by omega);have d0:(((l.length+1:Nat):Int)==0)=false:=by simp;omega
    have g1:(0:Int)<((l.length+1:Nat):Int):=by omega
    have g2:off<off+(l.length+1):=by omega
    have n1:lo≠p:=λe=>by rw[e,ho]at h3;cases h3
    have n2:lo≠cm:=λe=>by rw[e,hm]at h3;cases h3
    have n3:rm≠lo:=λe=>by rw[<- e,hr]at h3;cases h3
    have N6:∀k j g off n,ZP Zw k=some (.ref j g off n)->j<h.length:=λk j g off n hk=>by
     rcases T.ca k with ⟨h1,_⟩|⟨j',_,_,_,h1,_,h3,_⟩
     ·rw[hk]at h1;cases h1
     ·rw[hk]at h1;cases h1;exact Qc h3
    have nz:∀(R2:qU) (o:Ob),Yj s cls done bytes real=⟨λk=>if k=cls then l else s.ZV k,λk=>if k=cls then R2 else s.rows k⟩ ->
      Step S h ((h.set rm (JI .i64 c2 ZQ cls (.agg R2.cells))).set cm (JI .i64 c1 Zw cls (.ref lo g (off+1) l.length))++[o])/\Yk (more S h) ((h.set rm (JI .i64 c2 ZQ cls (.agg R2.cells))).set cm (JI .i64 c1 Zw cls (.ref lo g (off+1) l.length))++[o]) p (Yj s cls done bytes real):=λR2 o e=>by
     rw[e];obtain⟨c2',Di,T1⟩:=T.row (h':=h.set rm (JI .i64 c2 ZQ cls (.agg R2.cells))) (r:=R2) (cls:=cls) (Qv KI) (λj o hj h1=>by rw[Qi (Q3 h1)];exact hj);have hlen:(h.set rm (JI .i64 c2 ZQ cls (.agg R2.cells))).length=h.length:=by simp
     have PU:more S (h.set rm (JI .i64 c2 ZQ cls (.agg R2.cells)))=more S h:=by unfold more;rw[hlen]
     refine⟨⟨λj hj hn=>?_,by simp⟩,?_⟩
     ·rw[QC (by simpa using hj),Qi (λe=>hn (by rw[<- e];exact T.sc)),Qi (λe=>hn (by rw[<- e];exact T.sr))]
     ·rw[<- PU];refine T1.put (d:=.ref lo g (off+1) l.length) lo ?_ (λj o hj h1 h2=>?_) (.inr ⟨lo,g,off+1,row,rfl,.inl hS,?_,λi hi=>?_⟩) (λj g off n e=>by cases e;rfl) (λk j g' xr n' QB ZD e=>?_) (Q3 n1) n3
      ·rw[QC (by simpa using QK),Qv (by simpa using QK)]
      ·rw[QC (by have:=Qc hj;simpa using this),Qi (Q3 h1),hj]
      ·rw[QC (by simpa using Zz),Qi (Q3 n2),Qi n3,h3];simp only[Vu,QV,Ob.mk.injEq,xl,and_true];omega
      ·rw[show off+1+i=off+(i+1) by omega,h4 (i+1) (by simpa using hi)];simp
      ·subst e;exact QB (T.sep _ _ _ _ _ _ _ _ _ ZD hk)
    by_cases h5:done<a
    ·have d2:=Q7 h5;have fin:=cu (by unfold Yj;rw[hc];dsimp only;rw[Qd (by omega),Qg h5]);refine QU Qh 200 func141 rfl ntmps141 results141 rfl λbase w pl hb=>?_;have Qe:=Qc ho;have QK:=Qc hm;have Zz:=Qc h3;simp only[go_sem,Qa,ho,Qe,hm,QK,h3,Zz,hk,d0,d1,d2,ha];exact⟨g1,g2,fin⟩
    ·have d2:=QQ h5;have e0:Yj s cls done bytes real=⟨λk=>if k=cls then l else s.ZV k,λk=>if k=cls then wY r a done bytes real else s.rows k⟩:=by
      unfold Yj;rw[hc];dsimp only;rw[Qd (by omega),Qd h5];congr 1;funext k;by_cases qH:k=cls
      ·rw[Qg qH,Qg qH,qH,<- xn]
      ·rw[Qd qH,Qd qH]
     have fin:∀(o:Ob) (R2:qU),R2=wY r a done bytes real->∀n,n=l.length->Step S h ((h.set rm (JI .i64 c2 ZQ cls (.agg R2.cells))).set cm (JI .i64 c1 Zw cls (.ref lo g (off+1) n))++[o])/\Yk (more S h) ((h.set rm (JI .i64 c2 ZQ cls (.agg R2.cells))).set cm (JI .i64 c1 Zw cls (.ref lo g (off+1) n))++[o]) p (Yj s cls done bytes real):=λo R2 nW n hn=>by
      subst hn;exact nz R2 o (by rw[e0,nW])
     have w1:IntKind.u64.wrap ((r.p:Int)+1)=(((r.p+1) % 18446744073709551616:Nat):Int):=No r.p 1;have w2:IntKind.u64.wrap bytes=((bytes.toNat:Nat):Int):=by rw[IntKind.wrap_u64];omega
     have w3:=No r.b bytes.toNat
     have w4:IntKind.u64.wrap ((r.r:Int)+1)=(((r.r+1) % 18446744073709551616:Nat):Int):=No r.r 1;have w5:IntKind.u64.wrap ((done:Int) - (a:Int))=((done - a:Nat):Int):=by rw[IntKind.wrap_u64];omega
     have w6:=No r.w (done - a);have w7:max ((r.l:Nat):Int) ((done - a:Nat):Int)=((max r.l (done - a):Nat):Int):=by omega
     have w8:(((l.length+1:Nat):Int) - 1).toNat=l.length:=by omega
     have ZW:(ZP ZQ cls=some (.agg r.cells))\/(ZP ZQ cls=none/\r=default):=by
      cases hh:ZP ZQ cls with
      | some d=>rw[hh]at Zx;exact .inl (congrArg some Zx)
      | none=>
       rw[hh]at Zx;have Zx:D.agg (default:qU).cells=D.agg r.cells:=Zx;exact .inr ⟨rfl,(qU.QAS (D.agg.inj Zx)).symm⟩
     rcases ZW with ZW|⟨ZW,Wp⟩
     ·refine QU Qh 200 func141 rfl ntmps141 results141 rfl λbase w pl hb=>?_;have Qe:=Qc ho;have QK:=Qc hm;have Zz:=Qc h3;have KI:=Qc hr;simp only[go_sem,Qa,ho,Qe,hm,QK,h3,Zz,hr,KI,hk,d0,d1,d2,ha,ZW,w1,w2,w3];cases real with
      | true=>
       have wU:=fin ⟨.one,0,5,1,λ_=>(wY r a done bytes true).cells⟩ _ rfl _ w8;simp only[go_sem,wY,↓reduceIte,w8,Yn]at wU;simp only[go_sem,Qa,w4];repeat (refine And.intro (by first|exact g1|exact g2|omega) ?_)
       apply QH hb [0,1,2,3,4,5,6,7,8,1009];simp only[go_sem,Qa,ho,Qe,h3,Zz,ha,w5,w6];repeat (refine And.intro (by first|exact g1|exact g2|omega) ?_)
       apply QH hb [0,1,2,3,4,5,6,7,8,1009];simp only[go_sem,Qa,ho,Qe,h3,Zz,ha,w5,w7];repeat (refine And.intro (by first|exact g1|exact g2|omega) ?_)
       apply QH hb [0,1,2,3,4,5,1006];simp only[go_sem,Qa,ho,Qe,h3,Zz,hr,KI,Qi];repeat (refine And.intro (by first|exact g1|exact g2|omega) ?_)
       apply QH hb [0,1,2,3,4,5,6,1007];simp only[go_sem,Qa,ho,Qe,h3,Zz,hm,QK,KI,Qi B7.symm,Qi QB.symm,Qi n3];repeat (refine And.intro (by first|exact g1|exact g2|omega) ?_)
       simp only[go_sem,w8,Qi n3,h3,Iy];exact wU
      | false=>
       have wU:=fin ⟨.one,0,5,1,λ_=>(wY r a done bytes false).cells⟩ _ rfl _ w8;simp only[go_sem,wY,↓reduceIte,w8,Yn]at wU;simp only[go_sem,Qa];repeat (refine And.intro (by first|exact g1|exact g2|omega) ?_)
       apply QH hb [0,1,2,3,4,5,6,7,8,1009];simp only[go_sem,Qa,ho,Qe,h3,Zz,ha,w5,w6];repeat (refine And.intro (by first|exact g1|exact g2|omega) ?_)
       apply QH hb [0,1,2,3,4,5,6,7,8,1009];simp only[go_sem,Qa,ho,Qe,h3,Zz,ha,w5,w7];repeat (refine And.intro (by first|exact g1|exact g2|omega) ?_)
       apply QH hb [0,1,2,3,4,5,1006];simp only[go_sem,Qa,ho,Qe,h3,Zz,hr,KI,Qi];repeat (refine And.intro (by first|exact g1|exact g2|omega) ?_)
       apply QH hb [0,1,2,3,4,5,6,1007];simp only[go_sem,Qa,ho,Qe,h3,Zz,hm,QK,KI,Qi B7.symm,Qi QB.symm,Qi n3];repeat (refine And.intro (by first|exact g1|exact g2|omega) ?_)
       simp only[go_sem,w8,Qi n3,h3,Iy];exact wU
     ·have Wp:r=⟨0,0,0,0,0⟩:=Wp;subst Wp;have v1:IntKind.u64.wrap 1=1:=rfl;have v3:IntKind.u64.wrap (0+((bytes.toNat:Nat):Int))=(((0+bytes.toNat) % 18446744073709551616:Nat):Int):=No 0 bytes.toNat
      have v6:IntKind.u64.wrap (0+((done - a:Nat):Int))=(((0+(done - a)) % 18446744073709551616:Nat):Int):=No 0 (done - a);have v7:max (0:Int) ((done - a:Nat):Int)=((max 0 (done - a):Nat):Int):=by omega
      refine QU Qh 200 func141 rfl ntmps141 results141 rfl λbase w pl hb=>?_;have Qe:=Qc ho;have QK:=Qc hm;have Zz:=Qc h3;have KI:=Qc hr;simp only[go_sem,Qa,ho,Qe,hm,QK,h3,Zz,hr,KI,hk,d0,d1,d2,ha,ZW,w2,v1,v3];cases real with
      | true=>
       have wU:=fin ⟨.one,0,5,1,λ_=>(wY ⟨0,0,0,0,0⟩ a done bytes true).cells⟩ _ rfl _ w8;simp only[go_sem,wY,↓reduceIte,w8,Yn]at wU;simp only[go_sem,Qa,v1];repeat (refine And.intro (by first|exact g1|exact g2|omega) ?_)
       apply QH hb [0,1,2,3,4,5,6,7,8,1009];simp only[go_sem,Qa,ho,Qe,h3,Zz,ha,w5,v6];repeat (refine And.intro (by first|exact g1|exact g2|omega) ?_)
       apply QH hb [0,1,2,3,4,5,6,7,8,1009];simp only[go_sem,Qa,ho,Qe,h3,Zz,ha,w5,v7];repeat (refine And.intro (by first|exact g1|exact g2|omega) ?_)
       apply QH hb [0,1,2,3,4,5,1006];simp only[go_sem,Qa,ho,Qe,h3,Zz,hr,KI,Qi];repeat (refine And.intro (by first|exact g1|exact g2|omega) ?_)
       apply QH hb [0,1,2,3,4,5,6,1007];simp only[go_sem,Qa,ho,Qe,h3,Zz,hm,QK,KI,Qi B7.symm,Qi QB.symm,Qi n3];repeat (refine And.intro (by first|exact g1|exact g2|omega) ?_)
       simp only[go_sem,w8,Qi n3,h3,Iy];exact wU
      | false=>
       have wU:=fin ⟨.one,0,5,1,λ_=>(wY ⟨0,0,0,0,0⟩ a done bytes false).cells⟩ _ rfl _ w8;simp only[go_sem,wY,↓reduceIte,w8,Yn]at wU;simp only[go_sem,Qa];repeat (refine And.intro (by first|exact g1|exact g2|omega) ?_)
       apply QH hb [0,1,2,3,4,5,6,7,8,1009];simp only[go_sem,Qa,ho,Qe,h3,Zz,ha,w5,v6];repeat (refine And.intro (by first|exact g1|exact g2|omega) ?_)
       apply QH hb [0,1,2,3,4,5,6,7,8,1009];simp only[go_sem,Qa,ho,Qe,h3,Zz,ha,w5,v7];repeat (refine And.intro (by first|exact g1|exact g2|omega) ?_)
       apply QH hb [0,1,2,3,4,5,1006];simp only[go_sem,Qa,ho,Qe,h3,Zz,hr,KI,Qi];repeat (refine And.intro (by first|exact g1|exact g2|omega) ?_)
       apply QH hb [0,1,2,3,4,5,6,1007];simp only[go_sem,Qa,ho,Qe,h3,Zz,hm,QK,KI,Qi B7.symm,Qi QB.symm,Qi n3];repeat (refine And.intro (by first|exact g1|exact g2|omega) ?_)
       simp only[go_sem,w8,Qi n3,h3,Iy];exact wU
@[go_sem] def QFO(k:List Int):List D:=k.map λn=>.raw (.int .u16 n)
def QiR:Zh prog 73 [] (Qo (.agg [.raw (.int .u16 65535),.raw (.int .u16 65535),.raw (.int .u16 65535),.raw (.int .u16 65535)])):=by
 refine Zy 0 Qh 200 func73 rfl ntmps73 results73 rfl λbase w hb=>?_;simp only[go_sem]
def QiS(a0 a1 a2 a3 b0 b1 b2 b3):Zh prog 72 [.agg [.raw (.int .u16 a0),.raw (.int .u16 a1),.raw (.int .u16 a2),.raw (.int .u16 a3)],.agg [.raw (.int .u16 b0),.raw (.int .u16 b1),.raw (.int .u16 b2),.raw (.int .u16 b3)]]
  (Qo (.agg [.raw (.int .u16 (kE a0 b0)),.raw (.int .u16 (kE a1 b1)),.raw (.int .u16 (kE a2 b2)),.raw (.int .u16 (kE a3 b3))])):=by
 refine Zy 0 Qh 200 func72 rfl ntmps72 results72 rfl λbase w hb=>?_;simp only[go_sem];have w1:IntKind.i64.wrap 1=1:=rfl;have w2:IntKind.i64.wrap 2=2:=rfl;have w3:IntKind.i64.wrap 3=3:=rfl;have w4:IntKind.i64.wrap 4=4:=rfl;refine vv 4 ?_;apply Q1 hb;apply QH hb [0,1,2,3,4,5,6,7,1008];simp only[go_sem];refine Qf hb ?_;simp only[go_sem,Qa,w1];apply QH hb [0,1,2,3,4,5,6,7,1008];simp only[go_sem];refine Qf hb ?_;simp only[go_sem,Qa,w2];apply QH hb [0,1,2,3,4,5,6,7,1008];simp only[go_sem];refine Qf hb ?_;simp only[go_sem,Qa,w3];apply QH hb [0,1,2,3,4,5,6,7,1008];simp only[go_sem];refine Qf hb ?_;simp only[go_sem,Qa,w4];refine Qf hb ?_;simp only[go_sem,Qa,w4];rfl
theorem QAU(r:ZU)(x:Pk):qu r (Jc x)=(kE x.xP r.xT==r.G3&&(kE x.xQ r.xU==r.G4&&(kE x.xR r.CQ==r.G5&&(kE x.xS r.Bw==r.CS&&true)))):=rfl
@[go_sem] def cv(x:Pk):List D:=[.raw (.int .u16 x.xP),.raw (.int .u16 x.xQ),.raw (.int .u16 x.xR),.raw (.int .u16 x.xS)]
def QiT(r:ZU)(x):Zh prog 135 [.agg r.cells,.agg (cv x)] (Qo (QY (qu r (Jc x)))):=by
 rw[QAU];refine Zy 0 Qh 200 func135 rfl ntmps135 results135 rfl λbase w hb=>?_;simp only[go_sem];apply QH hb [0,1,2,4,5,1003,6,7];simp only[go_sem];refine K9 hb fH (QiS x.xP x.xQ x.xR x.xS r.xT r.xU r.CQ r.Bw) (Qo.flat rfl) λd h hR=>?_;obtain⟨rfl,rfl⟩:=hR;exact LW hb
structure QiU (h:List Ob) (p:Nat) (dr:D) (le:Nat) (dm:D) (c:Nat) (es:List J7) (ms:List Nat) (R:List ZU):Prop where
 o:(h.map Ob.ro)[p]? = some (H9 dr le dm).ro
 eo:(h.map Ob.ro)[le]? = some (jX c es).ro
 rs:(dr=.nil/\R=[])\/∃lo g row,dr=.ref lo g 0 R.length/\(h.map Ob.ro)[lo]? = some ⟨.xm,g,9,R.length,row⟩/\∀i,i<R.length->row i=(R.getD i default).cells
 mo:(dm=.nil/\ms=[])\/∃lo g row,dm=.ref lo g 0 ms.length/\(h.map Ob.ro)[lo]? = some ⟨.xm,g,1,ms.length,row⟩/\∀i,i<ms.length->row i=[Qb ((ms.getD i 0:Nat):Int)]
 I:XV R R.length es ms
 ok:YQ R=0
def o6.toR{S}{h}{p}{dr}{le}{dm}{c}{es}{ms}{R}(T:o6 S h p dr le dm c es ms R):QiU h p dr le dm c es ms R:=
 ⟨ZM T.o,ZM T.eo,T.rs.imp id λ⟨lo,g,row,h1,_,h3,h4⟩=>⟨lo,g,row,h1,ZM h3,h4⟩,T.mo.imp id λ⟨lo,g,row,h1,_,h3,h4⟩=>⟨lo,g,row,h1,ZM h3,h4⟩,T.I,T.ok⟩
def o8{R}(h:YQ R=0):∀r∈R,1<=r.cls:=λr hr=>by
 unfold YQ at h;split at h
 ·cases h
 ·split at h
  ·rename_i h2;have:=jN.1 h2 r hr;unfold wZ at this;simp only[ZJ,Yq]at this;exact this.1.1
  ·cases h
def inc_le:∀(ms:List Nat) (n b:Nat),ms.Pairwise (·<·)->(∀j∈ms,b<=j/\j<n)->ms.length<=n - b
 | [],n,b,_,_=>JQ _
 | a::ms,n,b,hi,h=>by
  rw[yF]at hi;have h1:=h a (by simp);have:=inc_le ms n (a+1) hi.2 λj hj=>⟨hi.1 j hj,(h j (by simp[hj])).2⟩;simp only[Vu];omega
def QAV{h}{p}{dr}{le}{dm}{c}{es}{ms}{R}(T:QiU h p dr le dm c es ms R)(x)(hx:RN x):
  Zg prog 83 h [.ptr p 0 0 0,.agg (cv x)] (λd=>d=.tup [Qb (Wn R (Jc x)),Qb (if Wn R (Jc x)=0 then 31 else 0)]):=by
 have ho:=T.o;have he:=T.eo;have h4:=T.I.four;obtain⟨q,hq⟩:∃q,q=Wt es (Jc x):=⟨_,rfl⟩;have B8:=hq;simp only[Jc]at B8;have ms0:∀j,j<ms.length->ms.getD j 0∈ms:=λj hj=>jq ms 0 j hj;have RP:∀i∈ms,∃j,j<ms.length/\ms.getD j 0=i:=λi hi=>by
  obtain⟨j,hj,e⟩:=yE hi;exact⟨j,hj,by rw[Q8,QP hj];exact e⟩
 have xC:ms.length<=32:=by
  have h1:=inc_le ms R.length 0 T.I.inc λj hj=>⟨JQ j,((T.I.mem j).1 hj).1⟩;have h2:R.length<=32:=by
   have:=T.ok;unfold YQ at this;split at this
   ·cases this
   ·omega
  omega
 have QAW:∀j k,j<k->k<ms.length->ms.getD j 0<ms.getD k 0:=λj k VB hk=>by
  have:=List.pairwise_iff_getElem.1 T.I.inc j k (by omega) hk VB;rw[Q8,Q8,QP hk,QP (show j<ms.length by omega)];exact this
 have o9:∀j k,j<ms.length->ms.getD j 0<ms.getD k 0->j<k:=λj k hj h=>vQ λhc=>by
  rcases Nat.lt_or_eq_of_le (Nat.le_of_not_lt hc) with h2|h2
  ·have:=QAW k j h2 hj;omega
  ·rw[h2]at h;omega
 cases q with
 | none=>
  have out:(∀j∈ms,qu (Jm R j) (Jc x)=false)->Wn R (Jc x)=0:=λJw=>by
   unfold Wn;rw[T.I.none hx hq.symm Jw]
  rcases T.mo with ⟨rfl,rfl⟩|⟨lm,gm,pc,rfl,hm,YB⟩
  ·rw[out (λj hj=>by cases hj),Qg rfl];refine Zt Qh 200 func83 rfl ntmps83 results83 rfl λbase w pl F hF Za hb=>?_;rw[<- hF]at ho he;have Qe:=Qc ho;have Z5:=Qc he;simp only[go_sem,Qa,ho,Qe,he,Z5];apply QH hb [0,1,2,3,4,5,6,7,8,9,10];simp only[go_sem,Qa,ho,Qe,he,Z5,<- B8];refine⟨h4,?_⟩;refine vv 0 ?_;apply Q1 hb;apply Q1 hb;all_goals first|exact⟨_,rfl,rfl⟩|exact⟨_,rfl⟩|rfl|exact⟨[],(Zd _).symm⟩|exact⟨[],(Zd _).symm,rfl⟩
  ·refine Zt Qh 200 func83 rfl ntmps83 results83 rfl λbase w pl F hF Za hb=>?_;rw[<- hF]at ho he hm;have Qe:=Qc ho;have Z5:=Qc he;have QK:=Qc hm;simp only[go_sem,Qa,ho,Qe,he,Z5,hm,QK];apply QH hb [0,1,2,3,4,5,6,7,8,9,10];simp only[go_sem,Qa,ho,Qe,he,Z5,<- B8];refine⟨h4,?_⟩;refine ZZ (λk s=>(∀j,j<k->qu (Jm R (ms.getD j 0)) (Jc x)=false)/\s=⟨[(0,.ptr p 0 0 0),(3,.ptr F.length 0 0 0),(6,Qb 0),(7,QY false),(24,.ref lm gm 0 ms.length),(25,Qb ms.length),(26,Qb k)],F++[(⟨.one,0,4,1,λ_=>cv x⟩:Ob)]⟩) ms.length QO ⟨λj hj=>absurd hj (XY j),rfl⟩ ?_;rintro k _ hk ⟨Jw,rfl⟩;by_cases Qs:k<ms.length
   ·have dk:=Q7 Qs;have Zq:=Vp (show k<4611686018427387904 by omega);obtain⟨i,hi⟩:∃i,i=ms.getD k 0:=⟨_,rfl⟩;have Hi:=ms0 k Qs;rw[<- hi]at Hi;obtain⟨Yl,pe⟩:=(T.I.mem i).1 Hi;have vn:=YB k Qs;rw[<- hi]at vn;rcases T.rs with ⟨h1,h2⟩|⟨lr,gr,cw,rfl,hr,xn⟩
    ·rw[h2]at Yl;simp at Yl
    rw[<- hF]at hr;have KI:=Qc hr;have YF:cw i=(Jm R i).cells:=xn i Yl;obtain⟨r,Wp⟩:∃r,r=Jm R i:=⟨_,rfl⟩;rw[<- Wp]at YF;have M:=QiT r x;simp only[go_sem]at YF vn;cases BK:qu r (Jc x) with
    | false=>
     rw[BK]at M;refine Qf hb ?_;simp only[go_sem,Qa,dk,Qs,hm,QK,vn,Go.undef];apply QH hb [0,1,2,3,4,5,6,7,1008];simp only[go_sem,Qa,ho,Qe,hr,KI,YF,Yl];refine KB hb Uv rfl ?_ M (Qo.flat rfl) rfl λd h hR=>?_
     ·simp only[go_sem,Qa,ho,Qe,hr,KI,YF,Yl]
     obtain⟨rfl,rfl⟩:=hR;refine Zb hb ?_;simp only[go_sem,Qa,ho,Qe,hr,KI,YF,Yl];repeat (refine And.intro (by first|assumption|omega) ?_)
     refine⟨_,QI.frame (fr':=[(0,.ptr p 0 0 0),(3,.ptr F.length 0 0 0),(6,Qb 0),(7,QY false),(24,.ref lm gm 0 ms.length),(25,Qb ms.length),(26,Qb (k+1:Nat))]) (by simp only[go_sem,Zq]),λj hj=>?_,rfl⟩;rcases Cb.1 hj with h5|rfl
     ·exact Jw j h5
     ·rw[<- hi,<- Wp];exact BK
    | true=>
     rw[BK]at M;have e0:Wn R (Jc x)=r.cls:=by
      unfold Wn;rw[T.I.WV hx Yl pe (by rw[<- Wp];exact BK) (λj hj jZ=>?_) (λa' Vn=>?_),<- Wp]
      ·obtain⟨j2,e1,e2⟩:=RP j hj;rw[<- e2];exact Jw j2 (o9 j2 k e1 (by omega))
      ·rw[<- hq]at Vn;cases Vn
     have Ey:=o8 T.ok r (by rw[Wp];exact jq R default i Yl);rw[e0,Qd (by omega)];refine Qf hb ?_;simp only[go_sem,Qa,dk,Qs,hm,QK,vn,Go.undef];apply QH hb [0,1,2,3,4,5,6,7,1008];simp only[go_sem,Qa,ho,Qe,hr,KI,YF,Yl];refine KB hb Uv rfl ?_ M (Qo.flat rfl) rfl λd h hR=>?_
     ·simp only[go_sem,Qa,ho,Qe,hr,KI,YF,Yl]
     obtain⟨rfl,rfl⟩:=hR;refine Zb hb ?_;simp only[go_sem,Qa,ho,Qe,hr,KI,YF,Yl];all_goals first|exact⟨_,rfl,rfl⟩|exact⟨_,rfl⟩|rfl|exact⟨[],(Zd _).symm⟩|exact⟨[],(Zd _).symm,rfl⟩
   ·have ZW:k=ms.length:=by omega
    have dk:=QQ Qs;subst ZW;have Vo:∀j∈ms,qu (Jm R j) (Jc x)=false:=λj hj=>by
     obtain⟨j2,e1,e2⟩:=RP j hj;rw[<- e2];exact Jw j2 e1
    rw[out Vo,Qg rfl];refine Qf hb ?_;simp only[go_sem,Qa,dk];apply Q1 hb;all_goals first|exact⟨_,rfl,rfl⟩|exact⟨_,rfl⟩|rfl|exact⟨[],(Zd _).symm⟩|exact⟨[],(Zd _).symm,rfl⟩
 | some d=>
  obtain⟨a,rfl,F2,Lj,PZ,han⟩:=T.I.yes _ _ hq.symm;rcases T.rs with ⟨h1,h2⟩|⟨lr,gr,cw,rfl,hr,xn⟩
  ·rw[h2]at F2;simp at F2
  have Np:cw a=(Jm R a).cells:=xn a F2;obtain⟨ra,pf⟩:∃r,r=Jm R a:=⟨_,rfl⟩;rw[<- pf]at Np;have cz:=o8 T.ok ra (by rw[pf];exact jq R default a F2);have out:(∀j∈ms,j<a->qu (Jm R j) (Jc x)=false)->Wn R (Jc x)=ra.cls:=λJw=>by
   unfold Wn;rw[(T.I.whole hx hq.symm Jw).2,<- pf]
  simp only[go_sem]at Np;rcases T.mo with ⟨rfl,rfl⟩|⟨lm,gm,pc,rfl,hm,YB⟩
  ·rw[out (λj hj=>by cases hj),Qd (by omega)];refine Zt Qh 200 func83 rfl ntmps83 results83 rfl λbase w pl F hF Za hb=>?_;rw[<- hF]at ho he hr;have Qe:=Qc ho;have Z5:=Qc he;have KI:=Qc hr;simp only[go_sem,Qa,ho,Qe,he,Z5,hr,KI];apply QH hb [0,1,2,3,4,5,6,7,8,9,10];simp only[go_sem,Qa,ho,Qe,he,Z5,<- B8];refine⟨h4,?_⟩;refine vv 0 ?_;refine Qf hb ?_;simp only[go_sem,Qa,ho,Qe,hr,KI,Np,F2];refine Qf hb ?_;simp only[go_sem,Qa,ho,Qe,hr,KI,Np,F2];all_goals first|exact⟨_,rfl,rfl⟩|exact⟨_,rfl⟩|rfl|exact⟨[],(Zd _).symm⟩|exact⟨[],(Zd _).symm,rfl⟩
  ·refine Zt Qh 200 func83 rfl ntmps83 results83 rfl λbase w pl F hF Za hb=>?_;rw[<- hF]at ho he hr hm;have Qe:=Qc ho;have Z5:=Qc he;have KI:=Qc hr;have QK:=Qc hm;simp only[go_sem,Qa,ho,Qe,he,Z5,hr,KI,hm,QK];apply QH hb [0,1,2,3,4,5,6,7,8,9,10];simp only[go_sem,Qa,ho,Qe,he,Z5,<- B8];refine⟨h4,?_⟩;refine ZZ (λk s=>(∀j,j<k->qu (Jm R (ms.getD j 0)) (Jc x)=false)/\s=⟨[(0,.ptr p 0 0 0),(3,.ptr F.length 0 0 0),(6,Qb a),(7,QY true),(24,.ref lm gm 0 ms.length),(25,Qb ms.length),(26,Qb k)],F++[(⟨.one,0,4,1,λ_=>cv x⟩:Ob)]⟩) ms.length QO ⟨λj hj=>absurd hj (XY j),rfl⟩ ?_;rintro k _ hk ⟨Jw,rfl⟩;by_cases Qs:k<ms.length
   ·have dk:=Q7 Qs;have Zq:=Vp (show k<4611686018427387904 by omega);obtain⟨i,hi⟩:∃i,i=ms.getD k 0:=⟨_,rfl⟩;have Hi:=ms0 k Qs;rw[<- hi]at Hi;obtain⟨Yl,pe⟩:=(T.I.mem i).1 Hi;have vn:=YB k Qs;rw[<- hi]at vn;have YF:cw i=(Jm R i).cells:=xn i Yl;obtain⟨r,Wp⟩:∃r,r=Jm R i:=⟨_,rfl⟩;rw[<- Wp]at YF;have M:=QiT r x;simp only[go_sem]at YF vn;by_cases Ms:a<i
    ·have da:=Q7 Ms;rw[out (λj hj hja=>by
      obtain⟨j2,e1,e2⟩:=RP j hj;rw[<- e2];exact Jw j2 (o9 j2 k e1 (by omega))),Qd (by omega)]
     refine Qf hb ?_;simp only[go_sem,Qa,dk,Qs,hm,QK,vn,da];refine Qf hb ?_;simp only[go_sem,Qa,ho,Qe,hr,KI,Np,F2];all_goals first|exact⟨_,rfl,rfl⟩|exact⟨_,rfl⟩|rfl|exact⟨[],(Zd _).symm⟩|exact⟨[],(Zd _).symm,rfl⟩
    ·have da:=QQ Ms;cases BK:qu r (Jc x) with
     | false=>
      rw[BK]at M;refine Qf hb ?_;simp only[go_sem,Qa,dk,Qs,hm,QK,vn,da];apply QH hb [0,1,2,3,4,5,6,7,1008];simp only[go_sem,Qa,ho,Qe,hr,KI,YF,Yl];refine KB hb Uv rfl ?_ M (Qo.flat rfl) rfl λd h hR=>?_
      ·simp only[go_sem,Qa,ho,Qe,hr,KI,YF,Yl]
      obtain⟨rfl,rfl⟩:=hR;refine Zb hb ?_;simp only[go_sem,Qa,ho,Qe,hr,KI,YF,Yl];repeat (refine And.intro (by first|assumption|omega) ?_)
      refine⟨_,QI.frame (fr':=[(0,.ptr p 0 0 0),(3,.ptr F.length 0 0 0),(6,Qb a),(7,QY true),(24,.ref lm gm 0 ms.length),(25,Qb ms.length),(26,Qb (k+1:Nat))]) (by simp only[go_sem,Zq]),λj hj=>?_,rfl⟩;rcases Cb.1 hj with h5|rfl
      ·exact Jw j h5
      ·rw[<- hi,<- Wp];exact BK
     | true=>
      rw[BK]at M;have e0:Wn R (Jc x)=r.cls:=by
       unfold Wn;rw[T.I.WV hx Yl pe (by rw[<- Wp];exact BK) (λj hj jZ=>?_) (λa' Vn=>?_),<- Wp]
       ·obtain⟨j2,e1,e2⟩:=RP j hj;rw[<- e2];exact Jw j2 (o9 j2 k e1 (by omega))
       ·rw[<- hq]at Vn;have:=IC Vn;simp only[Qb,D.raw.injEq,Value.int.injEq,xl]at this;omega
      have Ey:=o8 T.ok r (by rw[Wp];exact jq R default i Yl);rw[e0,Qd (by omega)];refine Qf hb ?_;simp only[go_sem,Qa,dk,Qs,hm,QK,vn,da];apply QH hb [0,1,2,3,4,5,6,7,1008];simp only[go_sem,Qa,ho,Qe,hr,KI,YF,Yl];refine KB hb Uv rfl ?_ M (Qo.flat rfl) rfl λd h hR=>?_
      ·simp only[go_sem,Qa,ho,Qe,hr,KI,YF,Yl]
      obtain⟨rfl,rfl⟩:=hR;refine Zb hb ?_;simp only[go_sem,Qa,ho,Qe,hr,KI,YF,Yl];all_goals first|exact⟨_,rfl,rfl⟩|exact⟨_,rfl⟩|rfl|exact⟨[],(Zd _).symm⟩|exact⟨[],(Zd _).symm,rfl⟩
   ·have ZW:k=ms.length:=by omega
    have dk:=QQ Qs;subst ZW;rw[out (λj hj _=>by
     obtain⟨j2,e1,e2⟩:=RP j hj;rw[<- e2];exact Jw j2 e1),Qd (by omega)]
    refine Qf hb ?_;simp only[go_sem,Qa,dk];refine Qf hb ?_;simp only[go_sem,Qa,ho,Qe,hr,KI,Np,F2];all_goals first|exact⟨_,rfl,rfl⟩|exact⟨_,rfl⟩|rfl|exact⟨[],(Zd _).symm⟩|exact⟨[],(Zd _).symm,rfl⟩
end Go.Fg.X
namespace Go.Fg
open Go.RowKit (Below)
variable {Z:Nat->Prop}
section
variable {P:Program}{L:Zm}{base nt:Nat}{s:St}{o:Oper}
end
section
variable {P:Program}{L:Zm}{base nt:Nat}{w0:Start}{Q:Exit->St->Prop}
end
def cA:D->Bool
 | .imm _ _ _=>true
 | .ref _ _ _ _=>true
 | .nil=>true
 | _=>false
section
variable {P:Program}{L:Zm}{base nt:Nat}{s:St}{o:Oper}
end
section
variable {P:Program}{L:Zm}{base nt:Nat}{w0:Start}{Q:Exit->St->Prop}
end
def RQ:D->Nat
 | .imm _ n _=>n
 | _=>0
def QAX{h}{pl}{w}{d}{v}(r:QA Z h pl w d v)(hd:cA d=true):∃a n cap,v=.slice a n cap/\(a.isNone=true->RQ d=0):=by
 cases d<;>simp only[cA,Yn]at hd;all_goals first
  | (obtain⟨a,e⟩:=Cj r;exact⟨_,_,_,e,λ_=>rfl⟩)
  | (obtain⟨a,cap,_,_,_,e,h0,_⟩:=NW r;refine⟨_,_,_,e,λhn=>Nat.eq_zero_of_not_pos λhp=>?_⟩;have hq:0<_:=hp;simp only[RQ]at hq;rw[h0 hq]at hn;cases hn)
  | (obtain⟨_,_,a,cap,e,_⟩:=Cm r;exact⟨_,_,_,e,λ_=>rfl⟩)
section
variable {P:Program}{L:Zm}{base nt:Nat}{w0:Start}{Q:Exit->St->Prop}
def QAY(hL:ZR P L){Q:Exit->St->Prop}{o:Oper}{rest:List (Oper × G)}{s:St}{t t' e a b:Nat}{x:Operand}{zt:List Value}(ho:o.op=.binOp .eql t x (.const (.slice none 0 0)) t')(hx:cA (Qr s.fr x)=true)(ht:ty L t=some ⟨.slice e,a,b,zt⟩)(hd:Zr nt o.dst=true)
  (hk:∀b:Bool,(b=true->RQ (Qr s.fr x)=0)->AG P base nt w0 rest Q ⟨Zj s.fr o.dst (.raw (.bool b)),s.h⟩):AG P base nt w0 ((o,none)::rest) Q s:=by
 intro Z z pl ac w r b;obtain⟨ad,n,cap,hv,hb⟩:=QAX (r.eval x) hx;have hc:ac.eval (.const (.slice none 0 0))=.slice none 0 0:=rfl;have Q5:(execOp ac.eval o).run P w=.ok (.value (.bool ad.isNone)) w:=by
  have hu:=vT (hL _ _ ht) rfl;have he:(Op.equal t (.slice ad n cap) (.slice none 0 0)).run P w=.ok ad.isNone w:=dK λm=>by
   cases ad<;>simp[Op.equalIn,run_underlying hu]
  have hq:(eqGuard .eql t x (.const (.slice none 0 0)) (.slice ad n cap) (.slice none 0 0)).run P w=.ok () w:=by simp[eqGuard]
  simp[execOp,ho,hv,hc,Go.binOp,he,hq]
 simp only[X3,WG,K6];unfold Oper.wp;rw[Q5];simp only[Oper.upon_value];refine hk _ hb Z z pl _ w ?_ b;cases hdd:o.dst with
 | none=>exact r
 | some t=>rw[hdd]at hd;exact r.to (Tr.ext r.o λ_ _=>rfl) r.o (jf hd) (.cl _ _ (.raw _))
def QA0(hL:ZR P L){k:List Item}{dst:Option Nat}{Dd:TypeId}{pos:String}{after:Array Edge}{gd:Option (Nat × Bool)}{r:List (Oper × G)}{s:St}{t t' e a b:Nat}{x:Operand}{zt:List Value}
  (hx:cA (Qr s.fr x)=true) (ht:ty L t=some ⟨.slice e,a,b,zt⟩) (hd:Zr nt dst=true) (h1:∀b:Bool,(b=true->RQ (Qr s.fr x)=0)->Qw P base nt w0 Q (.ops r::k) .normal ⟨Zj s.fr dst (.raw (.bool b)),s.h⟩) :
  Qw P base nt w0 Q (.ops ((⟨dst,.binOp .eql t x (.const (.slice none 0 0)) t',Dd,pos,after,gd⟩,none)::r)::k) .normal s:=by
 simp only[Qw]at h1 ⊢;exact QAY hL rfl hx ht hd h1
end
end Go.Fg
namespace Go.Fg.X
open Go.Proofs Go.Fg
open Go.Proofs.Tryz
@[go_sem] def DT(l:List ZU):D:=.imm 9 l.length (ZU.rows l)
def QA1(h:List Ob)(l:List ZU)(hl:l.length<1000000):MFn prog 71 h [DT l] (λd h'=>∃g,h'=h++g/\WS (λj=>h.length<=j) (h++g) 9 ZU.cells d l):=by
 refine QU Qh 200 func71 rfl ntmps71 results71 rfl λbase w pl hb=>?_;simp only[go_sem,Qa];refine QA0 Aj (by simp only[go_sem];rfl) rfl rfl λb Zo=>?_;cases b with
 | true=>
  have h0:=Zo rfl;simp only[go_sem,RQ]at h0;apply Q1 hb;exact⟨[],(Zd h).symm,.inl ⟨rfl,NG.1 h0⟩⟩
 | false=>
  apply Q1 hb;refine⟨by omega,_,rfl,.inr ⟨h.length,_,_,rfl,QD _,Ko rfl,λi hi=>?_⟩⟩;rw[vV (JQ _)];rfl
def QA2(r:ZU):(RK r.want r.mask==r.want)=(kE r.G3 r.xT==r.G3&&(kE r.G4 r.xU==r.G4&&(kE r.G5 r.CQ==r.G5&&kE r.CS r.Bw==r.CS))):=by
 rw[<- Bool.and_true (kE r.CS r.Bw==r.CS)];rfl
structure qY (h H:List Ob) (l:List ZU) (k p:Nat) (dr:D) (le:Nat) (dm:D) (c:Nat) (es:List J7) (ms:List Nat):Prop where
 ex:KZ h H
 o:H[p]? = some (H9 dr le dm)
 eo:H[le]? = some (jX c es)
 rs:WS (λj=>h.length<=j) H 9 ZU.cells dr l
 mo:WS (λj=>h.length<=j) H 1 (λi:Nat=>[Qb i]) dm ms
 hp:h.length<=p
 he:h.length<=le
 I:XV l k es ms
 ok:∀j,j<k->wZ (Jm l j)=true
def qY.app{h H}{l}{k p}{dr}{le}{dm}{c}{es}{ms}(N:qY h H l k p dr le dm c es ms)(g):qY h (H++g) l k p dr le dm c es ms:=
 ⟨N.ex.app g,(QC (Qc N.o)).trans N.o,(QC (Qc N.eo)).trans N.eo,N.rs.step λj hj h1=>⟨h1,QC hj⟩,N.mo.step λj hj h1=>⟨h1,QC hj⟩,N.hp,N.he,N.I,N.ok⟩
def qY.next{h H}{l}{k p}{dr}{le}{dm}{c}{es}{ms}(N:qY h H l k p dr le dm c es ms){H':List Ob}{pg}{c'}{es'}{ph}(hx:KZ h H')(ho:H'[p]? = some (H9 dr le pg))(he:H'[le]? = some (jX c' es'))
  (hk:∀(j:Nat) (o:Ob),H[j]? = some o->o.kd=.arr->o.sz=9->H'[j]? = some o) (hm:WS (λj=>h.length<=j) H' 1 (λi:Nat=>[Qb i]) pg ph) (I:XV l (k+1) es' ph) (Js:∀j,j<k+1->wZ (Jm l j)=true):qY h H' l (k+1) p dr le pg c' es' ph:=
 ⟨hx,ho,he,N.rs.imp id λ⟨lo,g,row,h1,h2,h3,h4⟩=>⟨lo,g,row,h1,h2,hk lo _ h3 rfl rfl,h4⟩,hm,N.hp,N.he,I,Js⟩
def WT{H:List Ob}{a b:Nat}{o o':Ob}(h1:H[a]? = some o)(h2:H[b]? = some o')(h:o.kd≠o'.kd\/o.sz≠o'.sz):a≠b:=λe=>by
 rw[e,h2]at h1;cases h1;rcases h with h|h<;>exact h rfl
def qY.xT{h H}{l}{k p}{dr}{le}{c}{es}(N:qY h H l k p dr le .nil c es [])(hw:YS (Jm l k)=false)(Js:∀j,j<k+1->wZ (Jm l j)=true)(o):
  qY h (H.set p (H9 dr le (.ref (H.length+2) 0 0 1))++[o,⟨.arr,0,1,1,λ_=>[Qb k]⟩,⟨.arr,0,1,1,λ_=>[Qb k]⟩]) l (k+1) p dr le (.ref (H.length+2) 0 0 1) c es ([]++[k]):=by
 have hp:=Qc N.o;have QB:p≠le:=WT N.o N.eo (.inl nofun);refine N.next ((N.ex.set N.hp _).app _) ?_ ?_ (λj o hj h1 h2=>?_) (.inr ⟨H.length+2,0,λ_=>[Qb k],rfl,by have:=N.ex.len;omega,KX (k:=2) (by simp),λi hi=>?_⟩) (N.I.mask hw) Js
 ·rw[QC (by simpa using hp),Qv hp]
 ·rw[QC (by simpa using Qc N.eo),Qi QB];exact N.eo
 ·rw[QC (by simpa using Qc hj),Qi (WT N.o hj (.inl (by rw[h1];nofun)))];exact hj
 ·simp at hi;subst hi;rfl
def qY.xU{h H:List Ob}{l}{k p}{dr}{le}{c}{es}{ms:List Nat}{lo g}{row}(N:qY h H l k p dr le (.ref lo g 0 ms.length) c es ms)(ZE:h.length<=lo)(hl:H[lo]? = some ⟨.arr,g,1,ms.length,row⟩)(Zx:∀i,i<ms.length->row i=[Qb ((ms.getD i default:Nat):Int)])
  (hw:YS (Jm l k)=false) (Js:∀j,j<k+1->wZ (Jm l j)=true) (o o':Ob) :
  qY h ((H.set lo ⟨.arr,g+1,1,ms.length+1,J2 ms.length 0 row λ_=>[Qb k]⟩).set p (H9 dr le (.ref lo (g+1) 0 (ms.length+1)))++[o,o']) l (k+1) p dr le (.ref lo (g+1) 0 (ms.length+1)) c es (ms++[k]):=by
 have hp:=Qc N.o;have XD:=Qc hl;have QB:p≠le:=WT N.o N.eo (.inl nofun);have Ka:lo≠p:=WT hl N.o (.inl nofun);have VC:lo≠le:=WT hl N.eo (.inl nofun);refine N.next (((N.ex.set ZE _).set N.hp _).app _) ?_ ?_ (λj o hj h1 h2=>?_) (.inr ⟨lo,g+1,J2 ms.length 0 row λ_=>[Qb k],by simp,ZE,?_,λi hi=>?_⟩) (N.I.mask hw) Js
 ·rw[QC (by simpa using hp),Qv (by simpa using hp)]
 ·rw[QC (by simpa using Qc N.eo),Qi QB,Qi VC];exact N.eo
 ·rw[QC (by simpa using Qc hj),Qi (WT N.o hj (.inl (by rw[h1];nofun))),Qi (WT hl hj (.inr (by rw[h2];show (1:Nat)≠9;decide)))];exact hj
 ·rw[QC (by simpa using XD),Qi (Q3 Ka),Qv XD];simp
 ·simp at hi;by_cases Yx:i<ms.length
  ·rw[yL Yx,JG,Zx i Yx];simp[Yx,Jy Yx]
  ·have:i=ms.length:=by omega
   subst this;rw[vV (QD _)];simp
def qY.new{h H}{l}{k p:Nat}{dr}{le}{dm}{c}{es}{ms}(N:qY h H l k p dr le dm c es ms)(hw:YS (Jm l k)=true)(hn:Wt es (Jm l k).want=none)(Js:∀j,j<k+1->wZ (Jm l j)=true)(o):
  qY h (H.set le (jX (c+1) (es++[⟨(Jm l k).want,Qb k,c⟩]))++[o]) l (k+1) p dr le dm (c+1) (es++[⟨(Jm l k).want,Qb k,c⟩]) ms:=by
 have hl:=Qc N.eo;have keep:∀(j:Nat) (o':Ob),H[j]? = some o'->o'.kd≠.map->(H.set le (jX (c+1) (es++[⟨(Jm l k).want,Qb k,c⟩]))++[o])[j]? = some o':=λj o' hj h1=>by
  rw[QC (by simpa using Qc hj),Qi (WT N.eo hj (.inl (Q3 h1)))];exact hj
 refine N.next ((N.ex.set N.he _).app _) (keep _ _ N.o nofun) ?_ (λj o' hj h1 h2=>keep j o' hj (by rw[h1];nofun)) (N.mo.imp id λ⟨lo,g,row,h1,h2,h3,h4⟩=>⟨lo,g,row,h1,h2,keep _ _ h3 nofun,h4⟩) (N.I.new hw hn c) Js;rw[QC (by simpa using hl),Qv hl]
def QiW(h)(l:List ZU)(hl:l.length<1000000):
  MFn prog 38 h [DT l] (λd h'=>∃g,h'=h++g/\(YQ l=0->∃p,d=.tup [.ptr p 0 0 0,Qb 0]/\F1 (λj=>h.length<=j) (h++g) p l)/\(YQ l≠0->d=.tup [.raw (.pointer none),Qb (YQ l)])):=by
 by_cases FE:32<l.length
 ·have d0:decide ((32:Int)<(l.length:Int))=true:=Q7 (by omega);have e:YQ l=2:=by unfold YQ;rw[Qg FE]
  rw[e];refine QU Qh 200 func38 rfl ntmps38 results38 rfl λbase w pl hb=>?_;simp only[go_sem,Qa,d0];exact⟨[],(Zd h).symm⟩
 ·have d0:decide ((32:Int)<(l.length:Int))=false:=QQ (by omega);refine QU Qh 200 func38 rfl ntmps38 results38 rfl λbase w pl hb=>?_;simp only[go_sem,Qa,d0];refine Jl hb Qrb (QA1 h l hl) λd h1 hR=>?_;obtain⟨g1,rfl,zf⟩:=hR;have e0:=rV .i64;simp only[QM]at e0;have hcd:Xr d=some [d]:=by rcases zf with ⟨rfl,_⟩|⟨_,_,_,rfl,_⟩<;>rfl
  have hod:d.KJ=true:=by rcases zf with ⟨rfl,_⟩|⟨_,_,_,rfl,_⟩<;>rfl
  refine Qf hb ?_;simp only[go_sem,Qa,hcd,hod];obtain⟨H,hH⟩:∃H,H=h++(g1++[QM .i64 0 [],H9 d (h.length+g1.length) .nil]):=⟨_,rfl⟩;have N0:qY h H l 0 (h.length+(g1.length+1)) d (h.length+g1.length) .nil 0 [] []:=by
   rw[<- Wb]at hH;subst hH;refine⟨((KZ.refl h).app g1).app _,?_,?_,zf.step λj hj h1=>⟨h1,QC hj⟩,.inl ⟨rfl,rfl⟩,by omega,by omega,XV.nil l,λj hj=>absurd hj (XY j)⟩
   ·rw[show h.length+(g1.length+1)=(h++g1).length+1 by simp;omega];exact KX (k:=1) rfl
   ·rw[<- rV .i64,show h.length+g1.length=(h++g1).length by simp];exact Ko rfl
  simp only[go_sem]at hH;rw[<- hH];obtain⟨p,hp⟩:∃p,p=h.length+(g1.length+1):=⟨_,rfl⟩;rw[<- hp]at N0 ⊢;clear hH;refine ZZ (λk s=>∃H dr le dm c es ms,qY h H l k p dr le dm c es ms/\s=⟨[(4,.ptr p 0 0 0),(17,DT l),(18,Qb l.length),(19,Qb k)],H⟩) l.length QO ⟨H,_,_,_,_,_,_,N0,rfl⟩ ?_;clear N0 zf hcd hod e0 H hp d g1;rintro k _ hk ⟨H,dr,le,dm,c,es,ms,N,rfl⟩;by_cases Qs:k<l.length
  ·have dk:=Q7 Qs;obtain⟨r,hr⟩:∃r,r=Jm l k:=⟨_,rfl⟩;have Jr:l.getD k default=r:=hr.symm;have Wl:r∈l:=by rw[hr];exact jq l default k Qs
   have Zq:=Vp (show k<4611686018427387904 by omega);have ho:=N.o;have Qe:=Qc ho;have he:=N.eo;have Z5:=Qc he;have h4:=N.I.four;have hu:=QA2 r;have bad:wZ r=false->YQ l=1:=λhb=>by
    unfold YQ;rw[Qd FE,Qd];intro Vo;have:=jN.1 Vo r Wl;rw[hb]at this;cases this
   have U:=QiS r.G3 r.G4 r.G5 r.CS r.xT r.xU r.CQ r.Bw;by_cases c1:r.cls<1
   ·have d1:=Q7 c1;rw[bad (by unfold wZ;rw[QQ (show ¬1<=r.cls by omega)];rfl)];refine Qf hb ?_;simp only[go_sem,Qa,dk,Qs,Jr];apply QH hb [0,1,2,3,4,5,6,7,8,9,10,11,12,14,15,1013,16,17];simp only[go_sem,Qa,d1,Go.undef];exact N.ex.app _
   have d1:=QQ c1;by_cases c2:65536<r.cls
   ·have d2:=Q7 c2;rw[bad (by unfold wZ;rw[QQ (show ¬r.cls<=65536 by omega),Bool.and_false];rfl)];refine Qf hb ?_;simp only[go_sem,Qa,dk,Qs,Jr];apply QH hb [0,1,2,3,4,5,6,7,8,9,10,11,12,14,15,1013,16,17];simp only[go_sem,Qa,d1,d2,Go.undef];exact N.ex.app _
   have d2:=QQ c2;cases Bk:RK r.want r.mask==r.want with
   | false=>
    rw[bad (by unfold wZ;rw[Bk,Bool.and_false])];rw[Bk]at hu;refine Qf hb ?_;simp only[go_sem,Qa,dk,Qs,Jr];apply QH hb [0,1,2,3,4,5,6,7,8,9,10,11,12,14,15,1013,16,17];simp only[go_sem,Qa,d1,d2,Go.undef];refine KB hb fH rfl ?_ U (Qo.flat rfl) rfl λd h hR=>?_
    ·simp only[go_sem,Qa,d1,d2,<- hu]
    obtain⟨rfl,rfl⟩:=hR;refine Zb hb ?_;simp only[go_sem,Qa,d1,d2,<- hu];exact N.ex.app _
   | true=>
    rw[Bk]at hu;have Js:∀j,j<k+1->wZ (Jm l j)=true:=λj hj=>by
     rcases Cb.1 hj with h5|rfl
     ·exact N.ok j h5
     ·rw[<- hr];unfold wZ;rw[Bk,Q7 (show 1<=r.cls by omega),Q7 (show r.cls<=65536 by omega)];rfl
    obtain⟨q,hq⟩:∃q,q=Wt es r.want:=⟨_,rfl⟩;have B8:=hq;simp only[ZU.want]at B8;have hw:YS r=(r.xT==65535&&(r.xU==65535&&(r.CQ==65535&&r.Bw==65535))):=rfl;obtain⟨b,ZB⟩:∃b,b=YS r:=⟨_,rfl⟩;rw[<- ZB]at hw;refine Qf hb ?_;simp only[go_sem,Qa,dk,Qs,Jr];apply QH hb [0,1,2,3,4,5,6,7,8,9,10,11,12,14,15,1013,16,17];simp only[go_sem,Qa,d1,d2,Go.undef];refine KB hb fH rfl ?_ U (Qo.flat rfl) rfl λd h hR=>?_
    ·simp only[go_sem,Qa,d1,d2,<- hu]
    obtain⟨rfl,rfl⟩:=hR;refine Zb hb ?_;simp only[go_sem,Qa,d1,d2,<- hu];cases q with
    | none=>
     apply QH hb [0,1,2,3,4,5,6,7,8,9,10,11];simp only[go_sem,Qa,ho,Qe,he,Z5,<- B8];refine⟨h4,?_⟩;apply QH hb [0,1,1002,3,4];simp only[go_sem,Qa];refine KB hb Qdy rfl ?_ QiR (Qo.flat rfl) rfl λd h hR=>?_
     ·simp only[go_sem,Qa,<- hw]
     obtain⟨rfl,rfl⟩:=hR;refine Zb hb ?_;simp only[go_sem,Qa,<- hw];cases b with
     | false=>
      rcases N.mo with ⟨rfl,rfl⟩|⟨lm,gm,pc,rfl,BO,hm,YB⟩
      ·have N2:=N.xT (by rw[<- hr,<- ZB]) Js ⟨.one,0,9,1,λ_=>r.cells⟩;simp only[go_sem,Qa,ho,Qe];refine⟨Qs,_,QI.frame (fr':=[(4,.ptr p 0 0 0),(17,DT l),(18,Qb l.length),(19,Qb (k+1:Nat))]) (by simp only[go_sem,Zq]),_,_,_,_,_,_,_,N2,rfl⟩
      ·have N2:=N.xU BO hm YB (by rw[<- hr,<- ZB]) Js ⟨.one,0,9,1,λ_=>r.cells⟩ ⟨.arr,0,1,1,λ_=>[Qb k]⟩;have QK:=Qc hm;have Dn:lm≠p:=WT hm ho (.inl nofun);have QmL:ms.length<=4294967295:=by
        have:=inc_le ms k 0 N.I.inc λj hj=>⟨JQ j,((N.I.mem j).1 hj).1⟩;omega
       have pn:ms.length+1<=4294967295:=by
        have:=inc_le ms k 0 N.I.inc λj hj=>⟨JQ j,((N.I.mem j).1 hj).1⟩;omega
       simp only[go_sem,Qa,ho,Qe,hm,QK,Qi Dn,QmL,pn];repeat (refine And.intro (by first|assumption|omega) ?_)
       refine⟨_,QI.frame (fr':=[(4,.ptr p 0 0 0),(17,DT l),(18,Qb l.length),(19,Qb (k+1:Nat))]) (by simp only[go_sem,Zq]),_,_,_,_,_,_,_,N2,rfl⟩
     | true=>
      simp only[go_sem,Qa,ho,Qe];apply QH hb [0,1,2,3,4,5,6,1007];simp only[go_sem,Qa,ho,Qe,he,Z5,<- B8];have N2:=N.new (by rw[<- hr,<- ZB]) (by rw[<- hr];exact hq.symm) Js ⟨.one,0,9,1,λ_=>r.cells⟩;rw[<- hr]at N2;refine⟨h4,Qs,_,QI.frame (fr':=[(4,.ptr p 0 0 0),(17,DT l),(18,Qb l.length),(19,Qb (k+1:Nat))]) (by simp only[go_sem,Zq]),_,_,_,_,_,_,_,N2,rfl⟩
    | some d=>
     apply QH hb [0,1,2,3,4,5,6,7,8,9,10,11];simp only[go_sem,Qa,ho,Qe,he,Z5,<- B8];refine⟨h4,?_⟩;apply QH hb [0,1,1002,3,4];simp only[go_sem,Qa];refine KB hb Qdy rfl ?_ QiR (Qo.flat rfl) rfl λd h hR=>?_
     ·simp only[go_sem,Qa,<- hw]
     obtain⟨rfl,rfl⟩:=hR;refine Zb hb ?_;simp only[go_sem,Qa,<- hw];cases b with
     | false=>
      rcases N.mo with ⟨rfl,rfl⟩|⟨lm,gm,pc,rfl,BO,hm,YB⟩
      ·have N2:=N.xT (by rw[<- hr,<- ZB]) Js ⟨.one,0,9,1,λ_=>r.cells⟩;simp only[go_sem,Qa,ho,Qe];refine⟨Qs,_,QI.frame (fr':=[(4,.ptr p 0 0 0),(17,DT l),(18,Qb l.length),(19,Qb (k+1:Nat))]) (by simp only[go_sem,Zq]),_,_,_,_,_,_,_,N2,rfl⟩
      ·have N2:=N.xU BO hm YB (by rw[<- hr,<- ZB]) Js ⟨.one,0,9,1,λ_=>r.cells⟩ ⟨.arr,0,1,1,λ_=>[Qb k]⟩;have QK:=Qc hm;have Dn:lm≠p:=WT hm ho (.inl nofun);have QmL:ms.length<=4294967295:=by
        have:=inc_le ms k 0 N.I.inc λj hj=>⟨JQ j,((N.I.mem j).1 hj).1⟩;omega
       have pn:ms.length+1<=4294967295:=by
        have:=inc_le ms k 0 N.I.inc λj hj=>⟨JQ j,((N.I.mem j).1 hj).1⟩;omega
       simp only[go_sem,Qa,ho,Qe,hm,QK,Qi Dn,QmL,pn];repeat (refine And.intro (by first|assumption|omega) ?_)
       refine⟨_,QI.frame (fr':=[(4,.ptr p 0 0 0),(17,DT l),(18,Qb l.length),(19,Qb (k+1:Nat))]) (by simp only[go_sem,Zq]),_,_,_,_,_,_,_,N2,rfl⟩
     | true=>
      simp only[go_sem,Qa,ho,Qe];have N1:=N.app [⟨.one,0,9,1,λ_=>r.cells⟩];have N2:qY h (H++[⟨.one,0,9,1,λ_=>r.cells⟩]) l (k+1) p dr le dm c es ms:=⟨N1.ex,N1.o,N1.eo,N1.rs,N1.mo,N1.hp,N1.he,N.I.there (by rw[<- hr,<- ZB]) (by rw[<- hr,<- hq];rfl),Js⟩;refine⟨Qs,_,QI.frame (fr':=[(4,.ptr p 0 0 0),(17,DT l),(18,Qb l.length),(19,Qb (k+1:Nat))]) (by simp only[go_sem,Zq]),_,_,_,_,_,_,_,N2,rfl⟩
  ·have ZW:k=l.length:=by omega
   have dk:=QQ Qs;subst ZW;have e0:YQ l=0:=by
    unfold YQ;rw[Qd FE,Qg];rw[jN];intro r hr;obtain⟨j,hj,e⟩:=yE hr;have:=N.ok j hj;unfold Jm at this;rw[Q8,QP hj]at this;rw[<- e];exact this
   refine Qf hb ?_;simp only[go_sem,Qa,dk];apply Q1 hb;obtain⟨g,rfl⟩:=N.ex;refine⟨g,rfl,λ_=>⟨p,rfl,dr,le,dm,c,es,ms,N.o,N.eo,N.rs,N.mo,N.hp,N.he,N.I,e0⟩,λh=>absurd e0 h⟩
@[go_sem] def yA(d:D):Ob:=⟨.one,0,1,1,λ_=>[d]⟩
structure qv (n:Nat) (own:Nat->Tag) (tw:Nat->TT) (h:List Ob) (bp bo op:Nat) (L:List Ev):Prop where
 hp:h[bp]? = some (yA (Qb op))
 ho:∃d,h[bo]? = some (yA d)/\WS (λl=>n<=l/\own l=.no/\tw l=.no/\l≠bp/\l≠bo) h 12 Ev.cells d L
 np:n<=bp
 no:n<=bo
 op:own bp=.no
 oo:own bo=.no
 tp:tw bp=.no
 to:tw bo=.no
 ne:bp≠bo
def qv.w9{n}{own own'}{tw Z8}{h h':List Ob}{bp bo op}{L}(E:qv n own tw h bp bo op L)(D:Ja h.length own tw h own' Z8 h'):qv n own' Z8 h' bp bo op L:=by
 obtain⟨d,h1,h2⟩:=E.ho;have lp:=Qc E.hp;have lo:=Qc h1;exact⟨(D.keep _ lp E.op E.tp).trans E.hp,⟨d,(D.keep _ lo E.oo E.to).trans h1,h2.step λj hj ⟨a,b,c,e,f⟩=>⟨⟨a,(D.s1 j hj).trans b,(D.s2 j hj).trans c,e,f⟩,D.keep j hj b c⟩⟩,E.np,E.no,(D.s1 _ lp).trans E.op,(D.s1 _ lo).trans E.oo,(D.s2 _ lp).trans E.tp,(D.s2 _ lo).trans E.to,E.ne⟩
def Ja.XF{m n}{own own'}{tw Z8}{h h'}(hm:m<=n)(D:Ja n own tw h own' Z8 h'):Ja m own tw h own' Z8 h':=⟨D.s1,D.s2,λl hl=>D.keep l (jO hl hm),D.my,D.len⟩
def QA3{n}{own}{tw}{h h':List Ob}{bo lo}(hn:n<=bo)(h1:own bo=.no)(h2:tw bo=.no)(hl:lo<h.length->n<=lo/\own lo=.no/\tw lo=.no)(hh:n<=h.length)(len:h.length<=h'.length)
  (k:∀j,j<h.length->j≠bo->j≠lo->h'[j]? = h[j]?):Ja n own tw h (QS own h .no) (ZS tw h .no) h'/\cr own tw h (QS own h .no) (ZS tw h .no) h':=by
 refine⟨⟨λl hl=>JY hl,λl hl=>KR hl,λl JA _ _=>k l (by omega) (by omega) λe=>?_,λl Qc hm=>k l Qc (λe=>by rw[e,h2]at hm;cases hm) λe=>?_,len⟩,λl Qc=>⟨λhv=>⟨JY Qc,k l Qc (λe=>hv.1 (by rw[e,h1])) λe=>?_⟩,λhv _=>⟨KR Qc,k l Qc (λe=>hv (by rw[e,h2])) λe=>?_⟩⟩⟩
 ·have:=(hl (by omega)).1;omega
 ·rw[e,(hl (by omega)).2.2]at hm;cases hm
 ·exact hv.1 (by rw[e];exact(hl (by omega)).2.1)
 ·exact hv (by rw[e];exact(hl (by omega)).2.2)
def cB{own}{tw}{h}(ap:∀l,tw l≠.no->own l=.no):∀l,ZS tw h .no l≠.no->QS own h .no l=.no:=λl hl=>by
 by_cases h1:l<h.length
 ·rw[KR h1]at hl;rw[JY h1];exact ap l hl
 ·exact zQ (by omega)
def QiZ{n}{own}{tw}{h:List Ob}{bp bo op}{L:List Ev}(E:qv n own tw h bp bo op L)(hn:n<=h.length)(hL:L.length<1000000000)(e:Ev):
  MFn prog 40 h [.agg e.cells,.ptr bp 0 0 0,.ptr bo 0 0 0] (λd h'=>d=.tup []/\qv n (QS own h .no) (ZS tw h .no) h' bp bo op (L++[{ e with op:=op }])/\Ja n own tw h (QS own h .no) (ZS tw h .no) h'/\cr own tw h (QS own h .no) (ZS tw h .no) h'):=by
 have hp:=E.hp;obtain⟨d,ho,hd⟩:=E.ho;have QB:=E.ne;have lp:=Qc hp;have lo:=Qc ho;have fin:∀(h':List Ob) (d':D) (sl:Nat),h'[bp]? = some (yA (Qb op))->h'[bo]? = some (yA d')->WS (λl=>n<=l/\QS own h .no l=.no/\ZS tw h .no l=.no/\l≠bp/\l≠bo) h' 12 Ev.cells d' (L++[{ e with op:=op }])->(sl<h.length->n<=sl/\own sl=.no/\tw sl=.no)->h.length<=h'.length ->
   (∀j,j<h.length->j≠bo->j≠sl->h'[j]? = h[j]?)->qv n (QS own h .no) (ZS tw h .no) h' bp bo op (L++[{ e with op:=op }])/\Ja n own tw h (QS own h .no) (ZS tw h .no) h'/\cr own tw h (QS own h .no) (ZS tw h .no) h':=λh' d' sl a1 a2 a3 a4 a5 a6=>
  ⟨⟨a1,⟨d',a2,a3⟩,E.np,E.no,(JY lp).trans E.op,(JY lo).trans E.oo,(KR lp).trans E.tp,(KR lo).trans E.to,E.ne⟩,QA3 E.no E.oo E.to a4 hn a5 a6⟩
 rcases hd with ⟨rfl,rfl⟩|⟨sl,g,row,rfl,⟨s1,s2,s3,s4,s5⟩,hs,hr⟩
 ·have fin:=fin (h.set bo (yA (.ref (h.length+2) 0 0 1))++[⟨.one,0,12,1,λ_=>({ e with op:=op }:Ev).cells⟩,⟨.arr,0,12,1,λ_=>({ e with op:=op }:Ev).cells⟩,⟨.arr,0,12,1,λ_=>({ e with op:=op }:Ev).cells⟩]) (.ref (h.length+2) 0 0 1) h.length
   (by rw[QC (by simpa using lp),Qi QB.symm];exact hp) (by rw[QC (by simpa using lo),Qv lo])
   (.inr ⟨h.length+2,0,λ_=>({ e with op:=op }:Ev).cells,rfl,⟨by omega,zQ (by omega),DQ (by omega),by omega,by omega⟩,KX (k:=2) (by simp),λi hi=>by
    simp at hi;subst hi;rfl⟩) (λh=>absurd h (Gj _)) (by simp) (λj hj h1 h2=>by rw[QC (by simpa using hj),Qi (Q3 h1)])
  refine QU Qh 200 func40 rfl ntmps40 results40 rfl λbase w pl hb=>?_;have Nq:=Qc hp;have Qe:=Qc ho;simp only[go_sem,Qa,hp,Nq,ho,Qe,QB,QB.symm];simp only[go_sem]at fin ⊢;exact fin
 ·have FO:=Qc hs;have RC:L.length<=4294967295:=by omega
  have RE:L.length+1<=4294967295:=by omega
  have fin:=fin ((h.set sl ⟨.arr,g+1,12,L.length+1,J2 L.length 0 row λ_=>({ e with op:=op }:Ev).cells⟩).set bo (yA (.ref sl (g+1) 0 (L.length+1)))++[⟨.one,0,12,1,λ_=>({ e with op:=op }:Ev).cells⟩,⟨.arr,0,12,1,λ_=>({ e with op:=op }:Ev).cells⟩]) (.ref sl (g+1) 0 (L.length+1)) sl
   (by rw[QC (by simpa using lp),Qi QB.symm,Qi s4];exact hp) (by rw[QC (by simpa using lo),Qv (by simpa using lo)])
   (.inr ⟨sl,g+1,J2 L.length 0 row λ_=>({ e with op:=op }:Ev).cells,by simp,⟨s1,(JY FO).trans s2,(KR FO).trans s3,s4,s5⟩,by rw[QC (by simpa using FO),Qi s5.symm,Qv FO];simp,λi hi=>by
    simp at hi;by_cases Yx:i<L.length
    ·rw[yL Yx,JG,hr i Yx];simp[Yx,Jy Yx]
    ·have:i=L.length:=by omega
     subst this;rw[vV (QD _)];simp⟩) (λ_=>⟨s1,s2,s3⟩) (by simp) (λj hj h1 h2=>by rw[QC (by simpa using hj),Qi (Q3 h1),Qi (Q3 h2)])
  refine QU Qh 200 func40 rfl ntmps40 results40 rfl λbase w pl hb=>?_;have Nq:=Qc hp;have Qe:=Qc ho;have FO:=Qc hs;simp only[go_sem,Qa,hp,Nq,ho,Qe,hs,FO,QB,QB.symm,s4,s5,Qi s5,RC,RE];simp only[go_sem]at fin ⊢;repeat (refine And.intro (by first|assumption|omega) ?_)
  exact fin
def Qi0{own}{tw}{h}{p}{S}(T:VS own tw h p S):Zg prog 15 h [.ptr p 0 0 0] (λd=>d=u64 (ZL S)):=by
 obtain⟨ps,pl,pr,pt,T⟩:=T;have ho:=ZM T.o;obtain⟨a,b,c,hl⟩:=T.ln;have hl:=ZM hl;obtain⟨L,C⟩:=T.co.ex;have hD:=QhU C.ro T.co.I;have hU:=λ(F:List Ob) (hF:F=h.map Ob.ro)=>QAH (h:=F) (KM hF _ _ hl);have hD:=λ(F:List Ob) (hF:F=h.map Ob.ro)=>QhU (C.ro.more (KM hF)) T.co.I;clear T C;unfold ZL;obtain⟨v,hv⟩:∃v,v=KQ S.M:=⟨_,rfl⟩;rw[<- hv]at hD ⊢;refine Zt Qh 200 func15 rfl ntmps15 results15 rfl λbase w pl F hF Za hb=>?_;rw[<- hF]at ho hl;have Qe:=Qc ho;have Fi:=Qc hl;simp only[go_sem,Qa,ho,Qe,hl,Fi];apply QH hb [0,1,2,3,4,5,6,7,9,10,11,12,1008,1013,1014,15];simp only[go_sem,Qa,ho,Qe];refine XO hb Qq7 (hU F hF) λd hR=>?_;subst hR;refine Zb hb ?_;simp only[go_sem,Qa,ho,Qe];refine XO hb Qq8 (hD F hF) λd hR=>?_;subst hR;refine Zb hb ?_;simp only[go_sem,Qa,ho,Qe];refine Pc hb Qq6 (QAP S.Ql S.YR v) (Qo.flat rfl) λd h hR=>?_;obtain⟨rfl,rfl⟩:=hR;apply XN hb;all_goals first|exact⟨_,rfl,rfl⟩|exact⟨_,rfl⟩|rfl|exact⟨[],(Zd _).symm⟩|exact⟨[],(Zd _).symm,rfl⟩
def Qi1{n}{own}{tw}{h:List Ob}{p}{S}(T:VS own tw h p S)(V:Jh S){bp bo op}{L:List Ev}(E:qv n own tw h bp bo op L)(hn:n<=h.length)(hL:L.length<100000000):
  MFn prog 86 h [.ptr p 0 0 0,u64 S.Ql,.clo 40 0 [.ptr bp 0 0 0,.ptr bo 0 0 0]] (λd h'=>d=.tup []/\∃own' Z8,VS own' Z8 h' p (J5 S op S.Ql).1/\qv n own' Z8 h' bp bo op (L++(J5 S op S.Ql).2)/\Ja n own tw h own' Z8 h'):=by
 obtain⟨ps,lp,pr,pt,T⟩:=T;have ho:=T.o;obtain⟨a,b,c,hl⟩:=T.ln;have cC:=o7 (ZM hl) S.Ql;by_cases hu:S.YR<=S.Ql
 ·have du:=Q7 hu;rw[du]at cC;refine QU Qh 200 func86 rfl ntmps86 results86 rfl λbase w pl hb=>?_;have Qe:=Qc ho;simp only[go_sem,Qa,ho,Qe];refine JJ hb Ur cC λd hR=>?_;subst hR;refine Qf hb ?_;simp only[go_sem,Qa,ho,Qe];refine BD hb QrA (Qz0 T.co S.Ql) λd h1 hR=>?_;obtain⟨rfl,Z7,C1,D1⟩:=hR;have T1:=T.core D1 C1 (bX S.M S.Ql);have K1:Ja h.length own tw h Z7 (ZS tw h .no) h1:=Ja.core T.ap (QD _) D1;obtain⟨Vk,QA4⟩:∃t,t=ZS tw h .no:=⟨_,rfl⟩;rw[<- QA4]at T1 K1;have E1:=E.w9 K1;have Rp:=K1.len;obtain⟨j,hj⟩:∃j,j=kC S.M S.Ql:=⟨_,rfl⟩;obtain⟨k,hk⟩:∃k,k=qs S.M S.Ql:=⟨_,rfl⟩;obtain⟨b,xp⟩:∃b,b=FZ S.M S.Ql:=⟨_,rfl⟩;cases ht:YP S.M S.Ql with
  | false=>
   have e:J5 S op S.Ql=({ S with M:=takeN S.M S.Ql },[]):=by unfold J5;rw[Qd (by omega),Qd (by rw[ht];exact Qhn)]
   rw[e,<- hj,<- hk,<- xp];apply Q1 hb;have T2:=T1.jL [⟨.one,0,8,1,λ_=>YL j k b⟩];have K2:=Ja.app (n:=h1.length) Z7 Vk h1 [⟨.one,0,8,1,λ_=>YL j k b⟩] .my (QD _);exact⟨_,_,⟨_,_,_,_,T2⟩,E1.w9 K2,(K1.XF hn).trans hn (K2.XF (by omega))⟩
  | true=>
   have hlen:=V.take_len ht;have kS:=bY V.K hlen;rw[<- hk]at hlen kS;have BO:=V.K.l2;have Z6:=V.cl;obtain⟨done,Qi2⟩:∃d,d=S.Ql+B6 S.M.lk k.len:=⟨_,rfl⟩;have e:J5 S op S.Ql=({ S with M:=takeN S.M S.Ql,YR:=done,st:=Yj S.st j done k.len b },[Nh op b S.Ql done j k]):=by
    unfold J5;rw[Qd (by omega),Qg ht,<- hk,<- Qi2,<- hj,<- xp]
   rw[e,<- hj,<- hk,<- xp];have T2:=T1.jL [⟨.one,0,8,1,λ_=>YL j k b⟩];have K2:=K1.trans (QD _) ((Ja.app (n:=h1.length) Z7 Vk h1 [⟨.one,0,8,1,λ_=>YL j k b⟩] .my (QD _)).XF Rp);have E2:=E.w9 K2;have ZB:(h1++[(⟨.one,0,8,1,λ_=>YL j k b⟩:Ob)])[h1.length]? = some ⟨.one,0,8,1,λ_=>YL j k b⟩:=Ko rfl;have n2:QS Z7 h1 .no h1.length=.no:=zQ (QD _);have m2:ZS Vk h1 .my h1.length=.my:=DQ (QD _);apply Q1 hb;obtain⟨h2,Nr⟩:∃h2,h2=h1++[(⟨.one,0,8,1,λ_=>YL j k b⟩:Ob)]:=⟨_,rfl⟩;rw[<- Nr]at T2 K2 E2 ZB;simp only[go_sem,YL]at Nr;rw[<- Nr];clear Nr;generalize QS Z7 h1 .no=JK at T2 K2 E2 n2;generalize ZS Vk h1 .my=W0 at T2 K2 E2 m2;have KU:=T2.o;have qm:=Qc KU;have jG:=Qc ZB;obtain⟨a2,b2,c2,JA⟩:=T2.ln;have ql:(takeN S.M S.Ql).lk=S.M.lk:=bX S.M S.Ql;have cD:=QAL h2 JA (by show 1<=(takeN S.M S.Ql).lk.t;rw[ql];exact V.K.t1) (by show (takeN S.M S.Ql).lk.t<=65536;rw[ql];exact V.K.t2) Z6 hu k ⟨hlen.1,by omega⟩;have QA5:S.Ql+k.len.toNat*(takeN S.M S.Ql).lk.t.toNat=done:=by rw[ql,Qi2];rfl
   have cD:MFn prog 140 h2 [.ptr lp 0 0 0,u64 S.Ql,.agg k.cells] (λd h'=>d=.tup [u64 done,Qb 0]/\∃a' b' c' g,h'=h2.set lp (qX a' b' c' (takeN S.M S.Ql).lk.t done)++g):=by
    rw[<- QA5];exact cD
   simp only[go_sem,YL]at ZB;apply KL [7] hb [0,1,2,3,4,5,6,1007,8,9,10,11,12] [];simp only[go_sem,Qa,KU,qm,ZB,jG];refine j9 hb QrB cD λd h3 hR=>?_;obtain⟨rfl,a3,b3,c3,g3,RS⟩:=hR;have t2l:=T2.tl;have s3:Step (λl=>W0 l=.ln) h2 h3:=by
    rw[RS];exact⟨λl hl QB=>by rw[QC (by simpa using hl),Qi (λe=>QB (by rw[<- e];exact t2l))],by simp⟩
   have Dj:h3[lp]? = some (qX a3 b3 c3 (takeN S.M S.Ql).lk.t done):=by rw[RS,QC (by simpa using Qc JA),Qv (Qc JA)]
   have T3:=T2.link s3 Dj;have K3:=K2.trans (QD _) ((Ja.part (n:=h2.length) (own:=JK) (t:=.ln) ⟨by simp,by simp⟩ (QD _) s3).XF K2.len);have E3:=E.w9 K3;have YK:h3[h1.length]? = some _:=(s3.keep _ jG (by rw[m2];simp)).trans ZB;have n3:QS JK h2 .no h1.length=.no:=(JY jG).trans n2;have m3:ZS W0 h2 .ln h1.length=.my:=(KR jG).trans m2;clear RS cD;generalize QS JK h2 .no=yq at T3 K3 E3 n3;generalize ZS W0 h2 .ln=cE at T3 K3 E3 m3;have WC:=T3.o;have qS:=Qc WC;have AR:=Qc YK;apply XN hb;have QA7:=QAT T3.st j (done:=done) (by omega) (bytes:=k.len) hlen.1 (by omega) b;apply KL [12] hb [0,1,2,3,4,5,6,7,8,9,10,11,1012] [];simp only[go_sem,Qa,WC,qS,YK,AR];refine j9 hb QrC QA7 λd h4 hR=>?_;obtain⟨s4,po⟩:=hR;have T4:=T3.stat s4 po;have K4:=K3.trans (QD _) ((Ja.part (n:=h3.length) (own:=yq) (t:=.st) ⟨by simp,by simp⟩ (QD _) s4).XF K3.len);have E4:=E.w9 K4;have yg:h4[h1.length]? = some _:=(s4.keep _ AR (by rw[m3];simp)).trans YK;generalize QS yq h3 .no=own4 at T4 K4 E4;generalize ZS cE h3 .st=tw4 at T4 K4 E4;have QA8:=Qc yg;refine Zb hb ?_;simp only[go_sem,Qa,yg,QA8];have RF:n<=h4.length:=Kz hn K4.len;refine KW hb Qdv rfl ?_ (QiZ E4 RF (by omega) (Nh 0 b S.Ql done j k)) rfl λd h5 hR=>?_
   ·simp only[go_sem,Nh]
   obtain⟨rfl,E5,K5,st5⟩:=hR;have T5:=T4.step st5 (cB T4.ap);have yO:({ Nh 0 b S.Ql done j k with op:=(op:Int) }:Ev)=Nh op b S.Ql done j k:=rfl;rw[yO]at E5;apply Q1 hb;exact⟨_,_,⟨_,_,_,_,T5⟩,E5,(K4.XF hn).trans hn K5⟩
 ·have du:=QQ hu;rw[du]at cC;have e:J5 S op S.Ql=(S,[]):=by unfold J5;rw[Qg (by omega)]
  rw[e];refine QU Qh 200 func86 rfl ntmps86 results86 rfl λbase w pl hb=>?_;have Qe:=Qc ho;simp only[go_sem,Qa,ho,Qe];refine JJ hb Ur cC λd hR=>?_;subst hR;refine Qf hb ?_;simp only[go_sem,Qa,ho,Qe];exact⟨own,tw,⟨_,_,_,_,T⟩,E,Ja.refl n own tw h⟩
@[go_sem] def WD.cells(r:WD):List D:=[Qb r.err,Qb r.place,Qb r.cls]
def qv.loc{n}{own}{tw}{h:List Ob}{bp bo op}{L}(E:qv n own tw h bp bo op L){l}{o1:Ob}(hl:h[l]? = some o1)(hk:o1.kd≠.arr)(h1:l≠bp)(h2:l≠bo)(o):qv n own tw (h.set l o) bp bo op L:=by
 obtain⟨d,a1,a2⟩:=E.ho;exact⟨by rw[Qi h1];exact E.hp,⟨d,by rw[Qi h2];exact a1,a2.imp id λ⟨lo,g,row,b1,b2,b3,b4⟩=>⟨lo,g,row,b1,b2,by rw[Qi (WT hl b3 (.inl hk))];exact b3,b4⟩⟩,E.np,E.no,E.op,E.oo,E.tp,E.to,E.ne⟩
def Ja.BT{n}{own own'}{tw Z8}{h H:List Ob}(D:Ja n own tw h own' Z8 H){l}(hl:n<=l)(hm:h.length<=l)(o):Ja n own tw h own' Z8 (H.set l o):=⟨D.s1,D.s2,λj h1 h2 h3=>by rw[Qi (by omega)];exact D.keep j h1 h2 h3,λj h1 h2=>by rw[Qi (by omega)];exact D.my j h1 h2,by simpa using D.len⟩
def QBa{n}{own}{tw}{h:List Ob}{p}{S:ZH}(T:VS own tw h p S)(V:Jh S){bp bo op}{L:List Ev}(E:qv n own tw h bp bo op L)(hn:n<=h.length)(hL:L.length<10000000)(cz:∀k,(S.st.ZV k).length<1000000)(x)(hx:RN x):
  MFn prog 43 h [.ptr p 0 0 0,.agg x.cells,.clo 40 0 [.ptr bp 0 0 0,.ptr bo 0 0 0]] (λd h'=>d=.agg (zP S op x).r.cells/\∃own' Z8,VS own' Z8 h' p (zP S op x).S/\qv n own' Z8 h' bp bo op (L++(zP S op x).l)/\Ja n own tw h own' Z8 h'):=by
 obtain⟨ps,lp,pr,pt,T⟩:=T;have Z6:=V.cl;have T1:=T.jL [⟨.one,0,6,1,λ_=>x.cells⟩,⟨.one,0,3,1,λ_=>[Qb 0,Qb 0,Qb 0]⟩];have K1:=Ja.app (n:=h.length) own tw h [⟨.one,0,6,1,λ_=>x.cells⟩,⟨.one,0,3,1,λ_=>[Qb 0,Qb 0,Qb 0]⟩] .my (QD _);have E1:=E.w9 K1;have VK:(h++[(⟨.one,0,6,1,λ_=>x.cells⟩:Ob),⟨.one,0,3,1,λ_=>[Qb 0,Qb 0,Qb 0]⟩])[h.length]? = some ⟨.one,0,6,1,λ_=>x.cells⟩:=Ko rfl;have Vm:(h++[(⟨.one,0,6,1,λ_=>x.cells⟩:Ob),⟨.one,0,3,1,λ_=>[Qb 0,Qb 0,Qb 0]⟩])[h.length+1]? = some ⟨.one,0,3,1,λ_=>[Qb 0,Qb 0,Qb 0]⟩:=KX (k:=1) rfl;have n1:∀i,h.length<=i->QS own h .no i=.no:=λi hi=>zQ hi;have m1:∀i,h.length<=i->ZS tw h .my i=.my:=λi hi=>DQ hi;have Rp:h.length+2=(h++[(⟨.one,0,6,1,λ_=>x.cells⟩:Ob),⟨.one,0,3,1,λ_=>[Qb 0,Qb 0,Qb 0]⟩]).length:=by simp
 refine QU Qh 200 func43 rfl ntmps43 results43 rfl λbase w pl hb=>?_;simp only[go_sem,Qa];obtain⟨h1,AW⟩:∃h1,h1=h++[(⟨.one,0,6,1,λ_=>x.cells⟩:Ob),⟨.one,0,3,1,λ_=>[Qb 0,Qb 0,Qb 0]⟩]:=⟨_,rfl⟩;rw[<- AW]at T1 K1 E1 VK Vm Rp;simp only[go_sem]at AW;rw[<- AW];clear AW;generalize QS own h .no=Z7 at T1 K1 E1 n1;generalize ZS tw h .my=Vk at T1 K1 E1 m1;have Zp:=T1.o;have Kh:=Qc Zp;have qw:=Qc VK;have qx:=Qc Vm;obtain⟨dr,le,dm,cc,es,ms,Tb⟩:=T1.tb;have F:=QAV Tb.toR x hx;obtain⟨cls,F3⟩:∃c,c=Wn S.R (Jc x):=⟨_,rfl⟩;rw[<- F3]at F;by_cases h0:cls=0
 ·have e:zP S op x=⟨S,⟨31,0,0⟩,[]⟩:=by unfold zP;rw[Qg (by rw[<- F3];exact h0)]
  rw[e];rw[Qg h0,h0]at F;simp only[go_sem]at VK;apply QH hb [0,1,2,3,4,5,1006,7,8,9,10,11];simp only[go_sem,Qa,Zp,Kh,VK,qw];refine Wv hb QdA rfl ?_ F rfl λd hR=>?_
  ·simp only[go_sem,Qa,Zp,Kh,VK,qw,Vm,qx,Qv qx]
  subst hR;refine Zb hb ?_;simp only[go_sem,Qa,Zp,Kh,VK,qw,Vm,qx,Qv qx];exact⟨Z7,Vk,⟨_,_,_,_,T1.loc (n1 _ (by omega)) (.inr (m1 _ (by omega))) _⟩,E1.loc Vm nofun (by have:=Qc E.hp;omega) (by obtain⟨d,h1,_⟩:=E.ho;have:=Qc h1;omega) _,(K1.XF hn).BT (by omega) (by omega) _⟩
 ·have nb:h.length+1≠bp/\h.length+1≠bo:=by
   obtain⟨d,h1,_⟩:=E.ho;have:=Qc h1;have:=Qc E.hp;omega
  rw[Qd h0]at F;have P:=QzZ T1.co S.Ql (by omega) cls x;simp only[go_sem]at VK;obtain⟨err,cF⟩:∃e,e=vL S.M S.Ql cls x:=⟨_,rfl⟩;rw[<- cF]at P;apply QH hb [0,1,2,3,4,5,1006,7,8,9,10,11];simp only[go_sem,Qa,Zp,Kh,VK,qw];refine Wv hb QdA rfl ?_ F rfl λd hR=>?_
  ·simp only[go_sem,Qa,Zp,Kh,VK,qw,Vm,qx,Qv qx]
  subst hR;refine Zb hb ?_;simp only[go_sem,Qa,Zp,Kh,VK,qw,Vm,qx,Qv qx];apply KL [10] hb [0,1,2,3,4,5,6,7,8,9,1010,11] [];simp only[go_sem,Qa,Zp,Kh,VK,qw];refine j9 hb Qrf P λd h2 hR=>?_;obtain⟨rfl,JK,C2,D2⟩:=hR;have T2:=T1.core D2 C2 (bU S.M S.Ql cls x);have K2':Ja h1.length Z7 Vk h1 JK (ZS Vk h1 .no) h2:=Ja.core T1.ap (QD _) D2;have K2:=K1.trans (QD _) (K2'.XF K1.len);have E2:=E1.w9 K2';have Wr:h2[h.length]? = some _:=(D2.keep _ qw (n1 _ (QD _))).trans VK;have Jr:h2[h.length+1]? = some _:=(D2.keep _ qx (n1 _ (by omega))).trans Vm;have n2:JK (h.length+1)=.no:=(D2.same _ qx).trans (n1 _ (by omega));have n2x:JK h.length=.no:=(D2.same _ qw).trans (n1 _ (by omega));have m2:ZS Vk h1 .no (h.length+1)=.my:=(KR qx).trans (m1 _ (by omega));have m2x:ZS Vk h1 .no h.length=.my:=(KR qw).trans (m1 _ (by omega));generalize ZS Vk h1 .no=W0 at T2 K2 E2 m2 m2x;have KU:=T2.o;have qm:=Qc KU;have Qi5:=Qc Wr;have Ym:=Qc Jr;refine Zb hb ?_;simp only[go_sem,Qa,KU,qm,Wr,Qi5];by_cases he:err=0
  ·have MI:(err != 0)=false:=by simpa using he
   have hS':Jh { S with M:=KO S.M S.Ql cls x,st:=AV S.st cls S.Ql }:=(V.put cls x).ZV cls S.Ql (by show S.Ql<_;omega);have e:zP S op x=⟨(J5 { S with M:=KO S.M S.Ql cls x,st:=AV S.st cls S.Ql } op S.Ql).1,⟨0,0,cls⟩,Ng op S.Ql cls x::(J5 { S with M:=KO S.M S.Ql cls x,st:=AV S.st cls S.Ql } op S.Ql).2⟩:=by
    unfold zP;rw[Qd (by rw[<- F3];exact h0),Qg (by rw[<- F3,<- cF];exact he),<- F3]
   rw[e];have QBc:=QAR T2.st cls S.Ql (cz cls);simp only[go_sem,Qa,MI];apply KL [9] hb [0,1,2,3,4,5,6,7,8,1009] [];simp only[go_sem,Qa,KU,qm];refine j9 hb Qrg QBc λd h3 hR=>?_;obtain⟨rfl,s3,st3⟩:=hR;have T3:=T2.stat s3 st3;have K3':Ja h2.length JK W0 h2 (QS JK h2 .no) (ZS W0 h2 .st) h3:=Ja.part ⟨by simp,by simp⟩ (QD _) s3;have K3:=K2.trans (QD _) (K3'.XF K2.len);have E3:=E2.w9 K3';have Hu:h3[h.length]? = some _:=(s3.keep _ Qi5 (by rw[m2x];simp)).trans Wr;have wN:h3[h.length+1]? = some _:=(s3.keep _ Ym (by rw[m2];simp)).trans Jr;have n3:QS JK h2 .no (h.length+1)=.no:=(JY Ym).trans n2;have m3:ZS W0 h2 .st (h.length+1)=.my:=(KR Ym).trans m2;generalize QS JK h2 .no=yq at T3 K3 E3 n3;generalize ZS W0 h2 .st=cE at T3 K3 E3 m3;have WC:=T3.o;have qS:=Qc WC;have QBe:=Qc Hu;have Ib:=Qc wN;have xZ:n<=h3.length:=Kz hn K3.len;apply XN hb;apply KL [8] hb [0,1,2,3,4,5,6,7,1008] [];simp only[go_sem,Qa,WC,qS,Hu,QBe];refine wB hb Qdv rfl ?_ (QiZ E3 xZ (by omega) (Ng 0 S.Ql cls x)) rfl λd h4 hR=>?_
   ·simp only[go_sem,Ng]
   obtain⟨rfl,E4,cG,po⟩:=hR;have T4:=T3.step po (cB T3.ap);have K4:=(K3.XF hn).trans hn cG;have Mr:h4[h.length+1]? = some _:=(cG.my _ Ib m3).trans wN;have n4:QS yq h3 .no (h.length+1)=.no:=(JY Ib).trans n3;have m4:ZS cE h3 .no (h.length+1)=.my:=(KR Ib).trans m3;have yO:({ Ng 0 S.Ql cls x with op:=(op:Int) }:Ev)=Ng op S.Ql cls x:=rfl;rw[yO]at E4;generalize QS yq h3 .no=own4 at T4 E4 K4 cG n4;generalize ZS cE h3 .no=tw4 at T4 E4 K4 cG m4;have FK:=T4.o;have MK:=Qc FK;have pq:=Qc Mr;have RF:n<=h4.length:=Kz hn K4.len;refine Zb hb ?_;simp only[go_sem,Qa,FK,MK];have QBf:=Qi1 (T:=⟨_,_,_,_,T4⟩) hS' E4 RF (by simp;omega);refine Jl hb QdB QBf λd h5 hR=>?_;obtain⟨rfl,wS,cH,⟨_,_,_,_,T5⟩,E5,K5⟩:=hR;have pw:h5[h.length+1]? = some _:=(K5.my _ pq m4).trans Mr;have n5:=(K5.s1 _ pq).trans n4;have m5:=(K5.s2 _ pq).trans m4;have Qi7:=Qc pw;rw[Wb]at E5;refine Qf hb ?_;simp only[go_sem,Qa,pw,Qi7,Qv Qi7];exact⟨wS,cH,⟨_,_,_,_,T5.loc n5 (.inr m5) _⟩,E5.loc pw nofun nb.1 nb.2 _,(K4.trans hn K5).BT (by omega) (by omega) _⟩
  ·have e:zP S op x=⟨{ S with M:=KO S.M S.Ql cls x },⟨err,0,cls⟩,[]⟩:=by unfold zP;rw[Qd (by rw[<- F3];exact h0),Qd (by rw[<- F3,<- cF];exact he),<- F3,<- cF]
   have MI:(err != 0)=true:=by simpa using he
   rw[e];simp only[go_sem,Qa,MI,Jr,Ym,Qv Ym];exact⟨JK,W0,⟨_,_,_,_,T2.loc n2 (.inr m2) _⟩,E2.loc Jr nofun nb.1 nb.2 _,(K2.XF hn).BT (by omega) (by omega) _⟩
def kD.q64{own}{h}{p}{M}(C:kD own h p M)(j:Int):(JN M j).length<=64:=by
 unfold JN QE;cases hn:Qm M.N j with
 | none=>exact JQ _
 | some n=>
  show n.q.l.length<=64;cases hl:n.c.leaf with
  | true=>
   obtain⟨L,c⟩:=C.ex;obtain⟨k,hk,r,Q⟩:=c.WO j n hn hl;have:=Q.ring.lI;omega
  | false=>rw[C.V.B2 j n hn hl];exact JQ _
def Qi8(f:Qn->Nat)(b):∀l:List Qn,(∀c∈l,f c<=b)->(l.map f).sum<=l.length*b
 | [],_=>by simp
 | c::l,h=>by
  have h1:=h c (by simp);have h2:=Qi8 f b l λd hd=>h d (by simp[hd]);simp only[Jz,List.sum_cons,Vu,Vl,Qam];omega
def kD.cI{own}{h}{p}{M}(C:kD own h p M):VQ M<=4096:=by
 have h1:=Qi8 (λc=>(JN M c.iD).length) 64 M.T λc _=>C.q64 c.iD;have h2:=C.I.tree.len;unfold VQ;have h3:M.T.length*64<=64*64:=Yp 64 h2;omega
def pz(S:ZH)(op now:Nat):(J5 S op now).2.length<=1:=by
 unfold J5;split
 ·exact JQ _
 ·split
  ·exact QD _
  ·exact JQ _
def Ja.pA{n}{own own'}{tw Z8}{h H:List Ob}(D:Ja n own tw h own' Z8 H){p}(hp:tw p=.sys)(o):Ja n own tw h own' Z8 (H.set p o):=
 ⟨D.s1,D.s2,λj h1 h2 h3=>by rw[Qi (λe=>by rw[<- e,hp]at h3;cases h3)];exact D.keep j h1 h2 h3,λj h1 h2=>by rw[Qi (λe=>by rw[<- e,hp]at h2;cases h2)];exact D.my j h1 h2,by simpa using D.len⟩
structure Qi9 (n:Nat) (own:Nat->Tag) (tw:Nat->TT) (h:List Ob) (p:Nat) (S:ZH) (bp bo op e:Nat) (L:List Ev) (r k:Nat) (own':Nat->Tag) (Z8:Nat->TT) (H:List Ob) (S':ZH) (L':List Ev):Prop where
 T:VS own' Z8 H p S'
 V:Jh S'
 E:qv n own' Z8 H bp bo op (L++L')
 K:Ja n own tw h own' Z8 H
 hr:H[r]? = some ⟨.one,0,3,1,λ_=>[Qb 0,Qb 0,Qb 0]⟩
 nr:own' r=.no
 mr:Z8 r=.my
 hk:VQ S'.M+k=VQ S.M
 cl:S'.Ql<=e
 go:WR op e (VQ S.M+1) S=((WR op e (VQ S'.M+1) S').1,L'++(WR op e (VQ S'.M+1) S').2)
 ln:L'.length<=k
def QBh{n}{own}{tw}{h:List Ob}{p}{S}(T:VS own tw h p S)(V:Jh S){bp bo op}{L:List Ev}(E:qv n own tw h bp bo op L)(hn:n<=h.length)(hL:L.length<10000000)(Ww)(kS:Ww<18446744073709551616):
  MFn prog 44 h [.ptr p 0 0 0,u64 Ww,.clo 40 0 [.ptr bp 0 0 0,.ptr bo 0 0 0]] (λd h'=>d=.agg (kF S op Ww).r.cells/\∃own' Z8,VS own' Z8 h' p (kF S op Ww).S/\qv n own' Z8 h' bp bo op (L++(kF S op Ww).l)/\Ja n own tw h own' Z8 h'):=by
 obtain⟨ps,lp,pr,pt,T⟩:=T;have Z6:=V.cl;have nb:h.length≠bp/\h.length≠bo:=by
  obtain⟨d,h1,_⟩:=E.ho;have:=Qc h1;have:=Qc E.hp;omega
 have T1:=T.jL [⟨.one,0,3,1,λ_=>[Qb 0,Qb 0,Qb 0]⟩];have K1:=Ja.app (n:=h.length) own tw h [⟨.one,0,3,1,λ_=>[Qb 0,Qb 0,Qb 0]⟩] .my (QD _);have E1:=E.w9 K1;have Vm:(h++[(⟨.one,0,3,1,λ_=>[Qb 0,Qb 0,Qb 0]⟩:Ob)])[h.length]? = some ⟨.one,0,3,1,λ_=>[Qb 0,Qb 0,Qb 0]⟩:=Ko rfl;have n1:QS own h .no h.length=.no:=zQ (QD _);have m1:ZS tw h .my h.length=.my:=DQ (QD _);have ho:=T.o;have Qe:=Qc ho;have w1:IntKind.u64.wrap ((4611686018427387904:Int) - (S.Ql:Int))=((4611686018427387904 - S.Ql:Nat):Int):=by rw[IntKind.wrap_u64];omega
 by_cases h0:4611686018427387904 - S.Ql<Ww
 ·have e:kF S op Ww=⟨S,⟨27,0,0⟩,[]⟩:=by unfold kF;rw[Qg h0]
  rw[e];have d0:=Q7 h0;refine QU Qh 200 func44 rfl ntmps44 results44 rfl λbase w pl hb=>?_;have Qe:=Qc ho;simp only[go_sem,Qa,ho,Qe,w1,d0];exact⟨_,_,⟨_,_,_,_,T.jL _⟩,E.w9 (Ja.app own tw h _ .my (QD _)),(Ja.app own tw h _ .my (QD _)).XF hn⟩
 ·have d0:=QQ h0;obtain⟨e,he⟩:∃e,e=S.Ql+Ww:=⟨_,rfl⟩;have w2:IntKind.u64.wrap ((S.Ql:Int)+(Ww:Int))=((e:Nat):Int):=by rw[IntKind.wrap_u64];omega
  have hA:kF S op Ww=⟨(WR op e (VQ S.M+1) S).1,⟨0,0,0⟩,(WR op e (VQ S.M+1) S).2⟩:=by unfold kF;rw[Qd h0,<- he]
  rw[hA];refine QU Qh 200 func44 rfl ntmps44 results44 rfl λbase w pl hb=>?_;have Qe:=Qc ho;simp only[go_sem,Qa,ho,Qe,w1,d0,w2];have A0:Qi9 n own tw h p S bp bo op e L h.length 0 (QS own h .no) (ZS tw h .my) (h++[(⟨.one,0,3,1,λ_=>[Qb 0,Qb 0,Qb 0]⟩:Ob)]) S []:=
   ⟨⟨_,_,_,_,T1⟩,V,by rw[Zd];exact E1,K1.XF hn,Vm,n1,m1,by omega,by omega,rfl,QD _⟩
  have QFS:=T.co.cI;refine ZZ (λk s=>∃own' Z8 H S' L',Qi9 n own tw h p S bp bo op e L h.length k own' Z8 H S' L'/\s=⟨[(0,.ptr p 0 0 0),(2,.clo 40 0 [.ptr bp 0 0 0,.ptr bo 0 0 0]),(6,.ptr h.length 0 0 0),(7,u64 e)],H⟩) (VQ S.M) QO ⟨_,_,_,S,[],A0,rfl⟩ ?_;clear A0 T1 K1 E1 Vm n1 m1;rintro k _ hk ⟨JK,W0,H,S2,L2,A,rfl⟩;obtain⟨Ns,Nt,Nu,Nv,T2⟩:=A.T;have KU:=T2.o;have qm:=Qc KU;have N:=Qi0 ⟨Ns,Nt,Nu,Nv,T2⟩;obtain⟨nx,yp⟩:∃nx,nx=ZL S2:=⟨_,rfl⟩;rw[<- yp]at N;have Jr:=A.hr;have Ym:=Qc Jr;have pb:p≠bp/\p≠bo:=⟨λe=>(by have h1:=T2.tp;rw[e,A.E.tp]at h1;cases h1),λe=>(by have h1:=T2.tp;rw[e,A.E.to]at h1;cases h1)⟩;have B7:p≠h.length:=λe=>by have:=T.o;have:=Qc this;omega
  apply Q1 hb;refine JJ hb Qdu N λd hR=>?_;subst hR;refine Qf hb ?_;simp only[go_sem,Qa,KU,qm];by_cases QB:e<nx
  ·have d1:=Q7 QB;have k9:WR op e (VQ S2.M+1) S2=({ S2 with Ql:=e },[]):=by
    unfold WR;rw[Qg (by rw[<- yp];exact QB)]
   have hg:=A.go;rw[k9,Zd]at hg;rw[hg];simp only[go_sem,Qa,d1,KU,qm,Qi B7,Jr,Ym,Qv];have hr9:(H.set p (qW Ns Nt Nu Nv e S2.ops))[h.length]? = some ⟨.one,0,3,1,λ_=>[Qb 0,Qb 0,Qb 0]⟩:=(Qi B7).trans Jr;exact⟨JK,W0,⟨_,_,_,_,(T2.clock e S2.ops).loc A.nr (.inr A.mr) _⟩,(A.E.loc KU nofun pb.1 pb.2 _).loc hr9 nofun nb.1 nb.2 _,(A.K.pA T.tp _).BT hn (QD _) _⟩
  ·have d1:=QQ QB;have hle:ZL S2<=e:=by omega
   obtain⟨V3,c1,c2,c3⟩:=QiK A.V op (by omega) hle;have k9:WR op e (VQ S2.M+1) S2=((WR op e (VQ S2.M) (J5 { S2 with Ql:=ZL S2 } op (ZL S2)).1).1,(J5 { S2 with Ql:=ZL S2 } op (ZL S2)).2++(WR op e (VQ S2.M) (J5 { S2 with Ql:=ZL S2 } op (ZL S2)).1).2):=by
    conv=>lhs;unfold WR
    rw[Qd (by rw[<- yp];exact QB)]
   have hg:=A.go;rw[k9,<- c1,<- Wb]at hg;have Zf:=pz { S2 with Ql:=ZL S2 } op (ZL S2);subst yp;have T3:=T2.clock (ZL S2) S2.ops;have V2:Jh { S2 with Ql:=ZL S2,ops:=S2.ops }:=A.V.at_ c2 (by omega);have E3:=A.E.loc KU nofun pb.1 pb.2 (qW Ns Nt Nu Nv (ZL S2) S2.ops);have wN:(H.set p (qW Ns Nt Nu Nv (ZL S2) S2.ops))[h.length]? = some _:=(Qi B7).trans Jr;have K3:=A.K.pA T.tp (qW Ns Nt Nu Nv (ZL S2) S2.ops);have xZ:n<=(H.set p (qW Ns Nt Nu Nv (ZL S2) S2.ops)).length:=Kz hn K3.len;have CJ:=A.ln;have v8:=A.hk;have P:=Qi1 (T:=⟨_,_,_,_,T3⟩) V2 E3 xZ (by rw[ZX];omega);simp only[go_sem,Qa,d1,KU,qm];refine Jl hb QdB P λd h5 hR=>?_;obtain⟨rfl,wS,cH,T5,E5,K5⟩:=hR;have Ib:=Qc wN;apply Q1 hb;have QBj:VQ (J5 { S2 with Ql:=ZL S2 } op (ZL S2)).1.M+(k+1)=VQ S.M:=by omega
   have QBk:(L2++(J5 { S2 with Ql:=ZL S2 } op (ZL S2)).2).length<=k+1:=by rw[ZX];omega
   refine⟨by omega,_,QI.frame (fr':=[(0,.ptr p 0 0 0),(2,.clo 40 0 [.ptr bp 0 0 0,.ptr bo 0 0 0]),(6,.ptr h.length 0 0 0),(7,u64 e)]) (by simp only[go_sem]),wS,cH,h5,_,L2++(J5 { S2 with Ql:=ZL S2 } op (ZL S2)).2,⟨T5,V3,by rw[<- Wb];exact E5,K3.trans hn K5,(K5.my _ Ib A.mr).trans wN,(K5.s1 _ Ib).trans A.nr,(K5.s2 _ Ib).trans A.mr,QBj,by rw[c3];exact hle,hg,QBk⟩,rfl⟩
def yB(tw:Nat->TT)(n:Nat):Nat->TT:=λl=>if l=n+2\/l=n+3 then .no else if n<=l then .my else tw l
def cJ{tw}{n l}(h:l<n):yB tw n l=tw l:=by unfold yB;rw[Qd (by omega),Qd (by omega)]
def Qja{tw}{n l}(h:l=n+2\/l=n+3):yB tw n l=.no:=by unfold yB;rw[Qg h]
def QBl{tw}{n l}(h:n<=l)(h2:l≠n+2)(h3:l≠n+3):yB tw n l=.my:=by unfold yB;rw[Qd (by omega),Qg h]
structure F4 (S:ZH):Prop where
 ca:∀k,(S.st.ZV k).length<=S.ops
structure DU (own:Nat->Tag) (tw:Nat->TT) (h:List Ob) (p:Nat) (op:Nat) (S':ZH) (L:List Ev) (r:WD) (own':Nat->Tag) (Z8:Nat->TT) (H:List Ob) (d:D):Prop where
 T:VS own' Z8 H p S'
 E:qv h.length own' Z8 H (h.length+3) (h.length+2) op L
 K:Ja h.length own tw h own' Z8 H
 yY:H[h.length+1]? = some ⟨.one,0,3,1,λ_=>[Qb 0,Qb 0,Qb 0]⟩
 hr:H[h.length+4]? = some ⟨.one,0,3,1,λ_=>r.cells⟩
 ho:H[h.length+2]? = some (yA d)
 hs:WS (λl=>h.length<=l/\own' l=.no/\Z8 l=.no/\l≠h.length+3/\l≠h.length+2) H 12 Ev.cells d L
 n1:own' (h.length+1)=.no
 m1:Z8 (h.length+1)=.my
 n4:own' (h.length+4)=.no
 m4:Z8 (h.length+4)=.my
def DoR(own:Nat->Tag)(tw:Nat->TT)(h:List Ob)(p:Nat)(Y:H4)(d:D)(h':List Ob):Prop:=
 ∃dl own' Z8,d=.tup [.agg Y.r.cells,dl]/\VS own' Z8 h' p Y.S/\WS (λl=>h.length<=l/\own' l=.no/\Z8 l=.no) h' 12 Ev.cells dl Y.l/\Ja h.length own tw h own' Z8 h'
def DU.done{own}{tw}{h}{p op}{S'}{L}{r}{own'}{Z8}{H}{d}(I:DU own tw h p op S' L r own' Z8 H d)(o):
  DoR own tw h p ⟨S',r,L⟩ (.tup [.agg r.cells,d]) (H.set (h.length+1) o):=by
 obtain⟨ps,lp,pr,pt,T⟩:=I.T;refine⟨d,own',Z8,rfl,⟨_,_,_,_,T.loc I.n1 (.inr I.m1) o⟩,I.hs.imp id λ⟨lo,g,row,h1,h2,h3,h4⟩=>⟨lo,g,row,h1,⟨h2.1,h2.2.1,h2.2.2.1⟩,by rw[Qi (WT I.yY h3 (.inl nofun))];exact h3,h4⟩,I.K.BT (by omega) (by omega) o⟩
def DU.next{own}{tw}{h}{p op}{S'}{L}{r}{Z7}{Vk}{H}{d}(I:DU own tw h p op S' L r Z7 Vk H d){S2}{L2}{JK}{W0}{H2}
  (T2:VS JK W0 H2 p S2) (E2:qv h.length JK W0 H2 (h.length+3) (h.length+2) op L2) (K2:Ja h.length Z7 Vk H JK W0 H2):∃d2,DU own tw h p op S2 L2 r JK W0 H2 d2:=by
 obtain⟨d2,a1,a2⟩:=E2.ho;have l1:=Qc I.yY;have l4:=Qc I.hr;exact⟨d2,T2,E2,I.K.trans (QD _) K2,(K2.my _ l1 I.m1).trans I.yY,(K2.my _ l4 I.m4).trans I.hr,a1,a2,(K2.s1 _ l1).trans I.n1,(K2.s2 _ l1).trans I.m1,(K2.s1 _ l4).trans I.n4,(K2.s2 _ l4).trans I.m4⟩
def DU.RU{own}{tw}{h:List Ob}{p op}{S'}{L}{r}{Z7}{Vk}{H:List Ob}{d}(I:DU own tw h p op S' L r Z7 Vk H d)(r2:WD):DU own tw h p op S' L r2 Z7 Vk (H.set (h.length+4) ⟨.one,0,3,1,λ_=>r2.cells⟩) d:=by
 obtain⟨ps,lp,pr,pt,T⟩:=I.T;exact⟨⟨_,_,_,_,T.loc I.n4 (.inr I.m4) _⟩,I.E.loc I.hr nofun (by omega) (by omega) _,I.K.BT (by omega) (by omega) _,by rw[Qi (by omega)];exact I.yY,Qv (Qc I.hr),by rw[Qi (by omega)];exact I.ho,
  I.hs.imp id λ⟨lo,g,row,h1,h2,h3,h4⟩=>⟨lo,g,row,h1,h2,by rw[Qi (WT I.hr h3 (.inl nofun))];exact h3,h4⟩,I.n1,I.m1,I.n4,I.m4⟩
def Qjc{own}{tw}{h}{p}{S:ZH}(T:VS own tw h p S)(V:Jh S)(hC:F4 S)(QBm:S.ops<1000000)(o:JC)(ho:JC.Ok o)(hc:o.changes.length<1000000)(JR:o.rules.length<1000000):
  MFn prog 13 h [.ptr p 0 0 0,.agg o.cells] (λd h'=>DoR own tw h p (qV S o) d h'):=by
 obtain⟨ps,lp,pr,pt,T⟩:=T;have hp:=T.o;have Nq:=Qc hp;have Zq:=Vp (show S.ops<4611686018427387904 by omega);have eS:qV S o=Xo { S with ops:=S.ops+1 } S.ops o:=rfl;rw[eS];obtain⟨S1,Mt⟩:∃S1,S1={ S with ops:=S.ops+1 }:=⟨_,rfl⟩;have T0:VR own tw (h.set p (qW ps lp pr pt S.Ql (S.ops+1))) p ps lp pr pt { S with ops:=S.ops+1 }:=T.clock S.Ql (S.ops+1);rw[<- Mt]at T0 ⊢;obtain⟨H,hH⟩:∃H,H=h.set p (qW ps lp pr pt S.Ql (S.ops+1))++[(⟨.one,0,10,1,λ_=>o.cells⟩:Ob),⟨.one,0,3,1,λ_=>[Qb 0,Qb 0,Qb 0]⟩,yA .nil,yA (Qb S.ops),⟨.one,0,3,1,λ_=>[Qb 1,Qb 0,Qb 0]⟩]:=⟨_,rfl⟩;have qK:(h.set p (qW ps lp pr pt S.Ql (S.ops+1))).length=h.length:=by simp
 have ne:∀l,l<h.length->(yB tw h.length l)=tw l:=λl hl=>cJ hl;have T1:VR (QS own h .no) (yB tw h.length) H p ps lp pr pt S1:=by
  rw[hH];refine T0.step (λl hl=>⟨λ_=>⟨JY (by rw[<- qK];exact hl),QC hl⟩,λ_ _=>⟨cJ (by rw[<- qK];exact hl),QC hl⟩⟩) λl hl=>?_;by_cases h1:l<h.length
  ·rw[cJ h1]at hl;rw[JY h1];exact T.ap l hl
  ·exact zQ (by omega)
 have K1:Ja h.length own tw h (QS own h .no) (yB tw h.length) H:=by
  rw[hH];refine⟨λl hl=>JY hl,λl hl=>cJ hl,λl hl h1 h2=>?_,λl hl h1=>?_,by simp⟩
  ·rw[QC (by rw[qK];exact hl),Qi (λe=>by rw[<- e,T.tp]at h2;cases h2)]
  ·rw[QC (by rw[qK];exact hl),Qi (λe=>by rw[<- e,T.tp]at h1;cases h1)]
 have at_:∀k x,[(⟨.one,0,10,1,λ_=>o.cells⟩:Ob),⟨.one,0,3,1,λ_=>[Qb 0,Qb 0,Qb 0]⟩,yA .nil,yA (Qb S.ops),⟨.one,0,3,1,λ_=>[Qb 1,Qb 0,Qb 0]⟩][k]? = some x->H[h.length+k]? = some x:=λk x hk=>by
  rw[hH,KX (k:=k) qK];exact hk
 have E1:qv h.length (QS own h .no) (yB tw h.length) H (h.length+3) (h.length+2) S.ops []:=
  ⟨at_ 3 _ rfl,⟨.nil,at_ 2 _ rfl,.inl ⟨rfl,rfl⟩⟩,by omega,by omega,zQ (by omega),zQ (by omega),Qja (.inr rfl),Qja (.inl rfl),by omega⟩
 have Zp:H[h.length]? = some ⟨.one,0,10,1,λ_=>o.cells⟩:=at_ 0 _ rfl;have RV:=at_ 1 _ rfl;have RW:=at_ 2 _ rfl;have Vm:=at_ 4 _ rfl;have n1:∀i,h.length<=i->QS own h .no i=.no:=λi hi=>zQ hi;have m1:∀i,h.length<=i->i≠h.length+2->i≠h.length+3->yB tw h.length i=.my:=λi hi h2 h3=>QBl hi h2 h3;clear at_ ne qK;generalize CN:QS own h .no=Z7 at T1 K1 E1 n1;generalize Nw:yB tw h.length=Vk at T1 K1 E1 m1;have W6:=T1.o;have pB:=Qc W6;have Kh:=Qc Zp;have Qjd:=Qc RV;have Qje:=Qc RW;have qx:=Qc Vm;have QFT:S1.Ql=S.Ql:=by rw[Mt]
 have V1:Jh S1:=by rw[Mt];exact V.ops _
 have Ka:h.length<=H.length:=K1.len;refine QU Qh 200 func13 rfl ntmps13 results13 rfl λbase w pl hb=>?_;have Nq:=Qc hp;simp only[go_sem,Qa,hp,Nq,Zq];simp only[go_sem]at hH Zp Vm RV RW;rw[<- hH];clear hH;have Nx:h.length+1≠h.length+2:=by omega
 have RX:h.length+4≠h.length+2:=by omega
 have RY:h.length+4≠h.length+1:=by omega
 have I0:DU own tw h p S.ops S1 [] ⟨1,0,0⟩ Z7 Vk H .nil:=⟨⟨_,_,_,_,T1⟩,E1,K1,RV,Vm,RW,.inl ⟨rfl,rfl⟩,n1 _ (by omega),m1 _ (by omega) (by omega) (by omega),n1 _ (by omega),m1 _ (by omega) (by omega) (by omega)⟩;obtain⟨Bg,⟨_,yn⟩,⟨_,hru⟩,hpk,kS,_⟩:=ho;by_cases k1:o.kind=1
 ·have b1:(o.kind==1)=true:=by simpa using k1
  obtain⟨la,lb,lc,Zu⟩:=T1.ln;have F:=o7 (ZM Zu) S1.Ql;obtain⟨bf,hbf⟩:∃b,b=decide (S1.YR<=S1.Ql):=⟨_,rfl⟩;have e:Xo S1 S.ops o=⟨{ S1 with M:=KP S1.M bf o.changes },⟨zN S1.M bf o.changes,yx S1.M o.changes,0⟩,[]⟩:=by unfold Xo;rw[Qg k1,<- hbf]
  rw[e];rw[<- hbf]at F;have C:=Qz1 T1.co bf o.changes yn hc;obtain⟨ce,hce⟩:∃x,x=zN S1.M bf o.changes:=⟨_,rfl⟩;obtain⟨ca,cz⟩:∃x,x=yx S1.M o.changes:=⟨_,rfl⟩;rw[<- hce,<- cz]at C ⊢;simp only[go_sem,Qa,b1];apply KL [15] hb [0,1,2,3,4,5,6,7,8,9,10,11,13,14,1012,1015,16,17,18,19,20] [];simp only[go_sem,Qa,W6,pB,Zp,Kh];refine XO hb Ur F λd hR=>?_;subst hR;refine Zb hb ?_;simp only[go_sem,Qa,W6,pB,Zp,Kh];refine j9 hb Qq3 C λd h2 hR=>?_;obtain⟨rfl,JK,C2,D2⟩:=hR;have T2:=T1.core D2 C2 (bV S1.M bf o.changes);have K2:Ja H.length Z7 Vk H JK (ZS Vk H .no) h2:=Ja.core T1.ap (QD _) D2;obtain⟨d2,I2⟩:=I0.next ⟨_,_,_,_,T2⟩ (E1.w9 K2) (K2.XF Ka);have I:=I2.RU ⟨ce,ca,0⟩;have Jr:=I2.hr;have Ym:=Qc Jr;have ZB:=I2.ho;have jG:=Qc ZB;have Jk:=I2.yY;have yv:=Qc Jk;refine Zb hb ?_;simp only[go_sem,Qa,Jr,Ym];apply KL [] hb [0] [1,2,3];simp only[go_sem,Qa,Jr,Ym,ZB,jG,Jk,yv,Qv,Qi Nx,Qi RX,Qi RY];exact⟨I.done _,I.done _⟩
 have b1:(o.kind==1)=false:=by simpa using k1
 by_cases k2:o.kind=2
 ·have b2:(o.kind==2)=true:=by simpa using k2
  have R:=QiW H o.rules JR;by_cases FF:YQ o.rules=0
  ·have e:Xo S1 S.ops o=⟨{ S1 with R:=o.rules },⟨0,0,0⟩,[]⟩:=by unfold Xo;rw[Qd k1,Qg k2,Qg FF]
   rw[e];simp only[go_sem,Qa,b1,b2,Zp,Kh];refine Jl hb fF R λd h2 hR=>?_;obtain⟨g,rfl,pC,_⟩:=hR;obtain⟨p2,rfl,hT⟩:=pC FF;have T2:=T1.rules hT;have cK:(H++g)[p]? = some _:=(QC pB).trans W6;have Qjg:=Qc cK;have K2:Ja H.length Z7 Vk H (QS Z7 H .no) (ZS Vk H .F0) (H++g):=Ja.app Z7 Vk H g .F0 (QD _);have E2:=(E1.w9 K2).loc cK nofun (by have:=Qc T.o;omega) (by have:=Qc T.o;omega) (qW ps lp p2 pt S1.Ql S1.ops);obtain⟨d2,I2⟩:=I0.next ⟨_,_,_,_,T2⟩ E2 ((K2.XF Ka).pA T1.tp _);have I:=I2.RU ⟨0,0,0⟩;have Jr:=I2.hr;have Ym:=Qc Jr;have ZB:=I2.ho;have jG:=Qc ZB;have Jk:=I2.yY;have yv:=Qc Jk;have Zf:=Qc T.o;have p4:p≠h.length+4:=by omega
   have p2':p≠h.length+2:=by omega
   have p1':p≠h.length+1:=by omega
   have pD:(H++g)[h.length+4]? = some _:=(QC qx).trans Vm;have pE:(H++g)[h.length+2]? = some _:=(QC Qje).trans RW;have hsg:(H++g)[h.length+1]? = some _:=(QC Qjd).trans RV;have pF:=Qc pD;have Qjj:=Qc pE;have Qjk:=Qc hsg;have Kp:d2=.nil:=by
    have h5:=I2.ho;rw[Qi p2',pE]at h5;simp only[yA,QV,Ob.mk.injEq,xl]at h5;have:=congrFun h5 0;simp only[Gd,and_true]at this;exact this.symm
   rw[Kp]at I;have x4:h.length+4<H.length+g.length:=by have:=pF;simpa using this
   have x2:h.length+2<H.length+g.length:=by have:=Qjj;simpa using this
   have x1:h.length+1<H.length+g.length:=by have:=Qjk;simpa using this
   refine Qf hb ?_;simp only[go_sem,Qa,cK,Qjg,Qi p4,pD,pF,Qv];apply KL [] hb [0] [1,2,3];simp only[go_sem,Qa,x4,x2,x1,cK,Qjg,Qi p4,Qi p2',Qi p1',pD,pF,pE,Qjj,hsg,Qjk,Qv,Qi Nx,Qi RX,Qi RY];exact⟨I.done _,I.done _⟩
  ·have e:Xo S1 S.ops o=⟨S1,⟨YQ o.rules,0,0⟩,[]⟩:=by unfold Xo;rw[Qd k1,Qg k2,Qd FF]
   have Qjl:(YQ o.rules==0)=false:=by simpa using FF
   rw[e];obtain⟨re,QBq⟩:∃x,x=YQ o.rules:=⟨_,rfl⟩;rw[<- QBq]at R Qjl FF ⊢;simp only[go_sem,Qa,b1,b2,Zp,Kh];refine Jl hb fF R λd h2 hR=>?_;obtain⟨g,rfl,_,pC⟩:=hR;have hd:=pC FF;subst hd;have K2:Ja H.length Z7 Vk H (QS Z7 H .no) (ZS Vk H .my) (H++g):=Ja.app Z7 Vk H g .my (QD _);obtain⟨d2,I2⟩:=I0.next ⟨_,_,_,_,T1.jL g⟩ (E1.w9 K2) (K2.XF Ka);have I:=I2.RU ⟨re,0,0⟩;have Jr:=I2.hr;have Ym:=Qc Jr;have ZB:=I2.ho;have jG:=Qc ZB;have Jk:=I2.yY;have yv:=Qc Jk;have x4:h.length+4<H.length+g.length:=by have:=Ym;simpa using this
   have x2:h.length+2<H.length+g.length:=by have:=jG;simpa using this
   have x1:h.length+1<H.length+g.length:=by have:=yv;simpa using this
   refine Qf hb ?_;simp only[go_sem,Qa,Qjl,Jr,Ym];apply KL [] hb [0] [1,2,3];simp only[go_sem,Qa,x4,x2,x1,Jr,Ym,ZB,jG,Jk,yv,Qv,Qi Nx,Qi RX,Qi RY];exact⟨I.done _,I.done _⟩
 have b2:(o.kind==2)=false:=by simpa using k2
 by_cases k3:o.kind=3
 ·have b3:(o.kind==3)=true:=by simpa using k3
  have e:Xo S1 S.ops o=zP S1 S.ops o.Xc:=by unfold Xo;rw[Qd k1,Qd k2,Qg k3]
  rw[e];obtain⟨AW,Nr,RS,F5⟩:RN o.Xc:=by
   obtain⟨_,_,a0,a1,a2,a3,_⟩:=hpk;have:=wf_u16 a0;have:=wf_u16 a1;have:=wf_u16 a2;have:=wf_u16 a3;exact⟨⟨by omega,by omega⟩,⟨by omega,by omega⟩,⟨by omega,by omega⟩,⟨by omega,by omega⟩⟩
  have P:=QBa ⟨_,_,_,_,T1⟩ V1 E1 Ka (by simp) (λk=>by rw[Mt];have:=hC.ca k;show (S.st.ZV k).length<1000000;omega) o.Xc ⟨AW,Nr,RS,F5⟩;obtain⟨Y,hY⟩:∃Y,Y=zP S1 S.ops o.Xc:=⟨_,rfl⟩;rw[<- hY]at P ⊢;simp only[go_sem,Qa,b1,b2,b3,Zp,Kh];refine Jl hb Qq4 P λd h2 hR=>?_;obtain⟨rfl,JK,W0,T2,E2,K2⟩:=hR;rw[YT]at E2;obtain⟨d2,I2⟩:=I0.next T2 E2 K2;have I:=I2.RU Y.r;have Jr:=I2.hr;have Ym:=Qc Jr;have ZB:=I2.ho;have jG:=Qc ZB;have Jk:=I2.yY;have yv:=Qc Jk;refine Qf hb ?_;simp only[go_sem,Qa,Jr,Ym];apply KL [] hb [0] [1,2,3];simp only[go_sem,Qa,Jr,Ym,ZB,jG,Jk,yv,Qv,Qi Nx,Qi RX,Qi RY];exact⟨I.done _,I.done _⟩
 have b3:(o.kind==3)=false:=by simpa using k3
 by_cases k4:o.kind=4
 ·have b4:(o.kind==4)=true:=by simpa using k4
  have e:Xo S1 S.ops o=kF S1 S.ops o.Ww.toNat:=by unfold Xo;rw[Qd k1,Qd k2,Qd k3,Qg k4]
  rw[e];have hw:=wf_u64 kS;have P:=QBh ⟨_,_,_,_,T1⟩ V1 E1 Ka (by simp) o.Ww.toNat (by omega);obtain⟨Y,hY⟩:∃Y,Y=kF S1 S.ops o.Ww.toNat:=⟨_,rfl⟩;rw[<- hY,show u64 o.Ww.toNat=.raw (.int .u64 o.Ww) by show D.raw (.int .u64 (o.Ww.toNat:Int))=_;rw[Gc hw.1]]at P;rw[<- hY];simp only[go_sem,Qa,b1,b2,b3,b4,Zp,Kh];refine Jl hb Qq5 P λd h2 hR=>?_;obtain⟨rfl,JK,W0,T2,E2,K2⟩:=hR;rw[YT]at E2;obtain⟨d2,I2⟩:=I0.next T2 E2 K2;have I:=I2.RU Y.r;have Jr:=I2.hr;have Ym:=Qc Jr;have ZB:=I2.ho;have jG:=Qc ZB;have Jk:=I2.yY;have yv:=Qc Jk;refine Qf hb ?_;simp only[go_sem,Qa,Jr,Ym];apply KL [] hb [0] [1,2,3];simp only[go_sem,Qa,Jr,Ym,ZB,jG,Jk,yv,Qv,Qi Nx,Qi RX,Qi RY];exact⟨I.done _,I.done _⟩
 have b4:(o.kind==4)=false:=by simpa using k4
 have e:Xo S1 S.ops o=⟨S1,⟨1,0,0⟩,[]⟩:=by unfold Xo;rw[Qd k1,Qd k2,Qd k3,Qd k4]
 rw[e];simp only[go_sem,Qa,b1,b2,b3,b4];apply KL [] hb [0] [1,2,3];simp only[go_sem,Qa,Vm,qx,RW,Qje,RV,Qjd,Qv,Qi Nx];exact⟨I0.done _,I0.done _⟩
def QBr(h:List Ob):MFn prog 38 h [.nil] (λd h'=>∃g p,h'=h++g/\d=.tup [.ptr p 0 0 0,Qb 0]/\F1 (λj=>h.length<=j) (h++g) p []):=
 (MFn.Qmq (cs':=[.nil]) (QiW h [] (by decide)) ⟨rfl,trivial⟩).mono λd h' ⟨g,h1,h2,_⟩=>by
  obtain⟨p,h3,h4⟩:=h2 rfl;exact⟨g,p,h1,h3,h4⟩
def Yk.fresh(h:List Ob)(S)(hS:∀j,h.length<=j->S j):Yk S (h++[QM .i64 0 [],QM .i64 0 [],o5 h.length (h.length+1)]) (h.length+2) ⟨λ_=>[],λ_=>default⟩:=
 ⟨h.length,h.length+1,0,[],0,[],KX (k:=2) rfl,Ko rfl,KX (k:=1) rfl,by omega,hS _ (by omega),hS _ (by omega),hS _ (by omega),λk=>.inl ⟨rfl,rfl⟩,λk k' lo g off n g' xr n' h1=>(by cases h1),λk=>rfl⟩
def Qjm{own}{tw}(ap:∀l,tw l≠.no->own l=.no)(h){c}(K:jF c):
  MFn prog 12 h [.agg c.cells] (λd h'=>∃own' Z8 p,d=.tup [.ptr p 0 0 0,Qb 0]/\VS own' Z8 h' p (S0 c)/\Ja h.length own tw h own' Z8 h'):=by
 have Zp:(h++[(⟨.one,0,2,1,λ_=>c.cells⟩:Ob)])[h.length]? = some ⟨.one,0,2,1,λ_=>c.cells⟩:=Ko rfl;have hN:=Qz2 (QS own h .no) (h++[(⟨.one,0,2,1,λ_=>c.cells⟩:Ob)]) K;have K1:=Ja.app own tw h [(⟨.one,0,2,1,λ_=>c.cells⟩:Ob)] .no (QD _);have cM:=cB (h:=h) ap;have n1:QS own h .no h.length=.no:=zQ (QD _);refine QU Qh 200 func12 rfl ntmps12 results12 rfl λbase w pl hb=>?_;simp only[go_sem,Qa];obtain⟨h1,AW⟩:∃x,x=h++[(⟨.one,0,2,1,λ_=>c.cells⟩:Ob)]:=⟨_,rfl⟩;rw[<- AW]at Zp hN K1;simp only[go_sem]at AW;rw[<- AW];clear AW;have Kh:=Qc Zp;generalize QS own h .no=Z7 at hN K1 cM n1;generalize ZS tw h .no=Vk at K1 cM;refine Jl hb Qq0 hN λd h2 hR=>?_;obtain⟨JK,ps,rfl,C2,D2⟩:=hR;have K2:=K1.trans (QD _) ((Ja.core cM (QD _) D2).XF K1.len);have KU:h2[h.length]? = some _:=(D2.keep _ Kh n1).trans Zp;have qm:=Qc KU;refine Qf hb ?_;simp only[go_sem,Qa,KU,qm];refine BD hb Qq1 (QAG h2 K.t1 K.t2) λd h hR=>?_;obtain⟨rfl,rfl⟩:=hR;apply Q1 hb;refine Jl hb fF (QBr _) λd h4 hR=>?_;obtain⟨g,pr,F5,rfl,Tb⟩:=hR;apply Q1 hb;refine Jl hb Qq2 (QAQ h4) λd h5 hR=>?_;obtain⟨rfl,pG⟩:=hR;apply Q1 hb;have F5:h4=(h2++[qX 0 0 0 c.t 0])++g:=F5;have Tb:F1 (λj=>(h2++[qX 0 0 0 c.t 0]).length<=j) ((h2++[qX 0 0 0 c.t 0])++g) pr []:=Tb;rw[<- F5]at Tb;have l3:(h2++[qX 0 0 0 c.t 0]).length=h2.length+1:=by simp
 rw[l3]at Tb;have l4:h2.length+1<=h4.length:=by rw[F5,ZX,l3];omega
 have l5:h5.length=h4.length+3:=by rw[pG];simp
 have e4:∀l,l<h2.length->h4[l]? = h2[l]? := λl hl=>by rw[F5,Wb,QC hl]
 have e5:∀l,l<h4.length->h5[l]? = h4[l]? := λl hl=>by rw[pG,QC hl]
 have CJ:h4[h2.length]? = some (qX 0 0 0 c.t 0):=by rw[F5,Wb];exact Ko rfl
 have Jg:Yk (λl=>h4.length<=l) h5 (h4.length+2) ⟨λ_=>[],λ_=>default⟩:=by rw[pG];exact Yk.fresh h4 _ λ_ h=>h
 obtain⟨H,hH⟩:∃H,H=h5++[qW ps h2.length pr (h4.length+2) 0 0]:=⟨_,rfl⟩;have e6:∀l,l<h5.length->H[l]? = h5[l]? := λl hl=>by rw[hH,QC hl]
 have hp:H[h5.length]? = some (qW ps h2.length pr (h4.length+2) 0 0):=by rw[hH];exact Ko rfl
 obtain⟨F6,Nw⟩:∃t:Nat->TT,t=λl=>if l<h2.length then ZS Vk h1 .no l else if l=h2.length then .ln else if l<h4.length then .F0 else if l<h5.length then .st else if l=h5.length then .sys else .no:=⟨_,rfl⟩;have t0:∀l,l<h2.length->F6 l=ZS Vk h1 .no l:=λl hl=>by rw[Nw];dsimp only;rw[Qg hl]
 have t1:F6 h2.length=.ln:=by rw[Nw];dsimp only;rw[Qd (by omega),Qg rfl]
 have t2:∀l,h2.length+1<=l->l<h4.length->F6 l=.F0:=λl h1 h2=>by rw[Nw];dsimp only;rw[Qd (by omega),Qd (by omega),Qg h2]
 have t3:∀l,h4.length<=l->l<h5.length->F6 l=.st:=λl h1 h2=>by rw[Nw];dsimp only;rw[Qd (by omega),Qd (by omega),Qd (by omega),Qg h2]
 have t4:F6 h5.length=.sys:=by rw[Nw];dsimp only;rw[Qd (by omega),Qd (by omega),Qd (by omega),Qd (by omega),Qg rfl]
 have X:VR (QS JK h2 .no) F6 H h5.length ps h2.length pr (h4.length+2) (S0 c):=by
  refine⟨hp,t4,C2.step λl hl _=>⟨JY hl,by rw[e6 l (by omega),e5 l (by omega),e4 l hl]⟩,⟨0,0,0,?_⟩,t1,Tb.step λj hj h1=>⟨t2 j h1 hj,by rw[e6 j (by omega),e5 j hj]⟩,Jg.step λj hj h1=>⟨t3 j h1 hj,e6 j hj⟩,λl hl=>?_⟩
  ·rw[e6 _ (by omega),e5 _ (by omega)];exact CJ
  ·by_cases h6:l<h2.length
   ·rw[t0 l h6]at hl;rw[JY h6];by_cases h7:l<h1.length
    ·rw[KR h7]at hl;rw[D2.same l h7];exact cM l hl
    ·rw[DQ (by omega)]at hl;exact absurd rfl hl
   ·exact zQ (by omega)
 have KH:Ja h.length own tw h (QS JK h2 .no) F6 H:=by
  have hle:=K2.len;exact⟨λl hl=>by rw[JY (by omega)];exact K2.s1 l hl,λl hl=>by rw[t0 l (by omega)];exact K2.s2 l hl,λl hl h1 h2=>by rw[e6 l (by omega),e5 l (by omega),e4 l (by omega)];exact K2.keep l hl h1 h2,λl hl h1=>by rw[e6 l (by omega),e5 l (by omega),e4 l (by omega)];exact K2.my l hl h1,by rw[hH];simp;omega⟩
 subst hH;exact⟨_,F6,_,rfl,⟨_,_,_,_,X⟩,KH⟩
end Go.Fg.X
namespace Go.Fg.X
open Go.Proofs Go.Fg
open Go.RowKit (Below)
open Go.Proofs.Tryz
def pH{P}{f}{args}{R}(d2:D)(hu:d2.upto 0=true)
  (hd:∀d hh,R d hh->Jv 6 d d2\/(∃lo g sz n row,hh[lo]? = some ⟨.arr,g,sz,n,row⟩/\(∀i,i<n->(row i).all D.Y6=true)/\Jv 6 (D.fz lo g n sz row d) d2) \/
   ∃lo g sz n row AY g' Ic n' Kx,hh[lo]? = some ⟨.arr,g,sz,n,row⟩/\hh[AY]? = some ⟨.arr,g',Ic,n',Kx⟩/\AY≠lo/\(∀i,i<n->(row i).all D.Y6=true)/\(∀i,i<n'->(Kx i).all D.Y6=true)/\Jv 6 (D.fz AY g' n' Ic Kx (D.fz lo g n sz row d)) d2) (h:Zh P f args R):Zh P f args (Qo d2):=by
 intro Z base w pl vs h1 h2 h3 hl hc;have Zf:pl=[]:=by have:=h3.len;simpa using this
 subst Zf;refine(h Z base w [] vs h1 h2 h3 hl hc).mono λe w' he=>?_;obtain⟨v,d,hh,Qj,rfl,hR,hO,hV,hT,hB⟩:=he;suffices fin:QA Z [] [] w' d2 v by
  exact⟨v,_,[],[],rfl,⟨rfl,rfl⟩,Ze.nil,fin,⟨λb hb Qc=>⟨hb,(hT.Kj b hb Qc).2⟩,λl o p e=>by simp at e,λl o o' b q e=>by simp at e⟩,hB⟩
 rcases hd _ _ hR with hle|⟨lo,g,sz,n,row,ZE,Z6,hle⟩|⟨lo,g,sz,n,row,AY,g',Ic,n',Kx,ZE,pI,QBs,Z6,Qjn,hle⟩
 ·exact(Ah 6 hle hV).take hu
 ·have Qc:lo<Qj.length:=by rw[hO.len];exact(Wc.1 ZE).1
  obtain⟨p,hp⟩:∃p,Qj[lo]? = some p:=⟨_,QP Qc⟩;have LY:=hV.fz (l:=lo) (o:=⟨.arr,g,sz,n,row⟩) (p:=p) ZE hp rfl (λb q e=>by
   subst e;refine⟨h2 b ?_,λl' q' e'=>?_,(hO.at_ lo _ b q ZE hp).2.cells rfl⟩
   ·rcases A3 b w.heap.size with Qc|wg
    ·exact absurd hp ((hT.Kj b (λi q e=>by simp at e) Qc).1 lo q)
    ·exact wg
   ·exact hO.inj _ _ _ _ _ e' hp) Z6 (h':=hh.set lo (Ob.gone ⟨.arr,g,sz,n,row⟩)) (λl' o' QB e=>by
   exact⟨o',by rw[JL (Q3 QB)];exact e,rfl,rfl,rfl⟩)
  exact(Ah 6 hle LY).take hu
 ·have pos:∀{lo:Nat} {o:Ob},hh[lo]? = some o->∃p,Qj[lo]? = some p:=λ{lo o} ZE=>by
   have Qc:lo<Qj.length:=by rw[hO.len];exact(Wc.1 ZE).1
   exact⟨_,QP Qc⟩
  have zb:∀{lo b q:Nat},Qj[lo]? = some (some (b,q))->Z b:=λ{lo b q} hp=>h2 b (by
   rcases A3 b w.heap.size with Qc|wg
   ·exact absurd hp ((hT.Kj b (λi q e=>by simp at e) Qc).1 lo q)
   ·exact wg)
  obtain⟨p,hp⟩:=pos ZE;obtain⟨p',ZN⟩:=pos pI;have r1:=hV.fz (l:=lo) (o:=⟨.arr,g,sz,n,row⟩) (p:=p) ZE hp rfl (λb q e=>by
   subst e;exact⟨zb hp,λl' q' e'=>hO.inj _ _ _ _ _ e' hp,(hO.at_ lo _ b q ZE hp).2.cells rfl⟩) Z6 (h':=hh) (λl' o' QB e=>⟨o',e,rfl,rfl,rfl⟩)
  have Zf:∀(l':Nat),l'≠lo->(Qj.set lo none)[l']? = Qj[l']? := λl' Yt=>by rw[JL (Q3 Yt)]
  have QB:AY≠lo:=QBs;have r2:=r1.fz (l:=AY) (o:=⟨.arr,g',Ic,n',Kx⟩) (p:=p') pI ((Zf _ QB).trans ZN) rfl (λb q e=>by
   subst e;refine⟨zb ZN,λl' q' e'=>?_,?_⟩
   ·by_cases e1:l'=lo
    ·subst e1;rw[WE (VU hp)]at e';cases e'
    ·rw[Zf _ e1]at e';exact hO.inj _ _ _ _ _ e' ZN
   ·obtain⟨c,el,c1,c2,c3,c4⟩:=(hO.at_ AY _ b q pI ZN).2.cells rfl;refine⟨c,el,c1,c2,c3,λi j hi hj=>?_⟩;obtain⟨v,hv,hr⟩:=c4 i j hi hj;have h5:=Qjn i hi;rw[jN]at h5;have h6:j<(Kx i).length:=by rw[c3 i hi];exact hj
    have h7:(nth (Kx i) j).Y6=true:=h5 _ (by
     simp only[nth,Q8,QP h6,KS];exact qz h6)
    exact⟨v,hv,.cl _ _ ((GG hr h7).mono (N':=free Z (Qj.set lo none)) (w':=w') λb hb _=>⟨⟨hb.1,λl q e=>by
     by_cases e1:l=lo
     ·subst e1;rw[WE (VU hp)]at e;cases e
     ·rw[Zf _ e1]at e;exact hb.2 l q e⟩,rfl⟩)⟩) Qjn (h':=hh) (λl' o' QB e=>⟨o',e,rfl,rfl,rfl⟩)
  exact(Ah 6 hle r2).take hu
end Go.Fg.X
namespace Go.Fg.X
open Go.Proofs Go.Fg
open Go.Proofs.Tryz
def Qjo(u)(a b):∀fr:List (Nat × D),put (put fr u a) u b=put fr u b
 | []=>by simp[put]
 | (t,e)::r=>by
  cases h:Nat.beq t u with
  | true=>simp[put,h]
  | false=>simp[put,h,Qjo u a b r]
def Qjp{α:Type}[Inhabited α]{w0:Start}(hF:w0.F=[])(hp:w0.pl=[]){S:Nat->Prop}{sz:Nat}{f:α->List D}(hf:∀a,(f a).all D.Y6=true){fr:List (Nat × D)}{h:List Ob}{d:D}{L:List α}(t:Nat)(ht:get fr t=d)(hS:WS S h sz f d L):
  ∃row h',QI w0 ⟨fr,h⟩ ⟨put fr t (.imm sz L.length row),h'⟩/\(∀i,i<L.length->row i=f (L.getD i default))/\h.length<=h'.length/\∀l,l<h.length->¬S l->h'[l]? = h[l]? := by
 have qK:w0.pl.length=w0.F.length:=by rw[hF,hp];rfl
 have hg:∀h:List Ob,QeQ w0.F h:=λh l o e=>by rw[hF]at e;simp at e
 have hz:∀n,w0.F.length<=n:=λn=>by rw[hF];exact JQ _
 rcases hS with ⟨rfl,rfl⟩|⟨lo,g,row,rfl,QBt,UO,Me⟩
 ·refine⟨rowFrom 0 (λ_=>[]),h++[(⟨.arr,0,sz,0,λ_=>[]⟩:Ob).gone],?_,λi hi=>absurd hi (XY i),by simp,λl hl QB=>QC hl⟩;have W1:=QI.Qz3 (w0:=w0) (h:=h) t sz ht;have W2:=QI.Pb qK (hg _) t h.length (hz _) (fr:=put fr t (.ref h.length 0 0 0)) (h:=h++[(⟨.arr,0,sz,0,λ_=>[]⟩:Ob)]) (o:=⟨.arr,0,sz,0,λ_=>[]⟩) (off:=0) (len:=0) (by rw[Ek,Qg rfl]) (Ko rfl) (QD 0) rfl (λi hi=>absurd hi (XY i));rw[Qjo,Uq rfl]at W2;exact QI.trans W1 W2
 ·refine⟨rowFrom 0 row,_,QI.Pb qK (hg _) t lo (hz _) ht UO (by show 0+L.length<=L.length;omega) rfl (λi hi=>?_),λi hi=>?_,by simp,λl hl QB=>?_⟩
  ·show (row i).all D.Y6=true;rw[Me i hi];exact hf _
  ·rw[G0,JG,Me i hi]
  ·exact Qi λe=>QB (by rw[<- e];exact QBt)
def VS.far{own}{tw}{h h':List Ob}{p}{S}(T:VS own tw h p S)(hl:h.length<=h'.length)(e:∀l,l<h.length->¬(own l=.no/\tw l=.no)->h'[l]? = h[l]?):VS (QS own h .no) (ZS tw h .no) h' p S:=by
 obtain⟨ps,lp,pr,pt,T⟩:=T;exact⟨_,_,_,_,T.step (λl Qc=>⟨λhv=>⟨JY Qc,e l Qc λh1=>hv.1 h1.1⟩,λhv _=>⟨KR Qc,e l Qc λh1=>hv h1.2⟩⟩) (cB T.ap)⟩
structure JC.Small (o:JC):Prop where
 c:o.changes.length<1000000
 r:o.rules.length<1000000
def Qjr(S:ZH)(op now:Nat)(k:Int):((J5 S op now).1.st.ZV k).length<=(S.st.ZV k).length:=by
 have hw:∀(s:jK) (cls:Int) (done:Nat) (bytes:Int) (real:Bool),((Yj s cls done bytes real).ZV k).length<=(s.ZV k).length:=λs cls done bytes real=>by
  unfold Yj;cases hc:s.ZV cls with
  | nil=>exact QD _
  | cons a l=>
   dsimp only;split
   ·exact QD _
   ·split
    ·exact QD _
    ·dsimp only;split
     ·rename_i e;rw[e,hc];simp
     ·exact QD _
 unfold J5;split
 ·exact QD _
 ·split
  ·exact hw _ _ _ _ _
  ·exact QD _
def Qjs(op e)(k:Int):∀(n:Nat) (S:ZH),((WR op e n S).1.st.ZV k).length<=(S.st.ZV k).length
 | 0,S=>QD _
 | n+1,S=>by
  unfold WR;split
  ·exact QD _
  ·exact Kz (Qjs op e k n _) (Qjr { S with Ql:=ZL S } op (ZL S) k)
def F4.do{S}(C:F4 S)(o:JC):F4 (qV S o).S:=by
 refine⟨λk=>?_⟩;rw[oY];have hk:=C.ca k;show ((Xo { S with ops:=S.ops+1 } S.ops o).S.st.ZV k).length<=S.ops+1;unfold Xo;split
 ·show (S.st.ZV k).length<=_;omega
 ·split
  ·split<;>(show (S.st.ZV k).length<=_;omega)
  ·split
   ·unfold zP;split
    ·show (S.st.ZV k).length<=_;omega
    ·split
     ·refine Kz (Qjr _ _ _ k) ?_;show (if k=_ then S.st.ZV k++[S.Ql] else S.st.ZV k).length<=_;split
      ·rw[ZX];show _+1<=_;omega
      ·omega
     ·show (S.st.ZV k).length<=_;omega
   ·split
    ·unfold kF;split
     ·show (S.st.ZV k).length<=_;omega
     ·exact Kz (Qjs _ _ k _ _) (by show (S.st.ZV k).length<=_;omega)
    ·show (S.st.ZV k).length<=_;omega
def VS.QBu{own}{tw}{h h':List Ob}{p}{S}(T:VS own tw h p S)(e:∀l,l<h.length->¬(own l=.no/\(tw l=.no\/tw l=.my))->h'[l]? = h[l]?):VS (QS own h .no) (ZS tw h .my) h' p S:=by
 obtain⟨ps,lp,pr,pt,T⟩:=T;refine⟨_,_,_,_,T.step (λl Qc=>⟨λhv=>⟨JY Qc,e l Qc λh1=>hv.1 h1.1⟩,λhv hm=>⟨KR Qc,e l Qc λh1=>h1.2.elim hv hm⟩⟩) λl hl=>?_⟩;by_cases h1:l<h.length
 ·rw[KR h1]at hl;rw[JY h1];exact T.ap l hl
 ·exact zQ (by omega)
def WD.rows(l:List WD):Nat->List D:=λi=>(l.getD i default).cells
@[go_sem] theorem WD.xO(l:List WD)(i):WD.rows l i=(l.getD i default).cells:=rfl
@[go_sem] def RZ(l:List WD):D:=.imm 3 l.length (WD.rows l)
structure R0 (x:Yw) (p q k:Nat) (own:Nat->Tag) (tw:Nat->TT) (H:List Ob) (S:ZH) (R:List WD) (E:List Ev) (dR dE:D):Prop where
 T:VS own tw H p S
 V:Jh S
 C:F4 S
 ops:S.ops=k
 hx:H[0]? = some ⟨.one,0,3,1,λ_=>x.cells⟩
 hr:H[1]? = some ⟨.one,0,2,1,λ_=>[.nil,.nil]⟩
 hq:H[q]? = some ⟨.one,0,2,1,λ_=>[dR,dE]⟩
 q2:2<=q
 my:∀l,l=0\/l=1\/l=q->own l=.no/\tw l=.my
 sR:WS (λl=>own l=.no/\tw l=.my) H 3 WD.cells dR R
 sE:WS (λl=>own l=.no/\tw l=.my) H 12 Ev.cells dE E
 run:Xp (S0 x.config) (x.ops.take k)=(S,R,E)
 lR:R.length=k
 lE:E.length<=5000*k
def pJ(S:ZH)(o:JC)(h:VQ S.M<=4096):(qV S o).l.length<=5000:=by
 have hg:∀(op e n:Nat) (S:ZH),(WR op e n S).2.length<=n:=by
  intro op e n;induction n with
  | zero=>exact λS=>QD _
  | succ n ih=>
   intro S;unfold WR;split
   ·exact JQ _
   ·have h1:=ih (J5 { S with Ql:=ZL S } op (ZL S)).1;have h2:=pz { S with Ql:=ZL S } op (ZL S);dsimp only;rw[ZX];omega
 show (Xo { S with ops:=S.ops+1 } S.ops o).l.length<=5000;unfold Xo;split
 ·exact JQ _
 ·split
  ·split<;>exact JQ _
  ·split
   ·unfold zP;split
    ·exact JQ _
    ·split
     ·have h2:=pz { { S with ops:=S.ops+1 } with M:=KO S.M S.Ql (Wn S.R (Jc o.Xc)) o.Xc,st:=AV S.st (Wn S.R (Jc o.Xc)) S.Ql } S.ops S.Ql;show (_::_:List Ev).length<=5000;rw[Vu];exact Kz (Nat.succ_le_succ h2) (by decide)
     ·exact JQ _
   ·split
    ·unfold kF;split
     ·exact JQ _
     ·have:=hg S.ops (S.Ql+o.Ww.toNat) (VQ S.M+1) { S with ops:=S.ops+1 };exact Kz this (by omega)
    ·exact JQ _
def Jh.start{own}{tw}{h}{p}{c}(T:VS own tw h p (S0 c)):Jh (S0 c):=by
 obtain⟨_,_,_,_,T⟩:=T;exact⟨T.co.I,T.co.V,T.co.K,λj x hx=>(by cases hx),QD _,JQ _,JQ _,λk=>⟨NN _,NN _,NN _,NN _,NN _⟩,λk a ha=>(by cases ha)⟩
def cO{α:Type}[Inhabited α]{f:α->List D}{L M:List α}{r1 r2:Nat->List D}(h1:∀i,i<L.length->r1 i=f (L.getD i default))(h2:∀i,i<M.length->r2 i=f (M.getD i default)):∀i,i<(L++M).length->J2 L.length 0 r1 r2 i=f ((L++M).getD i default):=by
 intro i hi;rw[ZX]at hi;rw[Q8];by_cases hl:i<L.length
 ·rw[yL hl,JG,h1 i hl,Jy hl,Q8]
 ·rw[vV (by omega),h2 _ (by omega),JT (by omega),Q8]
def R0.next{x:Yw}{p q k}{own}{tw}{H}{S}{R}{E}{dR dE}(I:R0 x p q k own tw H S R E dR dE)(hk:k<x.ops.length)(ho:∀c∈(x.ops.getD k default).changes,Z3.Ok c){own4}{tw4}{h4 h':List Ob}{Y:H4}(hY:Y=qV S (x.ops.getD k default))(T:VS own4 tw4 h4 p Y.S)(hl:h4.length<=h'.length)(e:∀l,l<h4.length->¬(own4 l=.no/\(tw4 l=.no\/tw4 l=.my))->h'[l]? = h4[l]?)
  (my:∀l o,l<H.length->own l=.no->tw l=.my->H[l]? = some o->own4 l=.no/\tw4 l=.my/\h4[l]? = some o) {pK pL:D}
  (e0:h'[0]? = h4[0]?) (e1:h'[1]? = h4[1]?) (eq:h'[q]? = some ⟨.one,0,2,1,λ_=>[pK,pL]⟩)
  (sR:WS (λl=>h4.length<=l\/own4 l=.no/\tw4 l=.my) h' 3 WD.cells pK (R++[Y.r])) (sE:WS (λl=>h4.length<=l\/own4 l=.no/\tw4 l=.my) h' 12 Ev.cells pL (E++Y.l)) :
  R0 x p q (k+1) (QS own4 h4 .no) (ZS tw4 h4 .my) h' Y.S (R++[Y.r]) (E++Y.l) pK pL:=by
 have tg:∀l,(h4.length<=l\/own4 l=.no/\tw4 l=.my)->QS own4 h4 .no l=.no/\ZS tw4 h4 .my l=.my:=λl hl=>by
  by_cases h1:l<h4.length
  ·rw[JY h1,KR h1];exact hl.resolve_left (by omega)
  ·exact⟨zQ (by omega),DQ (by omega)⟩
 have m0:=my 0 _ (Qc I.hx) (I.my 0 (.inl rfl)).1 (I.my 0 (.inl rfl)).2 I.hx;have m1:=my 1 _ (Qc I.hr) (I.my 1 (.inr (.inl rfl))).1 (I.my 1 (.inr (.inl rfl))).2 I.hr;have mq:=my q _ (Qc I.hq) (I.my q (.inr (.inr rfl))).1 (I.my q (.inr (.inr rfl))).2 I.hq;have hn:x.ops.take (k+1)=x.ops.take k++[x.ops.getD k default]:=by
  rw[Eh,QP hk,Q8,QP hk];rfl
 refine⟨T.QBu e,?_,?_,?_,e0.trans m0.2.2,e1.trans m1.2.2,eq,I.q2,λl hl=>?_,sR.step λj _ hj=>⟨tg j hj,rfl⟩,sE.step λj _ hj=>⟨tg j hj,rfl⟩,?_,?_,?_⟩
 ·rw[hY];exact I.V.do ho
 ·rw[hY];exact I.C.do _
 ·rw[hY,oY,I.ops]
 ·rcases hl with rfl|rfl|rfl
  ·exact tg _ (.inr ⟨m0.1,m0.2.1⟩)
  ·exact tg _ (.inr ⟨m1.1,m1.2.1⟩)
  ·exact tg _ (.inr ⟨mq.1,mq.2.1⟩)
 ·rw[hn,QiH,I.run,hY];simp only[Xp,Zd]
 ·rw[ZX,I.lR];rfl
 ·obtain⟨_,_,_,_,Tx⟩:=I.T;have h1:=pJ S (x.ops.getD k default) Tx.co.cI;have h2:=I.lE;rw[ZX,hY];omega
def Qjt{RR:List WD}{row}(h:∀i,i<RR.length->row i=WD.cells (RR.getD i default)){k}:Jv (k+1) (.imm 3 RR.length (rowFrom 0 row)) (RZ RR):=⟨rfl,rfl,λi hi=>by rw[G0,JG,h i hi];exact Af (xN _) _⟩
def Qju{RR:List Ev}{row}(h:∀i,i<RR.length->row i=Ev.cells (RR.getD i default)){k}:Jv (k+1) (.imm 12 RR.length (rowFrom 0 row)) (OP RR):=⟨rfl,rfl,λi hi=>by rw[G0,JG,h i hi];exact Af (xN _) _⟩
def run_freeze{S}{hh}{dR dE}{RR}{EE}(h1:WS S hh 3 WD.cells dR RR)(h2:WS S hh 12 Ev.cells dE EE){d}(e:d=.tup [.agg [dR,dE],Qb 0]):
  Jv 6 d (.tup [.agg [RZ RR,OP EE],Qb 0])\/(∃lo g sz n row,hh[lo]? = some ⟨.arr,g,sz,n,row⟩/\(∀i,i<n->(row i).all D.Y6=true)/\Jv 6 (D.fz lo g n sz row d) (.tup [.agg [RZ RR,OP EE],Qb 0])) \/
   ∃lo g sz n row AY g' Ic n' Kx,hh[lo]? = some ⟨.arr,g,sz,n,row⟩/\hh[AY]? = some ⟨.arr,g',Ic,n',Kx⟩/\AY≠lo/\(∀i,i<n->(row i).all D.Y6=true)/\(∀i,i<n'->(Kx i).all D.Y6=true)/\Jv 6 (D.fz AY g' n' Ic Kx (D.fz lo g n sz row d)) (.tup [.agg [RZ RR,OP EE],Qb 0]):=by
 subst e;have nb:∀{a b:Nat},a≠b->Nat.beq a b=false:=λ{a b} h=>by rw[<- W3,Vz];exact h
 rcases h1 with ⟨rfl,rfl⟩|⟨vO,gR,Ie,rfl,_,AZ,If⟩
 ·rcases h2 with ⟨rfl,rfl⟩|⟨zR,gE,DV,rfl,_,zS,DW⟩
  ·exact .inl ⟨⟨rfl,rfl,trivial⟩,rfl,trivial⟩
  ·refine .inr (.inl ⟨zR,gE,12,_,DV,zS,λi hi=>by rw[DW i hi];rfl,?_⟩);have e1:D.fz zR gE EE.length 12 DV (.tup [.agg [.nil,.ref zR gE 0 EE.length],Qb 0])=.tup [.agg [.nil,.imm 12 EE.length (rowFrom 0 DV)],Qb 0]:=by simp[D.fz,zj,GU,Qb]
   rw[e1];exact⟨⟨rfl,Qju DW,trivial⟩,rfl,trivial⟩
 ·rcases h2 with ⟨rfl,rfl⟩|⟨zR,gE,DV,rfl,_,zS,DW⟩
  ·refine .inr (.inl ⟨vO,gR,3,_,Ie,AZ,λi hi=>by rw[If i hi];rfl,?_⟩);have e1:D.fz vO gR RR.length 3 Ie (.tup [.agg [.ref vO gR 0 RR.length,.nil],Qb 0])=.tup [.agg [.imm 3 RR.length (rowFrom 0 Ie),.nil],Qb 0]:=by simp[D.fz,zj,GU,Qb]
   rw[e1];exact⟨⟨Qjt If,rfl,trivial⟩,rfl,trivial⟩
  ·have QB:zR≠vO:=WT zS AZ (.inr nofun);refine .inr (.inr ⟨vO,gR,3,_,Ie,zR,gE,12,_,DV,AZ,zS,QB,λi hi=>by rw[If i hi];rfl,λi hi=>by rw[DW i hi];rfl,?_⟩);have e1:D.fz zR gE EE.length 12 DV (D.fz vO gR RR.length 3 Ie (.tup [.agg [.ref vO gR 0 RR.length,.ref zR gE 0 EE.length],Qb 0]))=.tup [.agg [.imm 3 RR.length (rowFrom 0 Ie),.imm 12 EE.length (rowFrom 0 DV)],Qb 0]:=by simp[D.fz,zj,GU,nb QB,Qb]
   rw[e1];exact⟨⟨Qjt If,Qju DW,trivial⟩,rfl,trivial⟩
def QBv(x:Yw)(K:jF x.config)(hl:x.ops.length<=1000)(Js:∀o∈x.ops,JC.Ok o/\JC.Small o):
  Zh prog 27 [.agg x.cells] (Qo (.tup [.agg [RZ (Xp (S0 x.config) x.ops).2.1,OP (Xp (S0 x.config) x.ops).2.2],Qb 0])):=by
 have dl:decide ((1000:Int)<(x.ops.length:Int))=false:=QQ (by omega);refine pH (R:=λd hh=>∃(S:Nat->Prop) (dR dE:D),d=.tup [.agg [dR,dE],Qb 0]/\WS S hh 3 WD.cells dR (Xp (S0 x.config) x.ops).2.1/\WS S hh 12 Ev.cells dE (Xp (S0 x.config) x.ops).2.2) _ rfl (λd hh ⟨S,dR,dE,e,h1,h2⟩=>run_freeze h1 h2 e) ?_;refine Uf Qh 200 func27 rfl ntmps27 results27 rfl λbase w hb=>?_;simp only[go_sem,Qa];have hN:=Qjm (own:=λ_=>.no) (tw:=λ_=>.my) (λ_ _=>rfl) [(⟨.one,0,3,1,λ_=>x.cells⟩:Ob),⟨.one,0,2,1,λ_=>[.nil,.nil]⟩] K;refine BD hb Qds hN λd h1 hR=>?_;obtain⟨Z7,Vk,p,rfl,T1,K1⟩:=hR;have VK:h1[0]? = some _:=K1.my 0 (by simp) rfl;have Vm:h1[1]? = some _:=K1.my 1 (by simp) rfl;have qw:=Qc VK;refine Qf hb ?_;simp only[go_sem,Qa,VK,qw,dl];have qx:=Qc Vm;have T1':=T1;obtain⟨_,_,_,_,T1x⟩:=T1';have I0:R0 x p h1.length 0 (QS Z7 h1 .no) (ZS Vk h1 .my) (h1++[(⟨.one,0,2,1,λ_=>[.nil,.nil]⟩:Ob)]) (S0 x.config) [] [] .nil .nil:=by
  refine⟨⟨_,_,_,_,T1x.jL _⟩,Jh.start T1,⟨λk=>JQ _⟩,rfl,(QC qw).trans VK,(QC qx).trans Vm,Ko rfl,by have:=K1.len;simpa using this,λl Yt=>?_,.inl ⟨rfl,rfl⟩,.inl ⟨rfl,rfl⟩,rfl,rfl,JQ _⟩;rcases Yt with rfl|rfl|rfl
  ·exact⟨(JY qw).trans (K1.s1 0 (by simp)),(KR qw).trans (K1.s2 0 (by simp))⟩
  ·exact⟨(JY qx).trans (K1.s1 1 (by simp)),(KR qx).trans (K1.s2 1 (by simp))⟩
  ·exact⟨zQ (QD _),DQ (QD _)⟩
 obtain⟨q,hq⟩:∃q,q=h1.length:=⟨_,rfl⟩;rw[<- hq]at I0 ⊢;refine ZZ (λk s=>∃own tw H S R E dR dE,R0 x p q k own tw H S R E dR dE/\s=⟨[(2,.ptr 1 0 0 0),(3,Qb 0),(4,.ptr p 0 0 0),(5,Qb 0),(6,.ptr q 0 0 0),(29,.imm 10 x.ops.length (JC.rows x.ops)),(30,Qb x.ops.length),(31,Qb k)],H⟩) x.ops.length QO ⟨_,_,_,_,_,_,_,_,I0,rfl⟩ ?_;clear I0 T1 T1x K1 VK Vm qw qx hN hq;rintro k _ hk ⟨own,tw,H,S,R,E,dR,dE,I,rfl⟩;by_cases Qs:k<x.ops.length
 ·have dk:=Q7 Qs;have Zq:=Vp (show k<4611686018427387904 by omega);obtain⟨o,ho⟩:∃o,o=x.ops.getD k default:=⟨_,rfl⟩;have B9:o∈x.ops:=by rw[ho];exact jq x.ops default k Qs
  obtain⟨⟨_,_,_,_,Tx⟩,hV,hC,QBm⟩:=And.intro I.T (And.intro I.V (And.intro I.C I.ops));have T1:=Tx.jL [⟨.one,0,10,1,λ_=>o.cells⟩];have K1:=Ja.app (n:=H.length) own tw H [⟨.one,0,10,1,λ_=>o.cells⟩] .my (QD _);have cP:=Qjc ⟨_,_,_,_,T1⟩ hV hC (by omega) o (Js o B9).1 (Js o B9).2.c (Js o B9).2.r;refine Qf hb ?_;simp only[go_sem,Qa,dk,Qs,<- ho];refine Jl hb Qdt cP λd h2 hR=>?_;obtain⟨dl,JK,W0,rfl,T2,s2,K2⟩:=hR;refine Bp Qh hb 10 ?_;simp only[go_sem,Qa];obtain⟨Y,hY⟩:∃Y,Y=qV S o:=⟨_,rfl⟩;rw[<- hY]at T2 s2 ⊢;obtain⟨_,_,_,_,cQ⟩:=T2;have ED:H.length+1<=h2.length:=by have:=K2.len;simpa using this
  have T3:=cQ.jL [⟨.one,0,3,1,λ_=>Y.r.cells⟩];have s3:WS (λl=>l<h2.length/\JK l=.no/\W0 l=.no) (h2++[(⟨.one,0,3,1,λ_=>Y.r.cells⟩:Ob)]) 12 Ev.cells dl Y.l:=s2.step λj hj h1=>⟨⟨hj,h1.2⟩,QC hj⟩;have my2:∀l o',l<H.length->own l=.no->tw l=.my->H[l]? = some o'->JK l=.no/\W0 l=.my/\h2[l]? = some o':=λl o' hl h1 h2 h3=>by
   have Zu:l<(H++[(⟨.one,0,10,1,λ_=>o.cells⟩:Ob)]).length:=by simp;omega
   have a1:=(K1.s1 l hl).trans h1;have a2:=(K1.s2 l hl).trans h2;exact⟨(K2.s1 l Zu).trans a1,(K2.s2 l Zu).trans a2,(K2.my l Zu a2).trans ((QC hl).trans h3)⟩
  obtain⟨row,h4,W4,Zx,Dl,k4⟩:=Qjp (w0:=⟨w,[],[]⟩) rfl rfl (λa=>rfl) (fr:=[(2,.ptr 1 0 0 0),(3,Qb 0),(4,.ptr p 0 0 0),(5,Qb 0),(6,.ptr q 0 0 0),(9,.ptr h2.length 0 0 0),(10,dl),(29,.imm 10 x.ops.length (JC.rows x.ops)),(30,Qb x.ops.length),(31,Qb k),(41,.ptr q 0 0 0)]) (h:=h2++[(⟨.one,0,3,1,λ_=>Y.r.cells⟩:Ob)]) 10 rfl s3;have Dl:h2.length+1<=h4.length:=by simpa using Dl
  have R3:h4[h2.length]? = some ⟨.one,0,3,1,λ_=>Y.r.cells⟩:=by rw[k4 _ (by simp) (λh=>absurd h.1 (Gj _))];exact Ko rfl
  obtain⟨own4,Qjw⟩:∃f,f=QS (QS JK h2 .no) (h2++[(⟨.one,0,3,1,λ_=>Y.r.cells⟩:Ob)]) .no:=⟨_,rfl⟩;obtain⟨tw4,Qjx⟩:∃f,f=ZS (ZS W0 h2 .my) (h2++[(⟨.one,0,3,1,λ_=>Y.r.cells⟩:Ob)]) .no:=⟨_,rfl⟩;have T4:VS own4 tw4 h4 p Y.S:=by
   rw[Qjw,Qjx];refine VS.far ⟨_,_,_,_,T3⟩ (by simpa using Dl) λl hl hn=>k4 l hl λhh=>hn ?_;exact⟨(JY hh.1).trans hh.2.1,(KR hh.1).trans hh.2.2⟩
  have DX:∀l o',l<H.length->own l=.no->tw l=.my->H[l]? = some o'->own4 l=.no/\tw4 l=.my/\h4[l]? = some o':=λl o' hl h1 X0 h3=>by
   obtain⟨b1,b2,b3⟩:=my2 l o' hl h1 X0 h3;have JA:l<h2.length:=by omega
   have Dj:l<(h2++[(⟨.one,0,3,1,λ_=>Y.r.cells⟩:Ob)]).length:=by simp;omega
   refine⟨by rw[Qjw,JY Dj,JY JA];exact b1,by rw[Qjx,KR Dj,KR JA];exact b2,?_⟩;rw[k4 l Dj λh=>(by rw[b2]at h;cases h.2.2),QC JA];exact b3
  refine GW (QI.trans (QI.frame (fr':=[(2,.ptr 1 0 0 0),(3,Qb 0),(4,.ptr p 0 0 0),(5,Qb 0),(6,.ptr q 0 0 0),(9,.ptr h2.length 0 0 0),(10,dl),(29,.imm 10 x.ops.length (JC.rows x.ops)),(30,Qb x.ops.length),(31,Qb k),(41,.ptr q 0 0 0)]) (by simp only[go_sem])) W4) ?_;have V5:=Qc I.hx;have KI:=Qc I.hr;have pM:=Qc I.hq;obtain⟨qo,qt,F7⟩:=DX q _ pM (I.my q (.inr (.inr rfl))).1 (I.my q (.inr (.inr rfl))).2 I.hq;have yC:=Qc F7;have cR:=Qc R3;have sR4:WS (λl=>own4 l=.no/\tw4 l=.my) h4 3 WD.cells dR R:=I.sR.imp id λ⟨lo,g,row,a1,a2,a3,a4⟩=>by
   obtain⟨b1,b2,b3⟩:=DX lo _ (Qc a3) a2.1 a2.2 a3;exact⟨lo,g,row,a1,⟨b1,b2⟩,b3,a4⟩
  have sE4:WS (λl=>own4 l=.no/\tw4 l=.my) h4 12 Ev.cells dE E:=I.sE.imp id λ⟨lo,g,row,a1,a2,a3,a4⟩=>by
   obtain⟨b1,b2,b3⟩:=DX lo _ (Qc a3) a2.1 a2.2 a3;exact⟨lo,g,row,a1,⟨b1,b2⟩,b3,a4⟩
  have Rp:=I.lR;have Rf:=I.lE;have q4:=I.q2;obtain⟨_,_,_,_,Tc⟩:=I.T;have hlY:=pJ S o Tc.co.cI;rw[<- hY]at hlY;have yp:=λh'=>I.next (h':=h') Qs (ho▸(Js o B9).1.2.1.2) (by rw[<- ho];exact hY) (own4:=own4) (tw4:=tw4) (h4:=h4) T4;have Z6:∀i,i<Y.l.length->(row i).all D.KJ=true:=λi hi=>by rw[Zx i hi];rfl
  have tn:∀{l},¬(own4 l=.no/\(tw4 l=.no\/tw4 l=.my))->∀{l'},own4 l'=.no/\tw4 l'=.my->l'≠l:=λh l' h' e=>h (e▸⟨h'.1,.inr h'.2⟩);have n0:q≠0:=by omega
  have n1:q≠1:=by omega
  have z0:0<h4.length:=by omega
  have z1:1<h4.length:=by omega
  have z40:=(DX 0 _ V5 (I.my 0 (.inl rfl)).1 (I.my 0 (.inl rfl)).2 I.hx).2.2;have pN:=(DX 1 _ KI (I.my 1 (.inr (.inl rfl))).1 (I.my 1 (.inr (.inl rfl))).2 I.hr).2.2;rcases sR4 with ⟨rfl,rfl⟩|⟨vO,gR,Ie,rfl,cS,AZ,If⟩
  ·rcases sE4 with ⟨rfl,rfl⟩|⟨zR,gE,DV,rfl,R4,zS,DW⟩
   ·refine Qf hb ?_;simp only[go_sem,Qa,F7,yC,R3,cR,Qv];refine⟨⟨by omega,Z6⟩,Qs,_,QI.frame (by simp only[go_sem,Zq]),_,_,_,_,_,_,_,_,yp _ (by simp) (λl hl hn=>(QC (by rw[Ki];exact hl)).trans (Qi (tn hn ⟨qo,qt⟩))) DX ((QC (by rw[Ki];exact z0)).trans (Qi n0)) ((QC (by rw[Ki];exact z1)).trans (Qi n1)) ((QC (by rw[Ki];exact yC)).trans (Qv yC)) (.inr ⟨h4.length+1,0,_,rfl,.inl (Qi6 _),KX (by rw[Ki]),λi hi=>?_⟩) (.inr ⟨h4.length+2,0,_,rfl,.inl (by omega),KX (by rw[Ki]),λi hi=>Zx i hi⟩),rfl⟩;obtain rfl:i=0:=by simpa using hi
    rfl
   ·have Ig:=Qc zS;have Ih:zR≠q:=WT zS F7 (.inl nofun);refine Qf hb ?_;simp only[go_sem,Qa,F7,yC,R3,cR,zS,Ig,Qv,Qi Ih,Qi Ih.symm];have R5:∀(A B C:Ob) {l},l<h4.length->l<(((h4.set q A).set zR B).set q C).length:=λA B C l hl=>by simp only[Ki];exact hl
    have pO:=WT zS z40 (.inl nofun);have pP:=WT zS pN (.inl nofun);refine⟨⟨by omega,Z6⟩,Qs,_,QI.frame (by simp only[go_sem,Zq]),_,_,_,_,_,_,_,_,yp _ (by simp) (λl hl hn=>by rw[QC (R5 _ _ _ hl),Qi (tn hn ⟨qo,qt⟩),Qi (tn hn R4),Qi (tn hn ⟨qo,qt⟩)]) DX (by rw[QC (R5 _ _ _ z0),Qi n0,Qi pO,Qi n0]) (by rw[QC (R5 _ _ _ z1),Qi n1,Qi pP,Qi n1]) ((QC (R5 _ _ _ yC)).trans (Qv (by simp only[Ki];exact yC))) (.inr ⟨h4.length+1,0,_,rfl,.inl (Qi6 _),KX (by simp only[Ki]),λi hi=>?_⟩) (.inr ⟨zR,gE+1,_,?_,.inr R4,?_,cO (r2:=row) DW λi hi=>Zx i hi⟩),rfl⟩
    ·obtain rfl:i=0:=by simpa using hi
     rfl
    ·rw[ZX]
    ·rw[QC (R5 _ _ _ Ig),Qi Ih.symm,Qv (by simp only[Ki];exact Ig),ZX]
  ·have Ny:=Qc AZ;have Ii:vO≠q:=WT AZ F7 (.inl nofun);have nR0:=WT AZ z40 (.inl nofun);have nR1:=WT AZ pN (.inl nofun);rcases sE4 with ⟨rfl,rfl⟩|⟨zR,gE,DV,rfl,R4,zS,DW⟩
   ·refine Qf hb ?_;simp only[go_sem,Qa,F7,yC,R3,cR,AZ,Ny,Qv,Qi Ii,Qi Ii.symm];have R8:∀(A B:Ob) {l},l<h4.length->l<((h4.set vO A).set q B).length:=λA B l hl=>by simp only[Ki];exact hl
    refine⟨by omega,⟨by omega,Z6⟩,Qs,_,QI.frame (by simp only[go_sem,Zq]),_,_,_,_,_,_,_,_,yp _ (by simp) (λl hl hn=>by rw[QC (R8 _ _ hl),Qi (tn hn ⟨qo,qt⟩),Qi (tn hn cS)]) DX (by rw[QC (R8 _ _ z0),Qi n0,Qi nR0]) (by rw[QC (R8 _ _ z1),Qi n1,Qi nR1]) ((QC (R8 _ _ yC)).trans (Qv (by simp only[Ki];exact yC))) (.inr ⟨vO,gR+1,_,?_,.inr cS,?_,cO (r2:=λ_=>Y.r.cells) If λi hi=>?_⟩) (.inr ⟨h4.length+1,0,_,rfl,.inl (Qi6 _),KX (by simp only[Ki]),λi hi=>Zx i hi⟩),rfl⟩
    ·rw[ZX];rfl
    ·rw[QC (R8 _ _ Ny),Qi Ii.symm,Qv Ny,ZX];rfl
    ·obtain rfl:i=0:=by simpa using hi
     rfl
   ·have Ig:=Qc zS;have Ih:zR≠q:=WT zS F7 (.inl nofun);have pQ:zR≠vO:=WT zS AZ (.inr nofun);have pO:=WT zS z40 (.inl nofun);have pP:=WT zS pN (.inl nofun);refine Qf hb ?_;simp only[go_sem,Qa,F7,yC,R3,cR,AZ,Ny,zS,Ig,Qv,Qi Ii,Qi Ii.symm,Qi Ih,Qi Ih.symm,Qi pQ,Qi pQ.symm];have Nz:∀(A B C D:Ob) {l},l<h4.length->l<((((h4.set vO A).set q B).set zR C).set q D).length:=λA B C D l hl=>by simp only[Ki];exact hl
    refine⟨by omega,⟨by omega,Z6⟩,Qs,_,QI.frame (by simp only[go_sem,Zq]),_,_,_,_,_,_,_,_,yp _ (by simp) (λl hl hn=>by rw[QC (Nz _ _ _ _ hl),Qi (tn hn ⟨qo,qt⟩),Qi (tn hn R4),Qi (tn hn ⟨qo,qt⟩),Qi (tn hn cS)]) DX (by rw[QC (Nz _ _ _ _ z0),Qi n0,Qi pO,Qi n0,Qi nR0]) (by rw[QC (Nz _ _ _ _ z1),Qi n1,Qi pP,Qi n1,Qi nR1]) ((QC (Nz _ _ _ _ yC)).trans (Qv (by simp only[Ki];exact yC))) (.inr ⟨vO,gR+1,_,?_,.inr cS,?_,cO (r2:=λ_=>Y.r.cells) If λi hi=>?_⟩) (.inr ⟨zR,gE+1,_,?_,.inr R4,?_,cO DW λi hi=>Zx i hi⟩),rfl⟩
    ·rw[ZX];rfl
    ·rw[QC (Nz _ _ _ _ Ny),Qi Ii.symm,Qi pQ,Qi Ii.symm,Qv Ny,ZX];rfl
    ·obtain rfl:i=0:=by simpa using hi
     rfl
    ·rw[ZX]
    ·rw[QC (Nz _ _ _ _ Ig),Qi Ih.symm,Qv (by simp only[Ki];exact Ig),ZX]
 ·obtain rfl:k=x.ops.length:=by omega
  have dk:=QQ Qs;have hr:=I.hr;have KI:=Qc hr;have hq:=I.hq;have pM:=Qc hq;refine Qf hb ?_;simp only[go_sem,Qa,dk,Qs];have oR:dR.KJ=true:=by rcases I.sR with ⟨rfl,_⟩|⟨_,_,_,rfl,_⟩<;>rfl
  have oE:dE.KJ=true:=by rcases I.sE with ⟨rfl,_⟩|⟨_,_,_,rfl,_⟩<;>rfl
  have Q5:=I.run;rw[zW]at Q5;rw[Q5];refine Qf hb ?_;simp only[go_sem,Qa,hr,KI,hq,pM,Qv,oR,oE];refine⟨_,_,_,rfl,I.sR.imp id λ⟨lo,g,row,b1,b2,b3,b4⟩=>⟨lo,g,row,b1,b2,by rw[Qi (WT hr b3 (.inl nofun))];exact b3,b4⟩,I.sE.imp id λ⟨lo,g,row,b1,b2,b3,b4⟩=>⟨lo,g,row,b1,b2,by rw[Qi (WT hr b3 (.inl nofun))];exact b3,b4⟩⟩
def Ij(o:JC):Bool:=decide (o.changes.length<=40)&&decide (o.rules.length<=40)
def DY(x:Yw)(m:Nat):Bool:=decide (x.ops.length<=m)&&x.ops.all Ij
def QjB{α:Type}(l:List α)(d:α)(f):l.all f=true↔∀j,j<l.length->f (l.getD j d)=true:=by
 rw[jN];constructor
 ·intro h j hj;exact h _ (jq l d j hj)
 ·intro h a ha;obtain⟨i,hi,rfl⟩:=yE ha;have:=h i hi;simpa[Q8,hi] using this
def QBA(x:Yw)(m:Nat)(hm:m<1000000):Zh prog 9 [.agg x.cells,Qb m] (Qo (QY (DY x m))):=by
 refine Zy 0 Qh 200 func9 rfl ntmps9 results9 rfl λbase w hb=>?_;simp only[go_sem];by_cases h1:m<x.ops.length
 ·simp only[go_sem,h1,decide_true];have:DY x m=false:=by simp[DY];omega
  rw[this]
 ·have ZY:decide (m<x.ops.length)=false:=by simp;omega
  simp only[go_sem,ZY];refine tI (G:=Nat) [13,14] (λk=>∀j,j<k->Ij (x.ops.getD j default)=true) (λk γ=>[(15,Qb k)]) (λk γ=>[]) (x.ops.length) (0) rfl (QI.to 0 (by (simp only[go_sem])<;>simp)) ?_ ?_
  ·intro j hj;omega
  intro k γ hk Vo;apply ZC hb;have Zq:=Vp (show k<4611686018427387904 by omega);first|refine Ad hk (λQs=>?_) (λQs=>?_)|refine Ae hk (λQs=>?_) (λQs=>?_)
  ·simp only[go_sem,Qs];have ff:¬ (∀j,j<x.ops.length->Ij (x.ops.getD j default)=true)->DY x m=false:=λhn=>by
    rw[zT];intro hf;simp only[DY,ZJ]at hf;exact hn ((QjB _ default _).1 hf.2)
   first|refine EX (λh2=>?_) (λh2=>?_)|refine EY (λh2=>?_) (λh2=>?_)|refine EZ (λh2=>?_) (λh2=>?_)|refine vg (λh2=>?_) (λh2=>?_)|refine E0 (λh2=>?_) (λh2=>?_)|refine E6 (λh2=>?_) (λh2=>?_)|refine E7 (λh2=>?_) (λh2=>?_)|refine ET (λh2=>?_) (λh2=>?_)
   ·simp only[go_sem];rw[ff (λhn=>by have:=hn k Qs;simp only[Ij,ZJ,Yq]at this;omega)]
   ·simp only[go_sem];first|refine EX (λh3=>?_) (λh3=>?_)|refine EY (λh3=>?_) (λh3=>?_)|refine EZ (λh3=>?_) (λh3=>?_)|refine vg (λh3=>?_) (λh3=>?_)|refine E0 (λh3=>?_) (λh3=>?_)|refine E6 (λh3=>?_) (λh3=>?_)|refine E7 (λh3=>?_) (λh3=>?_)|refine ET (λh3=>?_) (λh3=>?_)
    ·simp only[go_sem];rw[ff (λhn=>by have:=hn k Qs;simp only[Ij,ZJ,Yq]at this;omega)]
    ·simp only[go_sem];repeat (refine And.intro (by first|assumption|omega) ?_)
     refine⟨_,QI.to 0 (by (simp only[go_sem,Zq])<;>simp),EW.mk (0) (?_)⟩;intro j hj;rcases Cb.1 hj with h|rfl
     ·exact Vo j h
     ·simp only[Ij,ZJ,Yq];omega
  ·simp only[go_sem];apply ZC hb;subst Qs;have:DY x m=true:=by
    simp only[DY,ZJ];exact⟨by simp;omega,(QjB _ default _).2 Vo⟩
   rw[this]
end Go.Fg.X
