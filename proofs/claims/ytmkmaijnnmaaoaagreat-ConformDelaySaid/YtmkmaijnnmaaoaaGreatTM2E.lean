/- Contracts and laws on the way to the statement. No conditions. -/
import Derived.Test.YtmkmaijnnmaaoaaGreatSC7E
import Derived.Test.YtmkmaijnnmaaoaaGreatCA2E
set_option maxRecDepth 100000
set_option maxHeartbeats 16000000
set_option linter.unusedVariables false
set_option linter.unusedSimpArgs false
set_option linter.unusedSectionVars false
set_option linter.defProp false
namespace Go.Fg.X
open Go.Proofs Go.Fg
open Go.Proofs.Tryz
def QyN{S}{h}{p}{T}{A}(O:jC S h p T A)(a)(c:Qq)(k:QC T a=some c)(i:¬ 1<QS c.ls):
  QI prog 223 h [.ptr p 0 0 0,Qb a] (λd l=>d=.tup [.nil,Qb 6]/\l=h):=by
 obtain⟨v,u,t,s,c2,r,x,z,y,o,O⟩:=O;have f:=O.o;have e:=O.m1;have b:=O.f1.at_ a;rw[wZ,k]at b;simp only[Qe i]at b;refine Q3 func223 ntmps223 results223 λg w n q=>?_;have m:=Qc f;have j:=Qc e;simp only[go_sem,Qa,f,m,e,j,b,Go.undef]
def BI:Sh:=⟨false,⟨⟨0,0,0⟩,⟨0,0,0⟩,false⟩,0⟩
def QiS:BI.Ok:=⟨⟨Ln.vP,Ln.vP⟩,π⟩
def YC(M:Ql)(c:Int):Ql:={ M with N:=Wj M.N c λn=>{ n with sh:=BI } }
def WM(M:Ql)(j:Int):Ql:={ M with KT:=λi=>if i=(Qv M j).c.parent then Vv j (M.KT (Qv M j).c.parent) else M.KT i }
def J8(M:Ql)(j:Int):Ql:=
 if Vv j (M.KT (Qv M j).c.parent)=[] then (Xh M.T (Qv M j).c.parent).foldl YC (WM M j) else WM M j
def XT(M:Ql)(a:Int):Ql:=
 if 1<QS (Qv M a).c.ls then (XP M.T (Ku M.A a) a).foldl J8 { M with A:=Ku M.A a } else M
def Qz.YC{M}(I:Qz M)(c):Qz (YC M c):=I.Wj c (λn=>{ n with sh:=BI }) λ_=>rfl
def lj:∀(l:List Int) (M:Ql),(l.foldl YC M).T=M.T/\(l.foldl YC M).A=M.A/\(l.foldl YC M).KT=M.KT/\(l.foldl YC M).lk=M.lk/\(l.foldl YC M).Qd=M.Qd/\(l.foldl YC M).acc=M.acc/\(l.foldl YC M).Lv=M.Lv
 | [],M=>⟨rfl,rfl,rfl,rfl,rfl,rfl,rfl⟩
 | j::l,M=>lj l (YC M j)
def Qz.uK:∀(l:List Int) {M:Ql},Qz M->Qz (l.foldl X.YC M)
 | [],M,I=>I
 | j::l,M,I=>Qz.uK l (I.YC j)
def Qz.WM{M}(I:Qz M)(j):Qz (WM M j):=by
 refine⟨I.tree,I.vW,I.to,I.nodes,I.XS,I.ks,I.BH,λi x hx=>?_,λi x hx=>?_,I.Qd,I.acc⟩
 .unfold X.WM at hx;dsimp only at hx;split at hx
  .rename_i a;subst a;exact I.vX _ x (JI.1 hx).1
  .exact I.vX _ x hx
 .unfold X.WM at hx;dsimp only at hx;split at hx
  .exact I.vY _ x (JI.1 hx).1
  .exact I.vY _ x hx
def Qz.J8{M}(I:Qz M)(j):Qz (J8 M j):=by
 unfold X.J8;split
 .exact Qz.uK _ (I.WM j)
 .exact I.WM j
def Qz.U1:∀(l:List Int) {M:Ql},Qz M->Qz (l.foldl X.J8 M)
 | [],M,I=>I
 | j::l,M,I=>Qz.U1 l (I.J8 j)
def QiT(M:Ql)(j:Int):(J8 M j).T=M.T/\(J8 M j).A=M.A/\(J8 M j).lk=M.lk/\(J8 M j).Qd=M.Qd/\(J8 M j).acc=M.acc/\(J8 M j).Lv=M.Lv:=by
 unfold J8;split
 .obtain⟨f,e,g,d,c,b,a⟩:=lj (Xh M.T (Qv M j).c.parent) (WM M j);exact⟨f,e,d,c,b,a⟩
 .exact⟨rfl,rfl,rfl,rfl,rfl,rfl⟩
def Is:∀(l:List Int) (M:Ql),(l.foldl J8 M).T=M.T/\(l.foldl J8 M).A=M.A/\(l.foldl J8 M).lk=M.lk/\(l.foldl J8 M).Qd=M.Qd/\(l.foldl J8 M).acc=M.acc/\(l.foldl J8 M).Lv=M.Lv
 | [],M=>⟨rfl,rfl,rfl,rfl,rfl,rfl⟩
 | j::l,M=>by
  obtain⟨n,m,k,i,h,g⟩:=Is l (J8 M j);obtain⟨f,e,d,c,b,a⟩:=QiT M j;exact⟨n.trans f,m.trans e,k.trans d,i.trans c,h.trans b,g.trans a⟩
def Qz.XT{M}(I:Qz M)(a):Qz (XT M a):=by
 unfold X.XT;split
 .exact Qz.U1 _ (I.act (I.XS.off a))
 .exact I
structure P9 (own:Nat->Tag) (h:List Ob) (p:Nat) (L:Loc) (M:Ql) (lo g:Nat) (row:Nat->List D) (U:List Int) (k:Nat) (s:St):Prop where
 ex:∃own' H,ZL own' H p L ((U.take k).foldl J8 M)/\ZE own h own' H/\own' lo=.on/\H[lo]? = some ⟨.arr,g,1,U.length,row⟩ /\
  s=⟨[(0,.ptr p 0 0 0),(22,.ref lo g 0 U.length),(23,Qb U.length),(24,Qb k)],H⟩
def P9.of{own}{h}{p}{L}{M}{c g}{b}{U:List Int}{k:Nat}{a}{H:List Ob}(C:ZL a H p L ((U.take k).foldl J8 M))(D:ZE own h a H)(e:a c=.on)(d:H[c]? = some ⟨.arr,g,1,U.length,b⟩):
  P9 own h p L M c g b U k ⟨[(0,.ptr p 0 0 0),(22,.ref c g 0 U.length),(23,Qb U.length),(24,Qb k)],H⟩:=⟨⟨a,H,C,D,e,d,rfl⟩⟩
structure U2 (own:Nat->Tag) (h:List Ob) (p:Nat) (L:Loc) (M:Ql) (lo g:Nat) (row:Nat->List D) (U V:List Int) (k:Nat) (i:Nat) (s:St):Prop where
 ex:∃own' H,ZL own' H p L ((V.take i).foldl YC M)/\ZE own h own' H/\own' lo=.on/\H[lo]? = some ⟨.arr,g,1,U.length,row⟩ /\
  s=⟨[(0,.ptr p 0 0 0),(22,.ref lo g 0 U.length),(23,Qb U.length),(24,Qb k),(59,ints V),(60,Qb V.length),(61,Qb i)],H⟩
def U2.of{own}{h}{p}{L}{M}{c g}{b}{U V:List Int}{k i:Nat}{a}{H:List Ob}(C:ZL a H p L ((V.take i).foldl YC M))(D:ZE own h a H)(e:a c=.on)(d:H[c]? = some ⟨.arr,g,1,U.length,b⟩):
  U2 own h p L M c g b U V k i ⟨[(0,.ptr p 0 0 0),(22,.ref c g 0 U.length),(23,Qb U.length),(24,Qb k),(59,ints V),(60,Qb V.length),(61,Qb i)],H⟩:=⟨⟨a,H,C,D,e,d,rfl⟩⟩
def QyO{o}{h}{p}{L}{M:Ql}(C:ZL o h p L M)(I:Qz M){b}{n:Nd}(hn:Qj M.N b=some n)(hl:n.c.leaf=true)(Vp:1<QS n.c.ls->b∈M.A)(Jf:Jx M.T (Ku M.A b) b=false):
  QI prog 166 h [.ptr p 0 0 0,Qb b] (λd h'=>∃f,ZL f h' p L (XT M b)/\Qz (XT M b)/\ZE o h f h'):=by
 have ho:=C.ob;have Jh:Qv M b=n:=by unfold Qv;rw[hn];rfl
 have Wh:QC M.T b=some n.c:=I.some hn;have hO:=C.qG;have a7:=I.tree.len;rw[I.to]at hO;by_cases N:1<QS n.c.ls;case neg=>
  have hM:XT M b=M:=by unfold XT;rw[Jh,Qe N]
  refine Q3 func166 ntmps166 results166 λa3 w pl m=>?_;have Qg:=Qc ho;simp only[go_sem,Qa,ho,Qg];refine JO m QfU (QyN hO b n.c Wh N) λd h9 O=>?_;obtain⟨rfl,rfl⟩:=O;apply QM m;rw[hM];exact⟨o,C,I,ZE.refl o h9⟩
 have hM:XT M b=(XP M.T (Ku M.A b) b).foldl J8 { M with A:=Ku M.A b }:=by unfold XT;rw[Jh,Qf N]
 have I9:Qz { M with A:=Ku M.A b }:=I.act (I.XS.off b);have uL:=Qz.U1 (XP M.T (Ku M.A b) b) I9;rw[hM];refine Q3 func166 ntmps166 results166 λa3 w pl m=>?_;have Qg:=Qc ho;simp only[go_sem,Qa,ho,Qg];refine JO m QfU (Qvv hO I.tree I.XS b n.c Wh hl N (Vp N) Jf) λd h9 O=>?_;obtain⟨d1,rfl,CG,O9,s9⟩:=O;rw[<- I.to]at O9;have C9:=C.act O9 s9;have D9:=ZE.of (own:=o) (t:=.on) σ s9;obtain⟨U,hU⟩:∃U,U=XP M.T (Ku M.A b) b:=⟨_,rfl⟩;rw[<- hU]at CG uL ⊢;have iY:U.length<=16:=by
  rw[hU];exact JL (bV _).length_le CM
 have uG:∀j∈U,j∈up M.T b:=λj J=>by rw[hU]at J;exact(bV _).subset J
 obtain⟨v,UX⟩:∃v,v={ M with A:=Ku M.A b }:=⟨_,rfl⟩;have ld:v.T=M.T:=by rw[UX]
 rw[<- UX]at C9 I9 uL ⊢;rcases CG with ⟨rfl,UY⟩|⟨F,g,a8,s,rfl,⟨ZM,rfl⟩,MZ,ZN⟩
 .exfalso;rw[hU,XP,VT I.tree Wh,bU,Jf]at UY;cases UY
 have b0:=Qc MZ;rw[JM]at MZ;apply QM m;refine Js (P9 o h p L v F g s U) U.length QQ (P9.of (k:=0) C9 D9 (by unfold QY;rw[Qf ZM]) MZ) ?_;rintro k _ hk ⟨f,H,q,Dk,FL,Kx,rfl⟩;have UZ:=Qc Kx;by_cases u:k<U.length;case neg=>
  have Jt:k=U.length:=ω;have dk:=QU u;rw[Jt,YH]at q;apply Qh m;simp only[go_sem,Qa,dk];exact⟨f,q,uL,Dk⟩
 have dk:=Q1 u;obtain⟨j,J⟩:∃j,j=U.getD k 0:=⟨_,rfl⟩;have Gp:j∈up M.T b:=uG j (by rw[J];exact zR U 0 k u);have U0:s k=[Qb j]:=by have:=ZN k u;rw[JM]at this;rw[this,J]
 have JE:(U.take (k+1)).foldl J8 v=J8 ((U.take k).foldl J8 v) j:=by
  rw[getD_take U 0 k u,jY,<- J];rfl
 have z:=Qz.U1 (U.take k) I9;have M7:=(Is (U.take k) v).1;obtain⟨a,Gl⟩:∃a,a=(U.take k).foldl J8 v:=⟨_,rfl⟩;rw[<- Gl]at q z M7 JE;obtain⟨y,hy⟩:∃y,Qj a.N j=some y:=by
  have B:=HJ Gp;rw[<- ld,<- M7,z.find]at B;cases hq:Qj a.N j with
  | none=>rw[hq]at B;cases B
  | some y=>exact⟨y,rfl⟩
 have UF:Qv a j=y:=by unfold Qv;rw[hy];rfl
 have Xn:=q.look hy;have XD:=q.ob;have jH:=Qc XD;have zq:=q.VV;have De:=Qc zq;have yw:=(q.JH j y hy).1;have xo:=Qc yw;have FR:=q.Wi;have gG:=Qc FR;have zo:=uy z hy;have qI:=q.X3.at_ y.c.parent;rw[Qf zo]at qI;have kS:=q.kids _ zo;have Zs:=Vl (show k<4611686018427387904 from ω);have Mq:=UT z.tree kS.nd (z.uw _);apply Qh m;simp only[go_sem,Qa,dk,u,U0,XD,jH,zq,De,Kx,UZ,Xn,yw,xo,FR,gG,qI];refine JO m QtF (QvJ kS j ω) λd qW O=>?_;obtain⟨rfl,Y,uM⟩:=O;have E:=q.Yn _ zo Y uM;have Iq:=Dk.trans (ZE.of (t:=.Yn y.c.parent) σ uM);have ZZ:{ a with KT:=λi=>if i=y.c.parent then Vv j (a.KT y.c.parent) else a.KT i }=WM a j:=by unfold WM;rw[UF]
 rw[ZZ]at E;have lh:=z.WM j;have lg:QY f H (.Yn y.c.parent) F=.on:=by rw[Kz UZ];exact FL
 have a2:qW[F]? = some ⟨.arr,g,1,U.length,s⟩:=(uM.keep F UZ (by rw[FL];simp)).trans Kx;have Q:J8 a j=if Vv j (a.KT y.c.parent)=[] then (Xh a.T y.c.parent).foldl YC (WM a j) else WM a j:=by unfold J8;rw[UF]
 have S:=E.ob;have Ra:=Qc S;have W:=E.Wi;have a6:=Qc W;have a1:=E.X3.at_ y.c.parent;rw[Qf (show (WM a j).ks y.c.parent=true from zo)]at a1;have Iv:F6 qW (L.lk y.c.parent) (Vv j (a.KT y.c.parent)):=Y.toR;apply Qh m;simp only[go_sem,Qa,S,Ra,W,a6,a1];apply JD m p5 (sP Iv);apply Qh m;simp only[go_sem,Qa,S,Ra];by_cases hz:Vv j (a.KT y.c.parent)=[];case neg=>
  have XI:0<(Vv j (a.KT y.c.parent)).length:=List.length_pos_iff.2 hz;have dz:decide ((0:Int)<((Vv j (a.KT y.c.parent)).length:Int))=true:=Q1 ω;rw[Qe hz]at Q;simp only[go_sem,Qa,dz];exact⟨u,_,QH.frame (by simp only[go_sem,Zs]),P9.of (by rw[JE,Q];exact E) Iq lg a2⟩
 rw[Qf hz]at Q;have dz:decide ((0:Int)<((Vv j (a.KT y.c.parent)).length:Int))=false:=QU (by rw[hz];simp);simp only[go_sem,Qa,dz,S,Ra];apply JD m p6 (Qvq E.tr.toR (by have:=lh.tree.len;omega) y.c.parent);apply Qh m;simp only[go_sem,Qa,S,Ra];obtain⟨V,hV⟩:∃V,V=Xh a.T y.c.parent:=⟨_,rfl⟩;have a9:V.length<=64:=by
  rw[hV];unfold Xh;rw[KK];exact JL (qS _ _) z.tree.len
 have a5:∀c∈V,(QC a.T c).isSome=true:=λc K=>by
  rw[hV]at K;obtain⟨x,hx,rfl⟩:=JA.1 K;rw[(VL z.tree.rising).2 ⟨(JI.1 hx).1,rfl⟩];rfl
 rw[show Xh (WM a j).T y.c.parent=V from hV.symm];rw[<- hV]at Q;refine Js (U2 o h p L (WM a j) F g s U V k) V.length QQ (U2.of (i:=0) E Iq lg a2) ?_;rintro i _ hi ⟨Ar,H5,r,D5,Gq,a0,rfl⟩;by_cases P:i<V.length;case neg=>
  have qX:i=V.length:=ω;have di:=QU P;rw[qX,YH]at r;apply Qh m;simp only[go_sem,Qa,di];apply QM m;exact⟨u,_,QH.frame (by simp only[go_sem,Zs]),P9.of (by rw[JE,Q];exact r) D5 Gq a0⟩
 have di:=Q1 P;have U4:=Vl (show i<4611686018427387904 from ω);obtain⟨c,K⟩:∃c,c=V.getD i 0:=⟨_,rfl⟩;have a4:c∈V:=by rw[K];exact zR V 0 i P
 have Z:(V.take (i+1)).foldl YC (WM a j)=YC ((V.take i).foldl YC (WM a j)) c:=by
  rw[getD_take V 0 i P,jY,<- K];rfl
 have I5:=Qz.uK (V.take i) lh;have T:=(lj (V.take i) (WM a j)).1;obtain⟨R,Rb⟩:∃R,R=(V.take i).foldl YC (WM a j):=⟨_,rfl⟩;rw[<- Rb]at r I5 T Z;obtain⟨x,hx⟩:∃x,Qj R.N c=some x:=by
  have B:=a5 c a4;rw[show a.T=R.T from T.symm,I5.find]at B;cases hq:Qj R.N c with
  | none=>rw[hq]at B;cases B
  | some x=>exact⟨x,rfl⟩
 have Ao:=r.qH c x hx;have lu:=r.look hx;have EB:=r.ob;have Rc:=Qc EB;have Ex:=r.VV;have lz:=Qc Ex;have Na:=(r.JH c x hx).1;have Df:=Qc Na;have QE:L.le c≠F:=λe=>by have h1:=(r.JH c x hx).2;rw[e,Gq]at h1;cases h1
 apply Qh m;simp only[go_sem,Qa,di,P,<- K,EB,Rc,Ex,lz,lu,Na,Df];have C6:=r.x9 hx (λn=>{ n with sh:=BI }) (λ_=>rfl) (λ_=>rfl) ⟨Ao.Zw,Ao.du,QiS,Ao.cp,Ao.c⟩;have D6:=ZE.set (own:=Ar) (h:=H5) (qc (qD L.lq x) { x with sh:=BI }) (l:=L.le c) (by rw[(r.JH c x hx).2];simp);have DO:(⟨.one,0,60,1,λ_=>List.take 38 (K8 (qD L.lq x) x)++.raw (.bool false)::.raw (.int .u64 0)::.raw (.int .u64 0)::.raw (.int .u64 0)::.raw (.int .u64 0)::.raw (.int .u64 0)::.raw (.int .u64 0)::.raw (.int .u64 0)::.raw (.int .u64 0)::.raw (.bool false)::.raw (.int .u64 0)::List.drop 49 (K8 (qD L.lq x) x)⟩:Ob)=qc (qD L.lq x) { x with sh:=BI }:=by
  unfold qc;rw[<- QyB (qD L.lq x) x BI];rfl
 rw[DO];refine⟨_,QH.frame (by simp only[go_sem,U4]),U2.of (by rw[Z];exact C6) (D5.trans D6) Gq (by rw[Qm QE];exact a0)⟩
def firstM(M:Ql)(a:Nat)(b:Int):Option It:=(M.KT b).find? λx=>decide (x.va<=min a 9223372036854775807)
def BJ(M:Ql)(a:Nat):Nat->Int->Option Int
 | 0,_=>none
 | n+1,id=>match firstM M a id with
  | none=>none
  | some x=>if (Qv M x.ki).c.leaf=true then some x.ki else BJ M a n x.ki
def Qi1(o:Option Int):D:=.tup [Qb (o.getD 0),QZ false,QZ o.isSome]
def yx(M:Ql)(a:Nat)(o:Option It):Prop:=Ae o (M.Lv.filter λx=>decide (x.ka<=min a 9223372036854775807))
def Re(M:Ql)(a:Nat)(o:Option It):D:=match o with
 | some x=>.tup [Qb x.ki,QZ true,QZ true]
 | none=>Qi1 (BJ M a 17 0)
section
variable {own:Nat->Tag}{h:List Ob}{p:Nat}{L:Loc}{M:Ql}(C:ZL own h p L M)(I:Qz M)
include C I
theorem QyS(a):Zf prog 161 h [.ptr p 0 0 0,u64 a] (λd=>∃o,yx M a o/\d=Re M a o):=by
 have e:=Jc C.ob;have j:=Jc C.Wi;have l:=Jc C.VV;have Q:=C.Yo.toR;refine ZD func161 ntmps161 results161 λJ w pl F k Ze f=>?_;rw[<- k]at e j l;have g:=Qc e;have B:=Qc j;have E:=Qc l;simp only[go_sem,Qa,e,g,j,B,l,E];refine rH f QtA (QvK (Q.more (KV k)) a) λd S=>?_;obtain⟨o,m,rfl⟩:=S;apply Qh f;simp only[go_sem,Qa,e,g];cases o with
 | some x=>
  simp only[go_sem,Qa,wz,Vn];exact⟨[],(Jv F).symm,some x,m,rfl⟩
 | none=>
  simp only[go_sem,Qa,xJ];have Z:(up M.T 0).length=0:=by rw[Mr I.tree];rfl
  refine Ot (λn N=>∃id,M.ks id=true/\(up M.T id).length+n=16/\BJ M a 17 0=BJ M a (n+1) id/\N=⟨[(0,.ptr p 0 0 0),(1,u64 a),(9,Qb id)],F⟩) 16 QQ ⟨0,(I.ks 0).2 (.inl rfl),ω,rfl,rfl⟩ ?_;rintro n _ ⟨id,u,H,b,rfl⟩;have v:=C.X3.at_ id;rw[Qf u]at v;have R:=(C.kids id u).toR
  conv at b=>rhs;rw[BJ]
  apply Qh f;simp only[go_sem,Qa,e,g,j,B,v];apply JD f QtB (QvG (R.more (KV k)) a);apply Qh f;simp only[go_sem,Qa,e,g];have t:(M.KT id).find? (λx=>decide (x.va<=min a 9223372036854775807))=firstM M a id:=rfl;rw[t];cases q:firstM M a id with
  | none=>
   rw[q]at b;simp only[go_sem,Qa,xJ];exact⟨[],(Jv F).symm,none,m,by unfold Re;rw[b];rfl⟩
  | some x=>
   rw[q]at b;have K:x∈M.KT id:=xF q;obtain⟨c,z,O⟩:=I.vX id x K;obtain⟨y,i,W⟩:=I.Ij z;have V:Qv M x.ki=y:=by unfold Qv;rw[i];rfl
   have lD:(up M.T x.ki).length=(up M.T id).length+1:=by rw[VT I.tree z,O];rfl
   have Y:(up M.T x.ki).length<=16:=CM;have U:=C.look i;have s:=Jc (C.JH x.ki y i).1;rw[<- k]at s;have T:=Qc s;dsimp only at b;rw[V]at b;simp only[go_sem,Qa,wz,Vn,e,g,l,E,U,s,T];cases r:y.c.leaf with
   | true=>
    rw[r,Qf rfl]at b;simp only[go_sem,Qa];exact⟨[],(Jv F).symm,none,m,by unfold Re;rw[b];rfl⟩
   | false=>
    rw[r,Qe π]at b;obtain⟨n,rfl⟩:∃P,n=P+1:=⟨n - 1,ω⟩;simp only[go_sem,Qa];exact⟨n,_,ω,QQ,x.ki,(I.ks _).2 (.inr ⟨y,i,r⟩),ω,b,rfl⟩
end
def QyU{T}(I:KU T){b a}{c:Qq}(f:QC T b=some c)(l:c.leaf=true)(h:b∈up T a):a=b:=by
 refine jX λo=>?_;obtain⟨i,d,p,m,k⟩:=gK I h o;have n:d.parent≠0:=λe=>by rw[<- k,e,FV I]at f;cases f
 obtain⟨e,j,g⟩:=I.Zy d (Ab I m) n;rw[k,f]at j;cases j;rw[l]at g;cases g
def lF{T}(I:KU T){b}{c:Qq}(d:QC T b=some c)(e:c.leaf=true)(A):Jx T A b=true↔b∈A:=by
 rw[zd];constructor
 .rintro⟨a,f,h⟩;rw[<- QyU I d e h];exact f
 .exact λh=>⟨b,h,Yi I d⟩
def QyV{T}(I:KU T){a}{c:Qq}(d:QC T a=some c)(b:c.leaf=true)(A):Jx T (Ku A a) a=false:=by
 rw[jW];intro h;have:=(lF I d b _).1 h;simp[Ku]at this
def EC(a:Nat)(n:Nd):Nd:={ n with Zw:=V5 (n.Zw+a),sh:=H4 n.sh (V5 (n.Zw+a)),cp:=El n.cp (V5 (n.Zw+a)) }
def VG(a:Nat)(M:Ql)(j:Int):Ql:={ M with N:=Wj M.N j (EC a) }
def Qi2{n:Nd}(h:n.Ok)(a):(EC a n).Ok:=⟨MK _,h.du,Qwz h.sh _,QwD h.cp _,h.c⟩
def Qz.VG{M}(I:Qz M)(a)(j):Qz (VG a M j):=I.Wj j (EC a) λ_=>rfl
def Qz.lG{len}:∀(l:List Int) {M:Ql},Qz M->Qz (l.foldl (X.VG len) M)
 | [],M,I=>I
 | j::l,M,I=>Qz.lG l (I.VG len j)
def Nb(a):∀(l:List Int) (M:Ql),(l.foldl (VG a) M).T=M.T/\(l.foldl (VG a) M).A=M.A/\(l.foldl (VG a) M).KT=M.KT/\(l.foldl (VG a) M).lk=M.lk/\(l.foldl (VG a) M).Qd=M.Qd/\(l.foldl (VG a) M).acc=M.acc/\(l.foldl (VG a) M).Lv=M.Lv
 | [],M=>⟨rfl,rfl,rfl,rfl,rfl,rfl,rfl⟩
 | j::l,M=>Nb a l (VG a M j)
def Qi3{N}{j}{f}(a:∀n,(f n).c=n.c)(i){n:Nd}(h:Qj N i=some n):∃m,Qj (Wj N j f) i=some m/\m.c=n.c/\(m=n\/(i=j/\m=f n)):=by
 rw[jG (λn=>by rw[a])];by_cases e:i=j
 .rw[Qf e,h];exact⟨f n,rfl,a n,.inr ⟨e,rfl⟩⟩
 .rw[Qe e];exact⟨n,h,rfl,.inl rfl⟩
def uP(a):∀(l:List Int) (M:Ql) (i:Int) {n:Nd},Qj M.N i=some n->∃m,Qj (l.foldl (VG a) M).N i=some m/\m.c=n.c/\m.q=n.q/\m.du=n.du
 | [],M,i,n,h=>⟨n,h,rfl,rfl,rfl⟩
 | j::l,M,i,n,h=>by
  obtain⟨m,p,o,b⟩:=Qi3 (f:=EC a) (j:=j) (λ_=>rfl) i h;obtain⟨c,k,g,e,d⟩:=uP a l (VG a M j) i p;refine⟨c,k,g.trans o,?_,?_⟩
  .rw[e];rcases b with rfl|⟨_,rfl⟩<;>rfl
  .rw[d];rcases b with rfl|⟨_,rfl⟩<;>rfl
def Ws(M:Ql)(a:Int):Ql:={ M with N:=Wj M.N a λn=>{ n with q:=Kv (Qv M a).q } }
def Qz.Ws{M}(I:Qz M)(a:Int):Qz (Ws M a):=I.Wj a (λn=>{ n with q:=Kv (Qv M a).q }) λ_=>rfl
def Qz.Wr{M:Ql}(I:Qz M){a}{n}(c:Qj M.N a=Option.some n)(b)(r):Qz (Wr M a b r):=by
 unfold X.Wr;split
 .refine(I.Wj a (λn=>{ n with du:=qJ (Qv M a) b r }) λ_=>rfl).lv λx hx=>?_;have d:x.ki=a\/x∈M.Lv:=by
   split at hx
   .exact uC (JI.1 hx).1
   .exact uC hx
  rcases d with h|h
  .rw[h];show (QC M.T a).isSome=true;rw[I.some c];rfl
  .exact I.BH x h
 .exact I
def Rf(M:Ql)(a)(b)(r:Bool):(Wr M a b r).T=M.T/\(Wr M a b r).A=M.A/\(Wr M a b r).KT=M.KT/\(Wr M a b r).lk=M.lk/\(Wr M a b r).Qd=M.Qd/\(Wr M a b r).acc=M.acc:=by
 unfold Wr;split<;>exact⟨rfl,rfl,rfl,rfl,rfl,rfl⟩
def QyW(M:Ql)(a)(b)(r:Bool)(i){n:Nd}(h:Qj M.N i=some n):∃m,Qj (Wr M a b r).N i=some m/\m.c=n.c/\m.q=n.q:=by
 unfold Wr;split
 .obtain⟨m,e,d,c⟩:=Qi3 (f:=λn=>{ n with du:=qJ (Qv M a) b r }) (j:=a) (λ_=>rfl) i h;exact⟨m,e,d,by rcases c with rfl|⟨_,rfl⟩<;>rfl⟩
 .exact⟨n,h,rfl,rfl⟩
def Vj(M:Ql)(a:Nat)(o:Option It):Option (Int × Bool):=match o with
 | some x=>some (x.ki,true)
 | none=>(BJ M a 17 0).map λid=>(id,false)
def XU(M:Ql)(a:Int)(r:Bool):Ql:=
 let b:=((Qv M a).q.l.headD default).len;let c:=Wr ((up M.T a).foldl (VG b.toNat) (Ws M a)) a b r;let d:=if (Kv (Qv M a).q).l=[] then XT c a else c
 Wq d (up M.T a)
@[go_sem] def zw(a:Int)(x:Pk)(r:Bool):List D:=[Qb a,.raw (.int .u64 x.iD),.raw (.int .i64 x.len),.raw (.int .u16 x.xZ),.raw (.int .u16 x.x5),.raw (.int .u16 x.x6),.raw (.int .u16 x.x7),QZ r]
@[go_sem] def vZ:Ob:=⟨.one,0,8,1,λ_=>zw 0 default false⟩
@[go_sem] def zx(x:Pk):Ob:=⟨.one,0,6,1,λ_=>x.cells⟩
def xp(M:Ql)(a:Nat):(ZA M a).N=M.N/\(ZA M a).T=M.T/\(ZA M a).A=M.A:=by unfold ZA;split<;>exact⟨rfl,rfl,rfl⟩
def As{M}(I:Qz M)(a):Qz (ZA M a):=by
 unfold ZA;split
 .rename_i h;unfold xn at h;simp only[jl,Ds,Fb]at h;exact⟨I.tree,I.vW,I.to,I.nodes,I.XS,I.ks,I.BH,I.vX,I.vY,by show a<=_;omega,I.acc⟩
 .exact I
structure U5 (own:Nat->Tag) (h:List Ob) (p:Nat) (L:Loc) (M:Ql) (id:Int) (r:Bool) (lb:Nat) (x:Pk) (U:List Int) (k:Nat) (s:St):Prop where
 ex:∃own' H,ZL own' H p L ((U.take k).foldl (VG x.len.toNat) M)/\ZE own h own' H/\own' h.length=.no/\H[h.length]? = some vZ/\own' lb=.no/\H[lb]? = some (zx x) /\
  s=⟨[(0,.ptr p 0 0 0),(4,.ptr h.length 0 0 0),(6,Qb id),(7,QZ r),(9,.ptr (L.le id) 0 0 0),(10,.ptr lb 0 0 0),(53,ints U),(54,Qb U.length),(55,Qb k)],H⟩
def U5.of{own}{h:List Ob}{p}{L}{M}{c}{r}{b}{x:Pk}{U:List Int}{k:Nat}{a}{H:List Ob}(C:ZL a H p L ((U.take k).foldl (VG x.len.toNat) M))(D:ZE own h a H)(g:a h.length=.no)(f:H[h.length]? = some vZ)(e:a b=.no)(d:H[b]? = some (zx x)):
  U5 own h p L M c r b x U k ⟨[(0,.ptr p 0 0 0),(4,.ptr h.length 0 0 0),(6,Qb c),(7,QZ r),(9,.ptr (L.le c) 0 0 0),(10,.ptr b 0 0 0),(53,ints U),(54,Qb U.length),(55,Qb k)],H⟩:=⟨⟨a,H,C,D,g,f,e,d,rfl⟩⟩
def U6(M:Ql)(a:Nat)(d:D)(b:Ql):Prop:=
 (xn M a=false/\d=.tup [.agg (zw 0 default false),QZ false]/\b=M) \/
 (xn M a=true/\∃o,yx (ZA M a) a o/\match Vj (ZA M a) a o with
  | none=>d=.tup [.agg (zw 0 default false),QZ false]/\b=ZA M a
  | some (id,r)=>d=.tup [.agg (zw id ((Qv M id).q.l.headD default) r),QZ true]/\b=XU (ZA M a) id r)
def QyX{g}{h}{p}{L}{M}(C:ZL g h p L M)(I:Qz M)(a)
  (uQ:∀o id r,yx (ZA M a) a o->Vj (ZA M a) a o=some (id,r)->∃n,Qj M.N id=some n/\n.c.leaf=true/\n.q.l≠[]/\(1<QS n.c.ls->id∈M.A)) :
  QI prog 126 h [.ptr p 0 0 0,u64 a] (λd h'=>∃b P,ZL b h' p L P/\Qz P/\ZE g h b h'/\U6 M a d P):=by
 have ho:=C.ob;have C0:=C.PZ [vZ];have D0:=ZE.app g h [vZ] .no;have Al:QY g h .no h.length=.no:=by unfold QY;rw[Qf (Qs _)]
 have ZF:(h++[vZ])[h.length]? = some vZ:=by rw[Vq rfl];rfl
 refine Q3 func126 ntmps126 results126 λe2 w pl c=>?_;have Qg:=Qc ho;simp only[go_sem,Qa,ho,Qg,Go.undef];refine JO c QfD (QiP C0 a) λd W E=>?_;obtain⟨rfl,R,D1⟩:=E;have I1:=As I a;obtain⟨t1,t2,t3⟩:=xp M a;have Au:=D0.trans D1;have KF:W[h.length]? = some vZ:=(D1.keep h.length σ Al).trans ZF;have kU:=Qc KF;obtain⟨JF,Nf⟩:∃o,o=QY g h .no:=⟨_,rfl⟩;have jt:∀o,(W.set h.length o)[h.length]? = some o:=λo=>Qy kU;rw[<- Nf]at Au R Al;apply Qh c;cases ht:xn M a with
 | false=>
  simp only[go_sem,Qa,ht,Go.undef,KF,kU,jt];have hM:ZA M a=M:=by unfold ZA;rw[ht];rfl
  rw[hM]at R;exact⟨JF,M,R.loc Al _,I,Au.Ey (Qs _) _,.inl ⟨ht,rfl,rfl⟩⟩
 | true=>
  simp only[go_sem,Qa,ht,Go.undef,KF,kU];refine rH c Qte (QyS R I1 a) λd E=>?_;obtain⟨o,uR,rfl⟩:=E;apply Qh c;have uS:Vj (ZA M a) a o=none->∃b P,ZL b (W.set h.length vZ) p L P/\Qz P/\ZE g h b (W.set h.length vZ)/\U6 M a (.tup [.agg (zw 0 default false),QZ false]) P:=λhp=>
   ⟨JF,ZA M a,R.loc Al _,I1,Au.Ey (Qs _) _,.inr ⟨ht,o,uR,by rw[hp];exact⟨rfl,rfl⟩⟩⟩
  have Av:∀id r b H,Vj (ZA M a) a o=some (id,r)->ZL b H p L (XU (ZA M a) id r)->Qz (XU (ZA M a) id r)->ZE g h b H->U6 M a (.tup [.agg (zw id ((Qv M id).q.l.headD default) r),QZ true]) (XU (ZA M a) id r):=λid r b H hp _ _ _=>
   .inr ⟨ht,o,uR,by rw[hp];exact⟨rfl,rfl⟩⟩
  obtain⟨id,r,Zg,hp⟩|hp:(∃id r,Re (ZA M a) a o=.tup [Qb id,QZ r,QZ true]/\Vj (ZA M a) a o=some (id,r))\/(Re (ZA M a) a o=.tup [Qb 0,QZ false,QZ false]/\Vj (ZA M a) a o=none):=by
   cases o with
   | some x=>exact .inl ⟨x.ki,true,rfl,rfl⟩
   | none=>
    unfold Re Qi1 Vj;dsimp only;cases BJ (ZA M a) a 17 0 with
    | none=>exact .inr ⟨rfl,rfl⟩
    | some i=>exact .inl ⟨i,false,rfl,rfl⟩
  case inr=>
   obtain⟨hd,hp⟩:=hp;rw[hd];simp only[go_sem,Qa,KF,kU,jt];exact uS hp
  rw[Zg];obtain⟨n,hn,hl,hq,Vp⟩:=uQ o id r uR hp;have KS:Qj (ZA M a).N id=some n:=by rw[t1];exact hn
  have Jh:Qv M id=n:=by unfold Qv;rw[hn];rfl
  have uT:Qv (ZA M a) id=n:=by unfold Qv;rw[KS];rfl
  obtain⟨x,q,Rg⟩:∃x q,n.q.l=x::q:=by
   cases vT:n.q.l with
   | nil=>exact absurd vT hq
   | cons x q=>exact⟨x,q,rfl⟩
  have Xn:=R.look KS;have ZI:=R.ob;have K9:=Qc ZI;have jv:=R.VV;have lH:=Qc jv;have Dd:=(R.JH id n KS).1;have P7:=Qc Dd;obtain⟨kq,MX,hQ⟩:=R.XB id n KS hl;have P5:=Qz.id hn;have Gm:qD L.lq n=.ptr (L.lq id) 0 0 0:=by unfold qD;rw[Qf hl,P5]
  rw[Gm]at Dd;simp only[go_sem,Qa,ZI,K9,jv,lH,Xn,Dd,P7];refine JO c Qtf (Qws hQ Rg) λd u E=>?_;obtain⟨rfl,Q2,s2⟩:=E;have C2:=R.zn KS hl MX Q2 s2;have uU:{ ZA M a with N:=Wj (ZA M a).N id λm=>{ m with q:=Kv n.q } }=Ws (ZA M a) id:=by unfold Ws;rw[uT]
  rw[uU]at C2;have D2:=Au.trans (ZE.of (t:=.zn id) σ s2);have ZW:u[h.length]? = some vZ:=(s2.keep h.length kU (by rw[Al];simp)).trans KF;have KM:QY JF W (.zn id) h.length=.no:=by rw[Kz kU];exact Al
  have J7:=s2.len;have C3:=C2.PZ [zx x];have D3:=D2.trans (ZE.app _ u [zx x] .no);have zq:(u++[zx x])[h.length]? = some vZ:=(QJ (Qc ZW)).trans ZW;have Bv:QY (QY JF W (.zn id)) u .no h.length=.no:=by rw[Kz (Qc ZW)];exact KM
  have MH:(u++[zx x])[u.length]? = some (zx x):=by rw[Vq rfl];rfl
  have Ng:QY (QY JF W (.zn id)) u .no u.length=.no:=by unfold QY;rw[Qf (Qs _)]
  have I3:=I1.Ws id;have XD:=C3.ob;have jH:=Qc XD;generalize uV:u++[zx x]=H3 at C3 D3 zq MH XD jH;generalize QY (QY JF W (.zn id)) u .no=BL at C3 D3 Bv Ng;apply QM c;have uW:u++[(⟨.one,0,6,1,λ_=>[.raw (.int .u64 x.iD),.raw (.int .i64 x.len),.raw (.int .u16 x.xZ),.raw (.int .u16 x.x5),.raw (.int .u16 x.x6),.raw (.int .u16 x.x7)]⟩:Ob)]=H3:=uV;simp only[uW];simp only[go_sem,Qa,XD,jH];apply JD c fT (sA C3.tr.toR I3.tree.toTreeInv id);apply Qh c;simp only[go_sem,Qa,XD,jH];obtain⟨U,hU⟩:∃U,U=up M.T id:=⟨_,rfl⟩;have b7:J3 (Ws (ZA M a) id).T 16 id=U:=by rw[hU];show up (ZA M a).T id=_;rw[t2]
  rw[b7];have iY:U.length<=16:=by rw[hU];exact CM
  obtain⟨F,jc⟩:∃F,F=Ws (ZA M a) id:=⟨_,rfl⟩;have b3:F.T=M.T:=by rw[jc];exact t2
  have c5:F.A=M.A:=by rw[jc];exact t3
  rw[<- jc]at C3 I3;have VJ:PD x:=by
   obtain⟨r2,Q⟩:=hQ;exact Q.lens x (by rw[Rg];simp)
  have ex:IntKind.u64.wrap x.len=((x.len.toNat:Nat):Int):=ML (by have:=VJ.1;omega) (by have:=VJ.2;omega);obtain⟨n3,e1,b2,e0⟩:∃m,Qj F.N id=some m/\m.c=n.c/\m.q=Kv n.q:=by
   rw[jc];unfold Ws;rw[uT];refine⟨{ n with q:=Kv n.q },?_,rfl,rfl⟩;rw[jG (f:=λm=>{ m with q:=Kv n.q }) (λ_=>rfl),Qf rfl,KS];rfl
  refine Js (U5 g h p L F id r u.length x U) U.length QQ (U5.of (k:=0) C3 D3 Bv zq Ng MH) ?_;rintro k _ hk ⟨Ar,H5,B,D5,lI,Ex,lJ,Rh,rfl⟩;have lz:=Qc Ex;have lK:=Qc Rh;have I5:=Qz.lG (len:=x.len.toNat) (U.take k) I3;obtain⟨kT,kA,kK,e4,kc,ka,kL⟩:=Nb x.len.toNat (U.take k) F;by_cases Qr:k<U.length;case pos=>
   have dk:=Q1 Qr;obtain⟨j,hj⟩:∃j,j=U.getD k 0:=⟨_,rfl⟩;have Gp:j∈up M.T id:=by rw[hj,<- hU];exact zR U 0 k Qr
   have JE:(U.take (k+1)).foldl (VG x.len.toNat) F=VG x.len.toNat ((U.take k).foldl (VG x.len.toNat) F) j:=by
    rw[getD_take U 0 k Qr,jY,<- hj];rfl
   obtain⟨S,Rb⟩:∃S,S=(U.take k).foldl (VG x.len.toNat) F:=⟨_,rfl⟩;rw[<- Rb]at B I5 kT JE;obtain⟨y,hy⟩:∃y,Qj S.N j=some y:=by
    have YN:=HJ Gp;rw[<- b3,<- kT,I5.find]at YN;cases hq:Qj S.N j with
    | none=>rw[hq]at YN;cases YN
    | some y=>exact⟨y,rfl⟩
   have Aq:=B.qH j y hy;have lu:=B.look hy;have EB:=B.ob;have Rc:=Qc EB;have U7:=B.VV;have lL:=Qc U7;have Na:=(B.JH j y hy).1;have T:=Qc Na;have Gq:=(B.JH j y hy).2;have Zs:=Vl (show k<4611686018427387904 from ω);have nb:L.le j≠h.length:=λe=>by rw[e,lI]at Gq;cases Gq
   have nx:L.le j≠u.length:=λe=>by rw[e,lJ]at Gq;cases Gq
   have O:∀s,(H5.set (L.le j) ⟨.one,0,60,1,λ_=>K8 (qD L.lq y) s⟩)[L.le j]? = some ⟨.one,0,60,1,λ_=>K8 (qD L.lq y) s⟩:=λs=>Qy T;have HV:∀s,(H5.set (L.le j) s)[u.length]? = some (zx x):=λs=>(Qm nx).trans Rh;apply Qh c;simp only[go_sem,Qa,dk,Qr,<- hj,EB,Rc,U7,lL,lu];apply QB c o07;simp only[go_sem,Qa,Na,T,Rh,lK,ex,MM];have b9:=QwB y.sh Aq.sh (V5 (y.Zw+x.len.toNat)) (MK _);have ED:=tB y.cp Aq.cp (V5 (y.Zw+x.len.toNat)) (MK _);apply QB c o02;simp only[go_sem,Qa,O,T];refine KJ c Qtg ?_ b9 ?_
   .simp only[go_sem,Qa,O,T]
   apply Zd c;simp only[go_sem,Qa,O,T];apply QB c o02;simp only[go_sem,Qa,O,T];refine KJ c pZ ?_ ED ?_
   .simp only[go_sem,Qa,O,T]
   apply Zd c;simp only[go_sem,Qa,O,T];have C6:=B.x9 hy (EC x.len.toNat) (λ_=>rfl) (λ_=>rfl) (Qi2 Aq _);have D6:=ZE.set (own:=Ar) (h:=H5) (qc (qD L.lq y) (EC x.len.toNat y)) (l:=L.le j) (by rw[Gq];simp);refine⟨Qr,_,QH.frame (by simp only[go_sem,Zs]),U5.of (by rw[JE];exact C6) (D5.trans D6) lI (by rw[Qm nb];exact Ex) lJ (by rw[Qm nx];exact Rh)⟩
  have Jt:k=U.length:=ω;have dk:=QU Qr;rw[Jt,YH]at B I5 kT kA;obtain⟨S,Rb⟩:∃S,S=U.foldl (VG x.len.toNat) F:=⟨_,rfl⟩;obtain⟨n5,Ri,b1,c9,_⟩:=uP x.len.toNat U F id e1;rw[<- Rb]at B I5 kT kA Ri;have a4:n5.c.leaf=true:=by rw[b1,b2];exact hl
  have lu:=B.look Ri;have EB:=B.ob;have Rc:=Qc EB;have Na:=(B.JH id n5 Ri).1;have T:=Qc Na;apply Qh c;simp only[go_sem,Qa,dk];apply Qh c;simp only[go_sem,Qa,Rh,lK];refine JO c Qth (QyG B I5 Ri a4 x.len (by have:=VJ.1;omega) (by have:=VJ.2;omega) r) λd H6 E=>?_;obtain⟨b0,C6,D6⟩:=E;have I6:=I5.Wr Ri x.len r;obtain⟨a0,a1,_⟩:=Rf S id x.len r;obtain⟨V,U8,a9,c8⟩:=QyW S id x.len r id Ri;obtain⟨Y,a7⟩:∃Y,Y=Wr S id x.len r:=⟨_,rfl⟩;rw[<- a7]at C6 I6 a0 a1 U8;have Ai:H6[h.length]? = some vZ:=(D6.keep _ lz lI).trans Ex;have lM:b0 h.length=.no:=(D6.same _ lz).trans lI;have HV:H6[u.length]? = some (zx x):=(D6.keep _ lK lJ).trans Rh;have uX:b0 u.length=.no:=(D6.same _ lK).trans lJ;have lN:=Qc Ai;have Px:=Qc HV;have b4:=D5.trans D6;have CU:V.c.leaf=true:=by rw[a9];exact a4
  have b6:V.q=Kv n.q:=by rw[c8,c9,e0]
  have a5:V.c=n.c:=by rw[a9,b1,b2]
  have vR:=C6.ob;have zg:=Qc vR;have O:=(C6.JH id V U8).1;have uY:=Qc O;have c7:qD L.lq V=.ptr (L.lq id) 0 0 0:=by unfold qD;rw[Qf CU,a5,P5]
  rw[c7]at O;obtain⟨e3,e5,c0⟩:=C6.XB id V U8 CU;have Nh:V.q.l.length=q.length:=by rw[b6];unfold Kv;rw[Rg];rfl
  have Wh:QC Y.T id=some V.c:=I6.some U8;have qZ:XU (ZA M a) id r=Wq (if (Kv n.q).l=[] then XT Y id else Y) (up (ZA M a).T id):=by
   unfold XU;simp only[uT,Rg,List.headD_cons];rw[show up (ZA M a).T id=U by rw[t2];exact hU.symm,<- jc,<- Rb,<- a7]
  have uZ:Y.T=M.T:=by rw[a0,kT,b3]
  have c1:Y.A=M.A:=by rw[a1,kA,c5]
  apply Qh c;simp only[go_sem,Qa,vR,zg,O,uY];refine Xg c OY ?_ (PG c0.toR) ?_
  .simp only[go_sem,Qa,vR,zg,O,uY,Nh]
  apply Qh c;simp only[go_sem,Qa,vR,zg,O,uY,Nh];have gT:∀K v,ZL K v p L (XU (ZA M a) id r)->Qz (XU (ZA M a) id r)->ZE g h K v->v[h.length]? = some vZ->K h.length=.no ->
    ∃b P,ZL b (v.set h.length ⟨.one,0,8,1,λ_=>zw id x r⟩) p L P/\Qz P/\ZE g h b (v.set h.length ⟨.one,0,8,1,λ_=>zw id x r⟩)/\U6 M a (.tup [.agg (zw id x r),QZ true]) P:=λK v C8 I8 J Z U9=>
   ⟨K,_,C8.loc U9 _,I8,J.Ey (Qs _) _,by
    have:=Av id r K v hp C8 I8 J;rwa [Jh,Rg,List.headD_cons]at this⟩
  have b5:(Kv n.q).l=q:=by unfold Kv;rw[Rg];rfl
  rw[b5]at qZ;cases lO:q with
  | cons z q2=>
   have dz:(((q2.length+1:Nat):Int)==0)=false:=XM ω;rw[lO,Qe σ]at qZ;have JB:=uz C6 I6 id;rw[uZ,<- t2,<- qZ]at JB;simp only[go_sem,Qa,lO,dz];refine JO c pY JB λd v E=>?_;obtain⟨K,C8,I8,J⟩:=E;have Z:v[h.length]? = some vZ:=(J.keep _ lN lM).trans Ai;have af:v[u.length]? = some (zx x):=(J.keep _ Px uX).trans HV;have U9:K h.length=.no:=(J.same _ lN).trans lM;have ag:=Qc Z;have u0:=Qc af;have u6:∀o,(v.set h.length o)[h.length]? = some o:=λo=>Qy ag;apply Qh c;simp only[go_sem,Qa,Z,ag,af,u0,u6];exact gT K v C8 I8 (b4.trans J) Z U9
  | nil=>
   rw[lO,Qf rfl]at qZ;simp only[go_sem,Qa,lO];refine JO c Qti (QyO C6 I6 U8 CU (by rw[a5,c1];exact Vp) (QyV I6.tree Wh CU _)) λd H7 E=>?_;obtain⟨jJ,C7,I7,D7⟩:=E;have a6:H7[h.length]? = some vZ:=(D7.keep _ lN lM).trans Ai;have a2:H7[u.length]? = some (zx x):=(D7.keep _ Px uX).trans HV;have a3:jJ h.length=.no:=(D7.same _ lN).trans lM;have c4:jJ u.length=.no:=(D7.same _ Px).trans uX;have a8:=Qc a6;have c3:=Qc a2;have JB:=uz C7 I7 id;have b8:(XT Y id).T=M.T:=by
    unfold XT;split
    .rw[(Is _ _).1];exact uZ
    .exact uZ
   rw[b8,<- t2,<- qZ]at JB;apply QM c;refine JO c pY JB λd v E=>?_;obtain⟨K,C8,I8,J⟩:=E;have Z:v[h.length]? = some vZ:=(J.keep _ a8 a3).trans a6;have af:v[u.length]? = some (zx x):=(J.keep _ c3 c4).trans a2;have U9:K h.length=.no:=(J.same _ a8).trans a3;have ag:=Qc Z;have u0:=Qc af;have u6:∀o,(v.set h.length o)[h.length]? = some o:=λo=>Qy ag;apply Qh c;simp only[go_sem,Qa,Z,ag,af,u0,u6];exact gT K v C8 I8 ((b4.trans D7).trans J) Z U9
structure Xp (c:Cf):Prop where
 t1:1<=c.t
 t2:c.t<=65536
 l1:1<=c.ZJ
 l2:c.ZJ<=16384
def KW(M:Ql)(a:Int)(x:Pk):Ql:={ M with N:=Wj M.N a λm=>{ m with q:=X2 (Qv M a).c.Z4 (Qv M a).c.bytes (Qv M a).q x } }
def jK(M:Ql)(a:Nat):Ql:={ M with acc:=a }
def VH(M:Ql)(a:Int)(x:Pk):Int:=
 match Qj M.N a with
 | none=>23
 | some n=>if n.c.leaf=false then 29 else if x.len<1\/M.lk.ZJ<x.len then 26 else if 1099511627776<M.acc+x.len.toNat then 28
  else if vQ n.c.Z4 n.c.bytes n.q x=true then 30 else 0
def Vx(M:Ql)(b:Nat)(a:Int)(x:Pk):Ql:=
 if VH M a x=30 then KW M a x
 else if VH M a x=0 then (if (Qv M a).q.l=[] then qf (jK (KW M a x) (M.acc+x.len.toNat)) b a x.len else jK (KW M a x) (M.acc+x.len.toNat))
 else M
def Qz.KW{M}(I:Qz M)(a:Int)(x):Qz (KW M a x):=I.Wj a (λm=>{ m with q:=X2 (Qv M a).c.Z4 (Qv M a).c.bytes (Qv M a).q x }) λ_=>rfl
def Qz.jK{M}(I:Qz M){a}(h:a<=1099511627776):Qz (jK M a):=⟨I.tree,I.vW,I.to,I.nodes,I.XS,I.ks,I.BH,I.vX,I.vY,I.Qd,h⟩
def Qjj(M:Ql)(a:Nat):(ZA M a).lk=M.lk/\(ZA M a).acc=M.acc:=by unfold ZA;split<;>exact⟨rfl,rfl⟩
def Yp(M:Ql)(a:Nat)(b:Int)(x:Pk):Int:=if xn M a=true then VH (ZA M a) b x else 27
def Zr(M:Ql)(a:Nat)(b:Int)(x:Pk):Ql:=if xn M a=true then Vx (ZA M a) a b x else M
def Qzd{v}{h}{p}{L}{M:Ql}(C:ZL v h p L M)(I:Qz M)(K:Xp M.lk)(i)(WC:i<18446744073709551616)(c)(x)
  (hA:∀n,Qj M.N c=some n->n.c.leaf=true->n.q.l=[]->c ∉ M.A) :
  QI prog 81 h [.ptr p 0 0 0,u64 i,Qb c,.agg x.cells] (λd h'=>∃j z,ZL j h' p L z/\Qz z/\ZE v h j h' /\
   d=Qb (Yp M i c x)/\z=Zr M i c x):=by
 have ho:=C.ob;have C0:=C.PZ [zx x];have D0:=ZE.app v h [zx x] .no;have Al:QY v h .no h.length=.no:=by unfold QY;rw[Qf (Qs _)]
 have ZF:(h++[zx x])[h.length]? = some (zx x):=by rw[Vq rfl];rfl
 refine Q3 func81 ntmps81 results81 λa7 w pl k=>?_;have Qg:=Qc ho;simp only[go_sem,Qa,ho,Qg];refine JO k QfD (QiP C0 i) λd F hR=>?_;obtain⟨rfl,s,D1⟩:=hR;have Q:=As I i;obtain⟨t1,t2,t3⟩:=xp M i;obtain⟨t4,t5⟩:=Qjj M i;have Y:=D0.trans D1;have P:F[h.length]? = some (zx x):=(D1.keep h.length σ Al).trans ZF;have J:=Qc P;obtain⟨W,Nf⟩:∃o,o=QY v h .no:=⟨_,rfl⟩;rw[<- Nf]at Y s Al;have O:=s.ob;have V:=Qc O;have jv:=s.VV;have lH:=Qc jv;apply Qh k;cases U:xn M i with
 | false=>
  have hM:ZA M i=M:=by unfold ZA;rw[U];rfl
  rw[hM]at s;simp only[go_sem,Qa,U];exact⟨W,M,s,I,Y,by rw[show Yp M i c x=27 from Qe (by rw[U];exact k9)],(Qe (by rw[U];exact k9)).symm⟩
 | true=>
  have R:∀j H z,ZL j H p L z->Qz z->ZE v h j H->z=Vx (ZA M i) i c x->∀e,VH (ZA M i) c x=e->∃j z,ZL j H p L z/\Qz z/\ZE v h j H/\Qb e=Qb (Yp M i c x)/\z=Zr M i c x:=
   λj H z F S h3 h4 e he=>⟨j,z,F,S,h3,by rw[<- he];unfold Yp;rw[Qf U],by unfold Zr;rw[Qf U];exact h4⟩
  obtain⟨g,a1⟩:∃g,g=ZA M i:=⟨_,rfl⟩;rw[<- a1]at s Q t1 t2 t3 t4 t5 R O;cases u:Qj g.N c with
  | none=>
   have hk:=s.qd.at_ c;rw[u,qU]at hk;have r:VH g c x=23:=by unfold VH;rw[u]
   have E:Vx g i c x=g:=by unfold Vx;rw[r];rfl
   simp only[go_sem,Qa,U,O,V,jv,lH,hk];exact R W F g s Q Y E.symm 23 r
  | some n=>
   have hk:=s.look u;have Dd:=(s.JH c n u).1;have P7:=Qc Dd;have P5:=Qz.id u;simp only[go_sem,Qa,U,O,V,jv,lH,hk,Dd,P7];cases B:n.c.leaf with
   | false=>
    have r:VH g c x=29:=by unfold VH;rw[u];simp[B]
    have E:Vx g i c x=g:=by unfold Vx;rw[r];rfl
    simp only[go_sem,Qa];exact R W F g s Q Y E.symm 29 r
   | true=>
    have lP:=P;have jt:∀o,(F.set h.length o)[h.length]? = some o:=λo=>Qy J;obtain⟨T,MX,hQ⟩:=s.XB c n u B;have Gm:qD L.lq n=.ptr (L.lq c) 0 0 0:=by unfold qD;rw[Qf B,P5]
    rw[Gm]at Dd;have Jh:Qv g c=n:=by unfold Qv;rw[u];rfl
    have K1:Xp g.lk:=by rw[t4];exact K
    have ZO:=K1.l1;have J7:=K1.l2;have a9:=Q.acc;have fE:(x.len<1\/g.lk.ZJ<x.len)->VH g c x=26:=λh=>by unfold VH;rw[u];simp only[B];rw[Qe σ,Qf h]
    have fP:(x.len<1\/g.lk.ZJ<x.len)->Vx g i c x=g:=λh=>by unfold Vx;rw[fE h];rfl
    cases d1:decide (x.len<1) with
    | true=>
     have:=X9 d1;simp only[go_sem,Qa];apply QB k o06;simp only[go_sem,Qa,P,J,O,V,d1];exact R W F g s Q Y (fP (.inl this)).symm 26 (fE (.inl this))
    | false=>
     have x1:1<=x.len:=by have:=yL d1;omega
     cases d2:decide (g.lk.ZJ<x.len) with
     | true=>
      have:=X9 d2;simp only[go_sem,Qa];apply QB k o06;simp only[go_sem,Qa,P,J,O,V,d1,d2];exact R W F g s Q Y (fP (.inr this)).symm 26 (fE (.inr this))
     | false=>
      have x2:x.len<=g.lk.ZJ:=by have:=yL d2;omega
      have hx:PD x:=⟨x1,ω⟩;have TG:(x.len.toNat:Int)=x.len:=EW ω;obtain⟨a,ha⟩:∃a,a=x.len.toNat:=⟨_,rfl⟩;rw[<- ha]at TG;have ex:IntKind.u64.wrap x.len=(a:Int):=by rw[ha];exact ML ω ω
      have ew:IntKind.u64.wrap ((g.acc:Int)+(a:Int))=((g.acc+a:Nat):Int):=by rw[ML ω ω];omega
      have ge:¬ (x.len<1\/g.lk.ZJ<x.len):=ω;cases d3:decide ((1099511627776:Int)<((g.acc+a:Nat):Int)) with
      | true=>
       have a2:=X9 d3;have r:VH g c x=28:=by unfold VH;rw[u];simp only[B];rw[Qe σ,Qe ge,Qf (by rw[<- ha];omega)]
       have E:Vx g i c x=g:=by unfold Vx;rw[r];rfl
       simp only[go_sem,Qa];apply QB k o06;simp only[go_sem,Qa,P,J,O,V,d1,d2];apply QB k o00;simp only[go_sem,Qa,P,J,O,V,ex,ew,d3];exact R W F g s Q Y E.symm 28 r
      | false=>
       have a2:=yL d3;simp only[go_sem,Qa];apply QB k o06;simp only[go_sem,Qa,P,J,O,V,d1,d2];apply QB k o00;simp only[go_sem,Qa,P,J,O,V,ex,ew,d3];apply VD [5] k [0,1,2,3,4,1005,6] [];simp only[go_sem,Qa,P,J,Dd,P7];refine wV k QsQ (Qwr hQ x hx) λd S hR=>?_;obtain⟨rfl,Q2,s2⟩:=hR;have KM:QY W F (.zn c) h.length=.no:=by rw[Kz J];exact Al
       have ZW:S[h.length]? = some (zx x):=(s2.keep h.length J (by rw[Al];simp)).trans P;have v8:=Qc ZW;have Z:=s.zn u B MX Q2 s2;have D2:=Y.trans (ZE.of (t:=.zn c) σ s2);have uU:{ g with N:=Wj g.N c λm=>{ m with q:=X2 T n.c.bytes n.q x } }=KW g c x:=by unfold KW;rw[Jh,MX]
       rw[uU]at Z;have I2:=Q.KW c x;have vJ:∀b,vQ T n.c.bytes n.q x=b->VH g c x=if b=true then 30 else 0:=λb k=>by
        unfold VH;rw[u];simp only[B];rw[Qe σ,Qe ge,Qe (by rw[<- ha];omega),MX,k]
       generalize QY W F (.zn c)=J9 at Z D2 KM;apply Zd k;cases u7:vQ T n.c.bytes n.q x with
       | true=>
        have r:VH g c x=30:=vJ _ u7;have E:Vx g i c x=KW g c x:=by unfold Vx;rw[r];rfl
        simp only[go_sem,Qa];exact R J9 S _ Z I2 D2 E.symm 30 r
       | false=>
        have r:VH g c x=0:=vJ _ u7;have Vg:=Z.ob;have ja:=Qc Vg;have a6:(KW g c x).acc=g.acc:=rfl;have a5:(KW g c x).lk=g.lk:=rfl;have a4:(KW g c x).Qd=g.Qd:=rfl;have C3:ZL J9 (S.set p (kR g.lk L.t L.b L.o L.v L.m g.Qd (g.acc+a))) p L (jK (KW g c x) (g.acc+a)):=Z.Qd g.Qd (g.acc+a);have I3:Qz (jK (KW g c x) (g.acc+a)):=I2.jK ω;have D3:=D2.trans (ZE.set (own:=J9) (h:=S) (l:=p) (kR g.lk L.t L.b L.o L.v L.m g.Qd (g.acc+a)) (by rw[Z.op];decide));have u9:p≠h.length:=λe=>by have:=Z.op;rw[e,KM]at this;cases this
        have zq:(S.set p (kR g.lk L.t L.b L.o L.v L.m g.Qd (g.acc+a)))[h.length]? = some (zx x):=(Qm u9).trans ZW;have De:=Qc zq;generalize uV:S.set p (kR g.lk L.t L.b L.o L.v L.m g.Qd (g.acc+a))=H3 at C3 D3 zq De;have uW:S.set p ⟨.one,0,9,1,λ_=>[.raw (.int .i64 g.lk.t),.raw (.int .i64 g.lk.ZJ),.ptr L.t 0 0 0,.mref L.b 0,.ptr L.o 0 0 0,.ptr L.v 0 0 0,.mref L.m 0,.raw (.int .u64 (g.Qd:Nat)),.raw (.int .u64 ((g.acc+a:Nat):Int))]⟩=H3:=uV;have Bv:Qj (jK (KW g c x) (g.acc+a)).N c=some { n with q:=X2 T n.c.bytes n.q x }:=by
         show Qj (KW g c x).N c=_;unfold KW;dsimp only;rw[Jh,MX,jG (f:=λm:Nd=>{ m with q:=X2 T n.c.bytes n.q x }) (λ_=>rfl) c,Qf rfl,u,KA]
        have yw:=(C3.JH c _ Bv).1;have a3:qD L.lq { n with q:=X2 T n.c.bytes n.q x }=.ptr (L.lq c) 0 0 0:=by unfold qD;rw[Qf B,P5]
        rw[a3]at yw;have xo:=Qc yw;obtain⟨a8,b0,a0⟩:=C3.XB c _ Bv B;simp only[go_sem,Qa];apply QB k o07;simp only[go_sem,Qa,ZW,v8,Vg,ja,ex,ew,a6,a5,a4,uW,yw,xo];have Zn:(X2 T n.c.bytes n.q x).l.length=n.q.l.length+1:=by unfold X2;rw[Qe (by rw[u7];exact k9)];simp
        have Nh:({ n with q:=X2 T n.c.bytes n.q x }:Nd).q.l.length=n.q.l.length+1:=Zn;have XD:=C3.ob;have jH:=Qc XD;refine Xg k OY ?_ (PG a0.toR) ?_
        .simp only[go_sem,Qa,zq,De,XD,jH,yw,xo,Zn]
        apply Qh k;simp only[go_sem,Qa,zq,De,XD,jH,yw,xo,Zn];cases hq:n.q.l with
        | cons y q=>
         have dz:(((q.length+1+1:Nat):Int)==1)=false:=XM ω;have E:Vx g i c x=jK (KW g c x) (g.acc+a):=by unfold Vx;rw[r,Jh,hq,<- ha];rfl
         simp only[go_sem,Qa,VQ,dz];exact R J9 H3 _ C3 I3 D3 E.symm 0 r
        | nil=>
         have dz:(((0+1:Nat):Int)==1)=true:=rfl;have Jf:JP (jK (KW g c x) (g.acc+a)) c=false:=by
          rw[jW];intro h9;have h8:=(lF Q.tree (Q.some u) B g.A).1 h9;rw[t3]at h8;exact hA n (by rw[<- t1];exact u) B hq h8
         have E:Vx g i c x=qf (jK (KW g c x) (g.acc+a)) i c x.len:=by unfold Vx;rw[r,Jh,hq,<- ha];rfl
         simp only[go_sem,Qa,List.length_nil,dz];simp only[go_sem,Qa,zq,De];refine JO k QsR (QyJ C3 I3 Bv B i WC x.len ω Jf) λd h4 hR=>?_;obtain⟨EE,C4,I4,D4⟩:=hR;apply QM k;exact R EE h4 _ C4 I4 (D3.trans D4) E.symm 0 r
@[go_sem] def lQ(c:Cf):Ob:=⟨.one,0,2,1,λ_=>c.cells⟩
def M0(c:Cf):Ql:=⟨c,[],[],[],[],[],λid=>decide (id=0),λ_=>[],0,0⟩
def lS(a:Nat->Tag)(b:Nat)(l:Nat):Tag:=
 if l<b then a l else if l<b+2 then .tree else if l<b+5 then .lv else if l<b+8 then .Yn 0 else if l=b+8 then .mk else if l=b+9 then .uu else if l=b+10 then .sc else .on
def Qzl(h:List Ob):Xf prog 59 h [] (λd g=>d=.ptr (h.length+1) 0 0 0/\g=[QR .i64 0 [],⟨.one,0,1,1,λ_=>[.mref h.length 0]⟩]):=
 QI.mono (Qwe (h.map Ob.ro)) λd c ⟨b,a⟩=>⟨_,a,by rw[b,KK],by rw[KK]⟩
def xq(b:Nat):List Ob:=[yj .nil,QR .i64 0 [],F4 b (b+1)]
def Qzm(h:List Ob):Xf prog 65 h [] (λd g=>d=.ptr (h.length+2) 0 0 0/\g=xq h.length):=by
 have:QI prog 65 (h.map Ob.ro) [] (λd b=>d=.ptr ((h.map Ob.ro).length+2) 0 0 0/\b=h.map Ob.ro++xq (h.map Ob.ro).length):=by
  generalize h.map Ob.ro=h;refine Q3 func65 ntmps65 results65 λc w j a=>?_;simp only[go_sem,Qa];refine DX a Qfz (Qhg h) λd h e=>?_;obtain⟨rfl,rfl⟩:=e;apply QM a;rfl
 exact QI.mono this λd b ⟨i,f⟩=>⟨_,f,by rw[i,KK],by rw[KK]⟩
def Qjk(h:List Ob):Xf prog 66 h [] (λd g=>d=.ptr (h.length+2) 0 0 0/\g=xq h.length):=by
 have:QI prog 66 (h.map Ob.ro) [] (λd b=>d=.ptr ((h.map Ob.ro).length+2) 0 0 0/\b=h.map Ob.ro++xq (h.map Ob.ro).length):=by
  generalize h.map Ob.ro=h;refine Q3 func66 ntmps66 results66 λc w j a=>?_;simp only[go_sem,Qa];refine DX a Qfz (Qhg h) λd h e=>?_;obtain⟨rfl,rfl⟩:=e;apply QM a;rfl
 exact QI.mono this λd b ⟨i,f⟩=>⟨_,f,by rw[i,KK],by rw[KK]⟩
def Qaa{H:List Ob}{S}{b}(g:H[b]? = some (yj .nil))(f:H[b+1]? = some (QR .i64 0 []))(e:H[b+2]? = some (F4 b (b+1)))(d:S b)(c:S (b+1))(a:S (b+2)):W0 S H (b+2) []:=
 ⟨b,b+1,.nil,0,[],e,⟨g,trivial,rfl,by simp[Tr.QP],by simp[Tr.QP],by simp[Vt]⟩,f,Yz.nil,σ,ω,ω,ω,by simp[Tr.QP],by simp[Tr.QP],a,d,c,by simp[Tr.QP]⟩
def Qjl:KU []:=⟨TreeInv.nil,σ,σ,σ,σ⟩
def Qjm(c):Qz (M0 c):=
 ⟨Qjl,λc b=>by simp[M0]at b,rfl,rfl,λa d=>by simp[M0]at d,λid=>by simp[M0,Qj],λx hx=>by simp[M0]at hx,λid x hx=>by simp[M0]at hx,λid x hx=>by simp[M0]at hx,by simp[M0],by simp[M0]⟩
def Qzn{own}{h}(c):
  QI prog 25 h [.agg c.cells] (λd y=>(Xp c/\∃q L p,d=.tup [.ptr p 0 0 0,Qb 0]/\ZL q y p L (M0 c)/\Qz (M0 c)/\ZE own h q y)\/(¬ Xp c/\d=.tup [.raw (.pointer none),Qb 1]/\∃g,y=h++g)):=by
 have ZF:∀g,(h++lQ c::g)[h.length]? = some (lQ c):=λg=>Vq rfl;by_cases K:Xp c
 .have d1:decide (c.t<1)=false:=QU (by have:=K.t1;omega);have d2:decide (65536<c.t)=false:=QU (by have:=K.t2;omega);have d3:decide (c.ZJ<1)=false:=QU (by have:=K.l1;omega);have d4:decide (16384<c.ZJ)=false:=QU (by have:=K.l2;omega);refine Q3 func25 ntmps25 results25 λf w x b=>?_;simp only[go_sem,Qa,Qa,d1,d2,d3,d4];apply QB b [0,1001,1003,1005,1004,1006,7,1002,8,1009,10];simp only[go_sem,Qa];refine Tt b Qst rfl ?_ (Qzl _) rfl λd h m=>?_
  .simp only[go_sem,Qa]
  obtain⟨rfl,rfl⟩:=m;apply Yx b;refine Tt b Qsu rfl ?_ (Qzm _) rfl λd h m=>?_
  .simp only[go_sem,Qa,xq]
  obtain⟨rfl,rfl⟩:=m;apply Zd b;simp only[go_sem,Qa,xq];refine Tt b Qfp rfl ?_ (Qjk _) rfl λd h m=>?_
  .simp only[go_sem,Qa,xq]
  obtain⟨rfl,rfl⟩:=m;apply Zd b;simp only[go_sem,Qa,xq];refine QwS CH b rfl rfl rfl rfl (Wm (k:=9) rfl) ?_;apply Yx b;obtain⟨cm,em,Ib,Xv⟩:=Vd.nil.set .i64 0 0 (.ptr (h.length+6+2) 0 0 0);obtain⟨G,a⟩:∃G:List Ob,G=[lQ c,QR .i64 0 [],⟨.one,0,1,1,λ_=>[.mref (h.length+1) 0]⟩,yj .nil,QR .i64 0 [],F4 (h.length+3) (h.length+3+1),yj .nil,QR .i64 0 [],F4 (h.length+6) (h.length+6+1),Ki .i64 0 [] 0 (.ptr (h.length+6+2) 0 0 0),QR .i64 0 [],⟨.one,0,9,1,λ_=>[Qb c.t,Qb c.ZJ,.ptr (h.length+1+1) 0 0 0,.mref (h.length+10) 0,.raw (.pointer none),.ptr (h.length+3+2) 0 0 0,.mref (h.length+9) 0,u64 0,u64 0]⟩]:=⟨_,rfl⟩;have PV:G.length=12:=by rw[a];rfl
  have z:∀k o,G[k]? = some o->(h++G)[h.length+k]? = some o:=λk o e=>by rw[Kw ω,bW];exact e
  have ht:=z 2 _ (by rw[a];rfl);have hm:=z 1 _ (by rw[a];rfl);have U:=z 11 _ (by rw[a];rfl);have Ix:=Qc U;have R:XR (h++G) (h.length+2) []:=WA.toR (S:=λ_=>True) ⟨h.length+1,0,[],ht,hm,VS.nil,trivial,trivial⟩;have V:=Qha R Qjl;rw[a]at V;refine VY b Qfq rfl ?_ V rfl λd y m=>?_
  .simp only[go_sem,Qa]
  rw[<- a]at m;obtain⟨rfl,hO,g,rfl⟩:=m;apply Qh b;have Y:((h++G)++g)[h.length+11]? = _:=(QJ Ix).trans U;have Z:=Qc Y;have a0:(h++G).length=h.length+12:=by rw[ZT,PV]
  simp only[go_sem,Y,Z];obtain⟨I,T⟩:∃o,o=QY own h .no:=⟨_,rfl⟩;obtain⟨t,s⟩:∃o,o=lS I (h.length+1):=⟨_,rfl⟩;have i:∀k,k<12->t (h.length+k)=if k<1 then .no else if k<3 then .tree else if k<6 then .lv else if k<9 then .Yn 0 else if k=9 then .mk else if k=10 then .uu else .sc:=λk v=>by
   rw[s];unfold lS;by_cases Q:k<1
   .rw[Qf ω,Qf Q,T];unfold QY;rw[Qf ω]
   .rw[Qe ω,Qe Q];by_cases P:k<3
    .rw[Qf ω,Qf P]
    .rw[Qe ω,Qe P];by_cases O:k<6
     .rw[Qf ω,Qf O]
     .rw[Qe ω,Qe O];by_cases N:k<9
      .rw[Qf ω,Qf N]
      .rw[Qe ω,Qe N];by_cases M:k=9
       .rw[Qf ω,Qf M]
       .rw[Qe ω,Qe M];by_cases J:k=10
        .rw[Qf ω,Qf J]
        .rw[Qe ω,Qe J,Qf ω]
  have C:∀l,h.length+12<=l->t l=.on:=λl u=>by
   rw[s];unfold lS;rw[Qe ω,Qe ω,Qe ω,Qe ω,Qe ω,Qe ω,Qe ω]
  have E:∀l,l<h.length->t l=own l:=λl u=>by
   rw[s];unfold lS;rw[Qf ω,T];exact Kz u
  generalize hS:(⟨.one,0,9,1,_⟩:Ob)=S0;have j:∀k o,k<11->G[k]? = some o->((h++G++g).set (h.length+11) S0)[h.length+k]? = some o:=λk o v e=>(Qm ω).trans ((QJ ω).trans (z k o e));have g1:=j 1 _ ω (by rw[a];rfl);have g2:=j 2 _ ω (by rw[a];rfl);have g3:=j 3 _ ω (by rw[a];rfl);have g4:=j 4 _ ω (by rw[a];rfl);have g5:=j 5 _ ω (by rw[a];rfl);have g6:=j 6 _ ω (by rw[a];rfl);have g7:=j 7 _ ω (by rw[a];rfl);have g8:=j 8 _ ω (by rw[a];rfl);have W:=j 9 _ ω (by rw[a];rfl);have H:=j 10 _ ω (by rw[a];rfl);have F:((h++G++g).set (h.length+11) S0)[h.length+11]? = some S0:=Qy Z;rw[Ib]at W;have B:∀id n,Qj (M0 c).N id=some n->False:=by intro id n r;cases r
  refine .inl ⟨K,t,⟨h.length+2,h.length+10,(h++G).length+3,h.length+5,h.length+9,0,cm,[],em,λ_=>0,λ_=>0,λ_=>h.length+8⟩,h.length+11,rfl,⟨?_,(i 11 ω).trans rfl,⟨h.length+1,0,[],g2,g1,VS.nil,(i 2 ω).trans rfl,(i 1 ω).trans rfl⟩,H,Vd.nil.to λk=>rfl,(i 10 ω).trans rfl,λid n r=>(B id n r).elim,λid n r=>(B id n r).elim,?_,Qaa (S:=λl=>t l=.lv) g3 g4 g5 ((i 3 ω).trans rfl) ((i 4 ω).trans rfl) ((i 5 ω).trans rfl),W,Xv.to λk=>?_,(i 9 ω).trans rfl,λid Zg=>?_,λid n r=>(B id n r).elim⟩,Qjm c,⟨E,?_,?_⟩⟩
  .rw[F,<- hS];rfl
  .exact hO.step λl u ho=>⟨C l ω,Qm ω⟩
  .by_cases v:k=0
   .subst v;rfl
   .show (if k=0 then _ else _)=if decide (k=0)=true then _ else _;rw[Qe v,Qe (by simpa using v)]
  .have:id=0:=by simpa[M0] using Zg
   subst this;exact Qaa (S:=λl=>t l=.Yn 0) g6 g7 g8 ((i 6 ω).trans rfl) ((i 7 ω).trans rfl) ((i 8 ω).trans rfl)
  .intro l u Jf;exact(Qm ω).trans ((QJ ω).trans (QJ u))
  .simp only[XG,ZT];omega
 .have a1:∀d,d=D.tup [.raw (.pointer none),Qb 1]->∃g,h++[lQ c]=h++g:=λ_ _=>⟨_,rfl⟩;cases d1:decide (c.t<1) with
  | true=>
   refine Q3 func25 ntmps25 results25 λf w x b=>?_;simp only[go_sem,Qa,Qa,d1];exact .inr ⟨K,_,rfl⟩
  | false=>
   cases d2:decide (65536<c.t) with
   | true=>
    refine Q3 func25 ntmps25 results25 λf w x b=>?_;simp only[go_sem,Qa,Qa,d1,d2];exact .inr ⟨K,_,rfl⟩
   | false=>
    cases d3:decide (c.ZJ<1) with
    | true=>
     refine Q3 func25 ntmps25 results25 λf w x b=>?_;simp only[go_sem,Qa,Qa,d1,d2,d3];exact .inr ⟨K,_,rfl⟩
    | false=>
     have d4:decide (16384<c.ZJ)=true:=by
      have e1:=yL d1;have e2:=yL d2;have e3:=yL d3;refine Q1 (jX λe4=>K ⟨ω,ω,ω,ω⟩)
     refine Q3 func25 ntmps25 results25 λf w x b=>?_;simp only[go_sem,Qa,Qa,d1,d2,d3,d4];exact .inr ⟨K,_,rfl⟩
def lT{l:List Int}{k}(h:k<l.length):l.getD k 0∈l:=by
 rw[Q7,QT h];exact zF h
def Qac(l:List Int)(F:List Ob)(f a:Nat)(b:List D)(g:Int->Bool):Prop:=∀(h:List Ob) (n:Int),n∈l->VE F h->Zf prog f h (Jm a b [Qb n]) (λd=>d=QZ (g n))
def ai(l:List Int)(F:List Ob)(b:Nat)(f a:Nat)(c:List D)(g:Int->Bool):Prop:=∀(h:List Ob) (n:Int),n∈l->F.length<=h.length->(∀l,l<F.length->l≠b->h[l]? = F[l]?)->Zf prog f h (Jm a c [Qb n]) (λd=>d=QZ (g n))
section
variable (h:List Ob)(l:List Int)(lo gn off:Nat)(row:Nat->List D)(hlen:l.length<1000000)(ho:(h.map Ob.ro)[lo]? = some ⟨.AU,gn,1,off+l.length,row⟩)(hr:∀i,i<l.length->row (off+i)=[Qb (l.getD i 0)])
include hlen ho hr
theorem Qzr(e:D)(f m:Nat)(r:List D)(y:Qn prog f)(E:JU e=some (f,m,r))(c:Int->Bool)(x:Qac l (h.map Ob.ro) f m r c):
  Zf prog 112 h [.ref lo gn off l.length,e] (λd=>d=Qb (ya c l)):=by
 refine ZD func112 ntmps112 results112 λt w H F q I b=>?_;rw[<- q]at ho;have j:=Qc ho;simp only[go_sem,Qa,ho,j];refine Js (λk s=>(∀i,i<k->c (l.getD i 0)=false)/\s=⟨[(0,.ref lo gn off l.length),(1,e),(7,Qb l.length),(8,Qb k)],F⟩) l.length QQ ⟨λi p=>absurd p ω,rfl⟩ ?_;rintro k s o ⟨g,rfl⟩;apply QM b;have j:=Qc ho;have C:=Vl (show k<4611686018427387904 from ω);first|refine yX o (λa=>?_) (λa=>?_)|refine yY o (λa=>?_) (λa=>?_)
 .have u:=hr k a;have v:off+k<off+l.length:=ω;simp only[go_sem,Qa,ho,j,a,u,v];refine X0 b y E ?_ (x F (l.getD k 0) (lT a) (by rw[<- q];exact VE.refl F)) rfl λd2 z=>?_
  .simp only[go_sem];exact DZ _
  subst z;apply Qh b;cases n:c (l.getD k 0)
  .simp only[go_sem,Qa];refine⟨a,_,QH.frame (by simp only[go_sem,C]),λi p=>?_,rfl⟩;by_cases B:i<k
   .exact g i B
   .have:i=k:=ω;subst this;exact n
  .rw[rT a g n];simp only[go_sem,Qa];exact⟨[],(Jv F).symm⟩
 .have a:k=l.length:=ω;subst a;simp only[go_sem,B6];rw[rU g];apply QM b;exact⟨[],(Jv F).symm⟩
end
section
variable (h:List Ob)(l:List Int)(lo gn off:Nat)(row:Nat->List D)(hlen:l.length<1000000)(ho:h[lo]? = some ⟨.arr,gn,1,off+l.length,row⟩)(hr:∀i,i<l.length->row (off+i)=[Qb (l.getD i 0)])
include hlen ho hr
theorem Qzs(e:D)(f B:Nat)(F:List D)(W:Qn prog f)(VZ:JU e=some (f,B,F))(a:Int->Bool)(hg:ai l h lo f B F a)(P:ai l (h.map Ob.ro) lo f B F a):
  QI prog 117 h [.ref lo gn off l.length,e] (λd h'=>d=.ref lo gn off (xm a l).length/\∃VU,h'=h.set lo ⟨.arr,gn,1,off+l.length,VU⟩/\∀i,i<(xm a l).length->VU (off+i)=[Qb ((xm a l).getD i 0)]):=by
 refine Q3 func117 ntmps117 results117 λa0 w pl c=>?_;have o:=Qc ho;simp only[go_sem,Qa,ho,o];refine X0 c Tw rfl ?_ (Qzr h l lo gn off row hlen (Jc ho) hr e f B F W VZ a (λh' n hm hx=>?_)) rfl λd2 J=>?_
 .simp only[go_sem];exact HG e
 .obtain⟨g,rfl⟩:=hx;exact P _ n hm σ λl hl _=>QJ hl
 subst J;have V:h.set lo ⟨.arr,gn,1,off+l.length,row⟩=h:=AO λi=>by
  by_cases u:lo=i
  .subst u;rw[Xb o,ho]
  .rw[JZ u]
 rcases Qx6 (g:=a) (l:=l) with ⟨u,Z⟩|⟨i,hi,u,Z,Y⟩
 .rw[u,Z];apply Qh c;simp only[go_sem,Qa,ho,o];exact⟨row,V.symm,hr⟩
 .rw[u];have QE:(((i:Nat):Int)==-1)=false:=σ;have C:=Vl (show i<4611686018427387904 from ω);apply Qh c;simp only[go_sem,Qa,ho,o,QE,C];refine Js (λk s=>∃b:Nat->List D,(∀x,x<l.length->(b (off+x)).length=1)/\(∀j,j<((l.take (i+1+k)).filter λx=>!a x).length->b (off+j)=[Qb (((l.take (i+1+k)).filter λx=>!a x).getD j 0)])/\(∀j,i+1+k<=j->j<l.length->b (off+j)=[Qb (l.getD j 0)]) /\
   s=⟨[(0,.ref lo gn off l.length),(1,e),(5,Qb ((l.take (i+1+k)).filter λx=>!a x).length),(6,Qb (i+1+k:Nat))],h.set lo ⟨.arr,gn,1,off+l.length,b⟩⟩) (l.length - (i+1))
   (s0:=⟨[(0,.ref lo gn off l.length),(1,e),(5,Qb i),(6,Qb (i+1:Nat))],h⟩) QQ ⟨row,λx hx=>by rw[hr x hx];rfl,?_,λj _ t=>hr j t,?_⟩ ?_
  .rw[xG,Y];intro j t;simp at t;rw[hr j ω];simp[Q7,t,show j<l.length by omega]
  .rw[xG,Y,V];simp[yK (Sr hi)]
  rintro k s hk ⟨b,E,z,I,rfl⟩;have T:=Qx5 l (λx=>!a x) (i+1+k);obtain⟨M,v⟩:∃M,M=(l.take (i+1+k)).filter λx=>!a x:=⟨_,rfl⟩;obtain⟨j,t⟩:∃j,j=i+1+k:=⟨_,rfl⟩;have y:lo<(h.set lo ⟨.arr,gn,1,off+l.length,b⟩).length:=by simpa using o
  have q:(h.set lo ⟨.arr,gn,1,off+l.length,b⟩)[lo]? = some ⟨.arr,gn,1,off+l.length,b⟩:=Qy o;rw[<- t]at v z I T ⊢;rw[<- v]at z T ⊢;have BQ:j<=l.length:=ω;have C:=Vl (show j<4611686018427387904 from ω);have S:=Vl (show M.length<4611686018427387904 from ω);have R:∀x,x<h.length->x≠lo->(h.set lo ⟨.arr,gn,1,off+l.length,b⟩)[x]? = h[x]? := λx _ hx=>Qm (Q8 hx);apply Qh c;simp only[go_sem,Qa,q,y];first|refine yX BQ (λm=>?_) (λm=>?_)|refine yY BQ (λm=>?_) (λm=>?_)
  .have U0:=I j (Qs _) m;have H:off+j<off+l.length:=ω;simp only[go_sem,Qa,m,q,y,U0,H];refine X0 c W VZ ?_ (hg _ (l.getD j 0) (lT m) σ R) rfl λd2 J=>?_
   .simp only[go_sem];exact DZ _
   subst J;have p:=QiC l (λx=>!a x) j m;rw[<- v,show l.getD j default=l.getD j 0 from rfl]at p;cases U:a (l.getD j 0)
   .rw[Qf (by simp only[U,Lh])]at p;have L:M.length<l.length:=ω;have zq:off+M.length<off+l.length:=ω;have Q:List.drop 1 (b (off+M.length))=[]:=bG (by rw[E _ L];exact Qs _);apply Qh c;simp only[go_sem,Qa,q,y,C,S,L,zq,Q,E M.length L];have ej:i+1+(k+1)=j+1:=ω;have Ex:(M++[l.getD j 0]).length=M.length+1:=σ;refine⟨ω,_,QH.frame (fr':=[(0,.ref lo gn off l.length),(1,e),(5,Qb (M.length+1:Nat)),(6,Qb (j+1:Nat))]) (by simp only[go_sem]),λx=>bif x==off+M.length then [Qb (l.getD j 0)] else b x,?_,?_,?_,?_⟩
    .intro x hx;show (bif off+x==off+M.length then [Qb (l.getD j 0)] else b (off+x)).length=1;cases (off+x==off+M.length)
     .exact E x hx
     .rfl
    .rw[ej,p];intro x hx;simp at hx;by_cases uO:x=M.length
     .subst uO;simp only[N5,wB];simp;rfl
     .have K:(off+x==off+M.length)=false:=ξ;have:=z x ω;simp only[K,js,this];rw[Q7,Q7,JY ω];rfl
    .intro x XJ N;have K:(off+x==off+M.length)=false:=ξ;simp only[K,js];exact I x ω N
    .rw[ej,p,Ex];rfl
   .rw[Qe (by simp only[U,EU];decide)]at p;apply Qh c;simp only[go_sem,Qa,q,y,C];refine⟨ω,_,QH.frame (fr':=[(0,.ref lo gn off l.length),(1,e),(5,Qb M.length),(6,Qb (j+1:Nat))]) (by simp only[go_sem]),b,E,?_,?_,?_⟩
    .rw[show i+1+(k+1)=j+1 by omega,p];exact z
    .intro x XJ N;exact I x ω N
    .rw[show i+1+(k+1)=j+1 by omega,p];rfl
  .subst m;rw[YH]at v;have jd:M=xm a l:=v;rw[<- jd];have H:M.length<=l.length:=ω;apply Qh c;simp only[go_sem,Qa,q,y,H];refine rC CH c rfl q rfl rfl rfl rfl ξ rfl rfl rfl rfl ?_;have O:∀r:Ob,(h.set lo r)[lo]? = some r:=λr=>Qy o;apply Qh c;simp only[go_sem,Qa,O,o,H];refine⟨σ,_,rfl,λx hx=>by rw[rA ω];exact z x hx⟩
theorem Qzx(g:D)(f c:Nat)(e:List D)(n:Qn prog f)(o:JU g=some (f,c,e))(a:Int->Bool)(m:ai l h lo f c e a)(j:ai l (h.map Ob.ro) lo f c e a):
  QI prog 117 h [.ref lo gn off l.length,g] (λd k=>d=.ref lo gn off (xm a l).length/\∃b,k=h.set lo ⟨.arr,gn,1,off+(xm a l).length,b⟩/\∀i,i<(xm a l).length->b (off+i)=[Qb ((xm a l).getD i 0)]):=by
 refine QI.cut (Qzs h l lo gn off row hlen ho hr g f c e n o a m j) ?_;rintro d k ⟨rfl,b,rfl,p⟩;have:=qS (λx=>!a x) l;refine⟨lo,⟨.arr,gn,1,off+l.length,b⟩,off+(xm a l).length,Qy (Qc ho),rfl,by simp only[xm];omega,rfl,b,by rw[JS],p⟩
end
section
variable (h:List Ob)(l:List Int)(hlen:l.length<1000000)
include hlen
theorem Qzy(e:D)(f j:Nat)(p:List D)(t:Qn prog f)(z:JU e=some (f,j,p))(c:Int->Bool)(r:Qac l (h.map Ob.ro) f j p c):
  Zf prog 112 h [ints l,e] (λd=>d=Qb (ya c l)):=by
 refine ZD func112 ntmps112 results112 λq w B F v C b=>?_;simp only[go_sem,Qa];refine Js (λk s=>(∀i,i<k->c (l.getD i 0)=false)/\s=⟨[(0,ints l),(1,e),(7,Qb l.length),(8,Qb k)],F⟩) l.length QQ ⟨λi o=>absurd o ω,rfl⟩ ?_;rintro k s n ⟨g,rfl⟩;apply QM b;have y:=Vl (show k<4611686018427387904 from ω);first|refine yX n (λa=>?_) (λa=>?_)|refine yY n (λa=>?_) (λa=>?_)
 .simp only[go_sem,Qa,a];refine X0 b t z ?_ (r F (l.getD k 0) (lT a) (by rw[<- v];exact VE.refl F)) rfl λd2 u=>?_
  .simp only[go_sem];exact DZ _
  subst u;apply Qh b;cases m:c (l.getD k 0)
  .simp only[go_sem,Qa];refine⟨a,_,QH.frame (by simp only[go_sem,y]),λi o=>?_,rfl⟩;by_cases x:i<k
   .exact g i x
   .have:i=k:=ω;subst this;exact m
  .rw[rT a g m];simp only[go_sem,Qa];exact⟨[],(Jv F).symm⟩
 .have a:k=l.length:=ω;subst a;simp only[go_sem,B6];rw[rU g];apply QM b;exact⟨[],(Jv F).symm⟩
theorem Qae(a:D)(f b:Nat)(e:List D)(m:Qn prog f)(r:JU a=some (f,b,e))(c:Int->Bool)(k:Qac l (h.map Ob.ro) f b e c):
  Zf prog 73 h [ints l,a] (λd=>d=QZ (decide (0<=ya c l))):=by
 refine ZD func73 ntmps73 results73 λi w s F p t g=>?_;simp only[go_sem,Qa];refine X0 g Tw rfl ?_ (Qzy F l hlen a f b e m r c (λq n j hx=>?_)) rfl λd2 o=>?_
 .simp only[go_sem];exact HG a
 .rw[p,rS]at hx;exact k q n j hx
 subst o;apply QM g;exact⟨[],(Jv F).symm⟩
end
structure je (h:List Ob) (p:Nat) (L:Loc) (M:Ql):Prop where
 ob:(h.map Ob.ro)[p]? = some (kR M.lk L.t L.b L.o L.v L.m M.Qd M.acc).ro
 tr:XR h L.t M.T
 VV:(h.map Ob.ro)[L.b]? = some (QR .i64 L.cb L.eb).ro
 qd:Vd L.eb (λid=>(Qj M.N id).map λ_=>.ptr (L.le id) 0 0 0)
 JH:∀id n,Qj M.N id=some n->(h.map Ob.ro)[L.le id]? = some (qc (qD L.lq n) n).ro
 XB:∀id n,Qj M.N id=some n->n.c.leaf=true->∃k:Nat,n.c.Z4=k/\PF h (L.lq id) k n.c.bytes n.q
 qG:HQ h L.o M.To M.A
 Yo:F6 h L.v M.Lv
 Wi:(h.map Ob.ro)[L.m]? = some (QR .i64 L.cm L.em).ro
 X3:Vd L.em (λid=>if M.ks id=true then some (.ptr (L.lk id) 0 0 0) else none)
 kids:∀id,M.ks id=true->F6 h (L.lk id) (M.KT id)
def ZL.ro{b}{h}{p}{L}{M}(C:ZL b h p L M):je h p L M:=
 ⟨Jc C.ob,C.tr.toR,Jc C.VV,C.qd,λid n a=>Jc (C.JH id n a).1,λid n a c=>by
  obtain⟨k,f,e⟩:=C.XB id n a c;exact⟨k,f,e.toR⟩,C.qG.toR,C.Yo.toR,Jc C.Wi,C.X3,λid d=>(C.kids id d).toR⟩
def je.more{h h':List Ob}{p}{L}{M}(e:∀(l:Nat) (o:Ob),(h.map Ob.ro)[l]? = some o->(h'.map Ob.ro)[l]? = some o)(C:je h p L M):je h' p L M:=
 ⟨e _ _ C.ob,C.tr.more e,e _ _ C.VV,C.qd,λid n a=>e _ _ (C.JH id n a),λid n a b=>by
  obtain⟨k,f,d⟩:=C.XB id n a b;exact⟨k,f,d.more e⟩,C.qG.more e,C.Yo.more e,e _ _ C.Wi,C.X3,λid c=>(C.kids id c).more e⟩
def je.look{h}{p}{L:Loc}{M:Ql}(C:je h p L M){a}{n}(b:Qj M.N a=some n):Ja L.eb a=some (.ptr (L.le a) 0 0 0):=by
 rw[C.qd.at_,b];rfl
def Qzz{h:List Ob}{p q}{L}{M:Ql}(C:je h p L M){a}{n:Nd}(g:Qj M.N a=some n)(j:n.c.leaf=true)(t:n.c.iD=a)(i:(h.map Ob.ro)[q]? = some ⟨.WI,0,1,1,λ_=>[.ptr p 0 0 0]⟩):
  Zf prog 119 h [Qb a,.ptr q 0 0 0] (λd=>d=QZ (n.q.l.isEmpty)):=by
 have f:=C.ob;have c:=C.VV;have b:=C.JH a n g;have y:=C.look g;obtain⟨k,I,s⟩:=C.XB a n g j;have B:qD L.lq n=.ptr (L.lq a) 0 0 0:=by unfold qD;rw[Qf j,t]
 rw[B]at b;have e:((n.q.l.length:Int)==0)=(n.q.l.isEmpty):=by
  cases n.q.l with
  | nil=>rfl
  | cons x l=>simp;omega
 refine ZD func119 ntmps119 results119 λr w H F o J m=>?_;rw[<- o]at i f c b;have E:=Qc i;have z:=Qc f;have v:=Qc c;have u:=Qc b;simp only[go_sem,Qa,i,E,f,z,c,v,b,u,y];refine Xg m OY ?_ (PG (s.more (KV o))) ?_
 .simp only[go_sem,Qa,e]
 apply Qh m;simp only[go_sem,Qa,e];exact⟨[],(Jv F).symm⟩
def QzA(h)(a):Zf prog 117 h [.nil,a] (λd=>d=.nil):=by
 refine ZD func117 ntmps117 results117 λc w f F g i b=>?_;simp only[go_sem,Qa];refine X0 b Tw rfl ?_ (Qgu F a) rfl λd2 e=>?_
 .simp only[go_sem];exact HG a
 subst e;apply QM b;exact⟨[],(Jv F).symm⟩
def wa(T:List Qq):List Int:=(T.filter (·.leaf)).map (·.iD)
def Gr(M:Ql)(a:Int):Bool:=(Qv M a).q.l.isEmpty
def V6(M:Ql):List Int:=xm (Gr M) (wa M.T)
def lU{M:Ql}(I:Qz M){id}(h:id∈wa M.T):∃n,Qj M.N id=some n/\n.c.leaf=true/\n.c.iD=id:=by
 obtain⟨c,f,rfl⟩:=JA.1 h;obtain⟨e,d⟩:=JI.1 f;have a:=(VL I.tree.rising).2 ⟨e,rfl⟩;rw[I.nodes,uv]at a;cases b:Qj M.N c.iD with
 | none=>rw[b]at a;cases a
 | some n=>
  rw[b,KA,Q4]at a;exact⟨n,rfl,by rw[a];exact d,by rw[a]⟩
section
variable {h:List Ob}{p:Nat}{L:Loc}{M:Ql}(C:je h p L M)(I:Qz M)
include C I
theorem QzB:Xf prog 76 h [.ptr p 0 0 0] (λd g=>KC h.length (h++g) d (V6 M)):=by
 have Yb:(wa M.T).length<1000000:=by
  have:=qS (λc:Qq=>c.leaf) M.T;have y:=I.tree.len;simp only[wa,KK];omega
 have t:=C.ob;refine Bn VK 200 func76 rfl ntmps76 results76 rfl λW w pl F Q Ze i=>?_;rw[<- Q]at t;have Qg:=Qc t;simp only[go_sem,Qa,t,Qg];obtain⟨B,v⟩:∃B:List Ob,B=[⟨.one,0,1,1,λ_=>[.ptr p 0 0 0]⟩]:=⟨_,rfl⟩;have r:B.length=1:=by rw[v];rfl
 have ZF:B[0]? = some ⟨.one,0,1,1,λ_=>[.ptr p 0 0 0]⟩:=by rw[v];rfl
 have Z:=v;rw[<- Z];have V:je F p L M:=C.more (KV Q);have CB:je (F++B) p L M:=V.more Ee;obtain⟨m,c,es,ht,hm,hT⟩:=CB.tr;refine Hw i QsN rfl ?_ (Qvn _ L.t m c hT (by have:=I.tree.len;omega) ht hm) rfl λd g O=>?_
 .simp only[go_sem]
 rw[show (M.T.filter (·.leaf)).map (·.iD)=wa M.T from rfl]at O;rcases O with ⟨rfl,h3⟩|⟨b,s,a,l,rfl,E,XD,hr⟩
 .apply QM i;refine X0 i QfC rfl ?_ (QzA _ (.clo 119 0 [.ptr F.length 0 0 0])) rfl λd2 u=>?_
  .simp only[go_sem,Qa]
  subst u;apply QM i;refine⟨_,rfl,.inl ⟨rfl,?_⟩⟩;rw[V6,h3];rfl
 .apply QM i;have jD:F.length+1<=b:=by
   have R:(F++B).length<=b:=E.1;rw[ZT,r]at R;exact R
  obtain⟨H,j⟩:∃H,H=F++(B++g):=⟨_,rfl⟩;have K:∀x:Nat,x<F.length->H[x]? = F[x]? := λx hx=>by rw[j];exact QJ hx
  have T:H[b]? = some ⟨.arr,s,1,a+(wa M.T).length,l⟩:=by rw[j,<- Wu];exact XD
  have a1:F.length+1<=H.length:=by rw[j];simp[r]
  have N:H[F.length]? = some ⟨.one,0,1,1,λ_=>[.ptr p 0 0 0]⟩:=by rw[j,Vq rfl,QJ ω];exact ZF
  rw[<- j];have f:∀k:List Ob,(∀x:Nat,H[x]? = k[x]?\/(k[x]? = (H[x]?).map Ob.ro))->k.length=H.length->ai (wa M.T) k b 119 0 [.ptr F.length 0 0 0] (Gr M):=by
   intro k y J7 S n Xj a0 J;have q:∀(x:Nat) (o:Ob),x<F.length+1->(H.map Ob.ro)[x]? = some o->(S.map Ob.ro)[x]? = some o:=λx o hx e=>by
    have e1:=J x ω ω;rw[KX]at e ⊢;rw[e1];rcases y x with z|z
    .rw[<- z];exact e
    .rw[z,Sv,<- e];congr 1;funext o;exact ro_ro o
   obtain⟨Y,P,hl,Zg⟩:=lU I Xj;have Jh:Qv M n=Y:=by unfold Qv;rw[P];rfl
   have:=Qzz (V.more (h':=S) λx o e=>q x o (by have:=Qc e;rw[KK]at this;omega) (by rw[KX,K x (by have:=Qc e;rw[KK]at this;omega),<- KX];exact e)) P hl Zg (q F.length ⟨.WI,0,1,1,λ_=>[.ptr p 0 0 0]⟩ ω (by rw[KX,N];rfl));unfold Gr;rw[Jh];exact this
  refine DX i QfC (Qzx H (wa M.T) b s a l Yb T hr (.clo 119 0 [.ptr F.length 0 0 0]) 119 0 [.ptr F.length 0 0 0] QsO rfl (Gr M) (f H (λx=>.inl rfl) rfl) (f (H.map Ob.ro) (λx=>.inr (by rw[KX])) σ)) λd y u=>?_;obtain⟨rfl,U,rfl,Ie⟩:=u;apply QM i;refine KC.done Ze ⟨(B++g).set (b - F.length) ⟨.arr,s,1,a+(xm (Gr M) (wa M.T)).length,U⟩,?_⟩ (.inr ⟨b,s,a,U,rfl,?_,?_,Ie⟩)
  .rw[j,NT _ _ (by omega:F.length<=b)]
  .exact⟨by have:=E.1;omega,E.2⟩
  .exact Qy (Qc T)
theorem Qaf:Zf prog 76 h [.ptr p 0 0 0] (λd=>d=ints (V6 M)):=KC.closed (QzB C I)
end
def aj(l:List Int)(v:Int):Int:=if l.contains v then (l.idxOf v:Nat) else -1
def QzF(l:List Int)(a)(n:l.length<2147483648):Q9 prog 150 [ints l,Qb a] (Zp (Qb (aj l a))):=by
 refine ZH 0 func150 ntmps150 results150 λi w e=>?_;simp only[go_sem];refine Js (λk s=>(l.take k).contains a=false/\s=⟨[(0,ints l),(1,Qb a),(6,ints l),(7,Qb l.length),(8,Qb k)],[]⟩) l.length (s0:=⟨[(0,ints l),(1,Qb a),(6,ints l),(7,Qb l.length),(8,Qb 0)],[]⟩) QQ ⟨σ,rfl⟩ ?_;rintro k s o ⟨c,rfl⟩;apply Za e;refine q7 (λh=>?_) (λh=>?_)
 .have d:k<l.length:=by simpa using h
  have g:=getD_take l 0 k d;simp only[go_sem,d];refine q7 (λb=>?_) (λb=>?_)
  .simp only[go_sem];have f:l=l.take k++a::l.drop (k+1):=by
    conv=>lhs;rw[<- EY (k+1) l,g]
    simp at b;simp[b]
   have:aj l a=k:=by
    have j:l.contains a=true:=by rw[f];simp
    have m:¬ a∈l.take k:=by simpa using c
    rw[aj,j];simp only[VB];rw[f,List.idxOf_append,Qe m];simp;omega
   rw[this]
  .simp only[go_sem];refine⟨ω,_,QH.frame (by simp only[go_sem,Vl (show k<4611686018427387904 from ω)]),?_,rfl⟩;rw[g];simp at c b ⊢;exact⟨c,b⟩
 .have d:k=l.length:=by simp at h;omega
  simp only[go_sem];apply Za e;subst d;simp at c;simp[aj,c]
def QzG(l:List Int)(a)(d:l.length<2147483648):Q9 prog 114 [ints l,Qb a] (Zp (QZ (l.contains a))):=by
 refine ZH 0 func114 ntmps114 results114 λc w b=>?_;simp only[go_sem];apply JW b QfI (QzF l a d);apply Za b;unfold aj;cases l.contains a<;>simp
def QzH{h:List Ob}{p l k}{L}{M}(C:je h p L M)(I:Qz M)(f n)(c:(h.map Ob.ro)[l]? = some ⟨.WI,0,1,1,λ_=>[.ptr p 0 0 0]⟩)(b:(h.map Ob.ro)[k]? = some ⟨.WI,0,1,1,λ_=>[Qb f]⟩):
  Zf prog 113 h [Qb n,.ptr l 0 0 0,.ptr k 0 0 0] (λd=>d=QZ ((up M.T n).contains f)):=by
 have e:=C.ob;refine ZD func113 ntmps113 results113 λo w q F j s a=>?_;rw[<- j]at e c b;have m:=Qc e;have i:=Qc c;have g:=Qc b;simp only[go_sem,Qa,e,m,c,i,b,g];apply QB a [0,1,2,3,4,6,1005,1007,8];simp only[go_sem,Qa,e,m,c,i,b,g];apply WZ a fT (sA (C.tr.more (KV j)) I.tree.toTreeInv n);apply Zd a;simp only[go_sem,Qa,c,i,b,g];have r:(J3 M.T 16 n).length<=16:=CM (L:=M.T) (n:=16) (id:=n);apply Pa a QfB (QzG (J3 M.T 16 n) f ω);apply Yx a;exact⟨[],(Jv F).symm,rfl⟩
def QzI(g)(l:List Int):(xm g l).length<=l.length:=qS _ _
def yy(M:Ql)(a:Int):Bool:=(V6 M).any λn=>(up M.T n).contains a
def Qjo{M:Ql}(I:Qz M):(V6 M).length<=64:=by
 have a:=QzI (Gr M) (wa M.T);have d:=qS (λc:Qq=>c.leaf) M.T;have b:=I.tree.len;simp only[V6,wa,KK]at a ⊢;omega
def QzJ{h}{p}{L}{M}(C:je h p L M)(I:Qz M)(b):
  Zf prog 74 h [.ptr p 0 0 0,Qb b] (λd=>d=QZ (yy M b)):=by
 have N:=Qjo I;have f:=C.ob;refine Bn VK 200 func74 rfl ntmps74 results74 rfl λq w z F k K c=>?_;rw[<- k]at f;have v:=Qc f;simp only[go_sem,Qa,f,v];have y:je F p L M:=C.more (KV k);obtain⟨B,i⟩:∃B:List Ob,B=[⟨.one,0,1,1,λ_=>[.ptr p 0 0 0]⟩,⟨.one,0,1,1,λ_=>[Qb b]⟩]:=⟨_,rfl⟩;have u:B[0]? = some ⟨.one,0,1,1,λ_=>[.ptr p 0 0 0]⟩:=by rw[i];rfl
 have x:B[1]? = some ⟨.one,0,1,1,λ_=>[Qb b]⟩:=by rw[i];rfl
 have j:=i;simp only[go_sem]at j;rw[<- j];have m:je (F++B) p L M:=y.more Ee;apply JD c pU (Qaf m I);apply QM c;refine X0 c Tv rfl ?_ (Qae (F++B) (V6 M) ω (.clo 113 0 [.ptr F.length 0 0 0,.ptr (F.length+1) 0 0 0]) 113 0 [.ptr F.length 0 0 0,.ptr (F.length+1) 0 0 0] QsL rfl (λn=>(up M.T n).contains b) (λs n H hx=>?_)) rfl λd2 r=>?_
 .simp only[go_sem,Qa]
 .have a:∀(l:Nat) (o:Ob),((F++B).map Ob.ro)[l]? = some o->(s.map Ob.ro)[l]? = some o:=λl o e=>by
   obtain⟨g,rfl⟩:=hx;have t:=Jc ((QJ (Qc e)).trans e:((F++B).map Ob.ro++g)[l]? = some o);rw[t];rw[KX]at e;obtain⟨E,J,rfl⟩:=WH.1 e;rw[ro_ro]
  exact QzH (m.more a) I b n (a _ _ (by rw[KX,Vq rfl,u];rfl)) (a _ _ (by rw[KX,Wm rfl,x];rfl))
 subst r;apply QM c;refine⟨B,rfl,?_⟩;rw[TM];rfl
def QzK{h:List Ob}{o n r q}{A B:List Qq}(z:XR h o A)(v:XR h n B)(b)(e:(h.map Ob.ro)[r]? = some ⟨.WI,0,1,1,λ_=>[.ptr o 0 0 0]⟩)(c:(h.map Ob.ro)[q]? = some ⟨.WI,0,1,1,λ_=>[.ptr n 0 0 0]⟩)(H:A.length<100000)(E:B.length<100000):
  Zf prog 116 h [Qb b,.ptr r 0 0 0,.ptr q 0 0 0] (λd=>d=QZ (Ih A b || Ih B b)):=by
 obtain⟨x,hx⟩:∃x,x=(QC A b).getD default:=⟨_,rfl⟩;obtain⟨y,p⟩:∃y,y=(QC B b).getD default:=⟨_,rfl⟩;have u:Ih A b=decide (1<QS x.rt):=by rw[hx];rfl
 have t:Ih B b=decide (1<QS y.rt):=by rw[p];rfl
 rw[u,t];refine ZD func116 ntmps116 results116 λs w C F k I a=>?_;rw[<- k]at e c;have m:=Qc e;have l:=Qc c;simp only[go_sem,Qa,e,m,c,l];have i:=Pr (z.more (KV k)) b;have f:=λG:List Ob=>Pr ((v.more (KV k)).more (Ee (g:=G))) b;rw[<- hx]at i;simp only[<- p]at f;apply JD a wS i;apply Qh a;simp only[go_sem,Qa,e,m,c,l];apply JD a wS (f _);apply Qh a;simp only[go_sem,Qa,e,m,c,l];cases j:decide (1<QS x.rt) with
 | true=>
  refine JG a y0 ?_ (DY x) ?_
  .simp only[go_sem,Qa,j]
  apply Qh a;simp only[go_sem,Qa,j];exact⟨_,rfl⟩
 | false=>
  refine JG a y0 ?_ (DY x) ?_
  .simp only[go_sem,Qa,j]
  apply Qh a;simp only[go_sem,Qa,j];apply qy a y0 (DY y);apply QM a;exact⟨_,rfl⟩
def Qag{h}{c b}{A B:List Qq}(z:XR h c A)(y:XR h b B)(m:A.length<100000)(k:B.length<100000)(s:(Kq A B).length<1000000):
  Zf prog 75 h [.ptr c 0 0 0,.ptr b 0 0 0] (λd=>d=QZ (ur A B)):=by
 refine Bn VK 200 func75 rfl ntmps75 results75 rfl λr w E F j K f=>?_;simp only[go_sem,Qa];obtain⟨G,i⟩:∃G:List Ob,G=[⟨.one,0,1,1,λ_=>[.ptr c 0 0 0]⟩,⟨.one,0,1,1,λ_=>[.ptr b 0 0 0]⟩]:=⟨_,rfl⟩;have x:G[0]? = some ⟨.one,0,1,1,λ_=>[.ptr c 0 0 0]⟩:=by rw[i];rfl
 have C:G[1]? = some ⟨.one,0,1,1,λ_=>[.ptr b 0 0 0]⟩:=by rw[i];rfl
 rw[<- i];have q:XR (F++G) c A:=(z.more (KV j)).more Ee;have p:XR (F++G) b B:=(y.more (KV j)).more Ee;apply JD f Qfs (QiK q p m k);apply QM f;refine X0 f Tv rfl ?_ (Qae (F++G) (Kq A B) s (.clo 116 0 [.ptr F.length 0 0 0,.ptr (F.length+1) 0 0 0]) 116 0 [.ptr F.length 0 0 0,.ptr (F.length+1) 0 0 0] QsM rfl (λid=>Ih A id || Ih B id) (λu n I hx=>?_)) rfl λd2 t=>?_
 .simp only[go_sem,Qa]
 .have a:∀(l:Nat) (o:Ob),((F++G).map Ob.ro)[l]? = some o->(u.map Ob.ro)[l]? = some o:=λl o e=>by
   obtain⟨g,rfl⟩:=hx;have v:=Jc ((QJ (Qc e)).trans e:((F++G).map Ob.ro++g)[l]? = some o);rw[v];rw[KX]at e;obtain⟨H,J,rfl⟩:=WH.1 e;rw[ro_ro]
  exact QzK (q.more a) (p.more a) n (a _ _ (by rw[KX,Vq rfl,x];rfl)) (a _ _ (by rw[KX,Wm rfl,C];rfl)) m k
 subst t;apply QM f;refine⟨G,rfl,?_⟩;rw[TM];rfl
def X4(c:Qq):Nd:=⟨c,0,default,default,default,⟨[],0,0,0,0,0,0⟩⟩
def Qjr(h:List Ob)(c:Qq)(d:D)(a:List Ob):Prop:=
 d=.ptr (h.length+1) 0 0 0/\∃g b,a=h++g/\2<=g.length/\a[h.length+1]? = some (qc (if c.leaf=true then .ptr b 0 0 0 else .raw (.pointer none)) (X4 c)) /\
  (c.leaf=true->∃k:Nat,c.Z4=k/\xi (λl=>h.length+2<=l) a b k c.bytes ⟨[],0,0,0,0,0,0⟩)
@[go_sem] theorem QIG(d a)(n):a::List.drop 1 (K8 d n)=K8 a n:=rfl
def QzL(h)(c:Qq)(N:c.leaf=true->1<=c.Z4/\c.Z4<=64/\1<=c.bytes/\c.bytes<=1048576):
  QI prog 78 h [Yh c] (λd O=>Qjr h c d O):=by
 obtain⟨p,o,J,n,m,j,z,i⟩:=c;cases J with
 | false=>
  refine Q3 func78 ntmps78 results78 λf w I q=>?_;simp only[go_sem,Qa,Qa];refine⟨rfl,_,0,rfl,σ,?_,λe=>by cases e⟩;rw[Wm (k:=1) rfl];show some (_:Ob)=some (qc (.raw (.pointer none)) _);refine congrArg some ?_;unfold qc K8 X4;refine congrArg (Ob.mk .one 0 60 1) ?_;funext _;dsimp only;simp only[Qq.cells,YG,Yr];rfl
 | true=>
  obtain⟨L,K,y,x⟩:=N rfl;dsimp only at L K y x;obtain⟨k,rfl⟩:∃k:Nat,z=k:=⟨z.toNat,ω⟩;refine Q3 func78 ntmps78 results78 λf w I q=>?_;simp only[go_sem,Qa,Qa];generalize R:(⟨.one,0,14,1,_⟩:Ob)=P;generalize u:(⟨.one,0,60,1,_⟩:Ob)=H;have C:H=qc (.raw (.pointer none)) (X4 ⟨p,o,true,n,m,j,(k:Int),i⟩):=by
   rw[<- u];unfold qc K8 X4;refine congrArg (Ob.mk .one 0 60 1) ?_;funext _;dsimp only;simp only[Qq.cells,YG,Yr];rfl
  obtain⟨G,a⟩:∃G:List Ob,G=[P,H]:=⟨_,rfl⟩;have r:G.length=2:=by rw[a];rfl
  have M:=Qwq (h++G) k i ω ω y x;have U:(h++G)[h.length+1]? = some (qc (.raw (.pointer none)) (X4 ⟨p,o,true,n,m,j,(k:Int),i⟩)):=by rw[a,<- C];exact Wm (k:=1) rfl
  have v:=M;rw[a]at v;refine JO q QsP v λd T B=>?_;rw[<- a]at B;obtain⟨rfl,Q,g,rfl,S⟩:=B;have E:(G++g)[1]? = some (qc (.raw (.pointer none)) (X4 ⟨p,o,true,n,m,j,(k:Int),i⟩)):=by rw[a,<- C];rfl
  have b:=Qc E;apply Qh q;simp only[go_sem,Qa,E,b];have t:(h++G).length=h.length+2:=by rw[ZT,r]
  refine⟨rfl,_,h.length+G.length+2,rfl,by simp[r],?_,λ_=>⟨k,rfl,?_⟩⟩
  .rw[Wm (k:=1) rfl];rw[Qy b];rfl
  .rw[t]at Q;rw[r];refine(Q.step (S':=λl=>h.length+2<=l) λl V F=>⟨F,?_⟩);have W:h.length+2<=l:=F;have e:∀X:Ob,h++(G++g).set 1 X=(h++G++g).set (h.length+1) X:=λX=>by
    rw[Wu,NT (s:=h) (h.length+1) X ω,bW]
   rw[e];exact Qm ω
def Ni{a:Nat->Tag}{h:List Ob}{l:Nat}{b:Tag}(f:a l=b)(o:Ob):∀t,t≠b->∀j,j<h.length->a j=t->a j=t/\(h.set l o)[j]? = h[j]? :=
 λt d j _ c=>⟨c,Qm (λe=>d (by rw[<- c,<- e,f]))⟩
def jf{a:Nat->Tag}{h:List Ob}{l:Nat}{b:Tag}(e:a l=b)(o:Ob){j:Nat}{x:Ob}{t:Tag}(f:a j=t)(d:t≠b)(c:h[j]? = some x):(h.set l o)[j]? = some x:=
 ((Ni e o t d j (Qc c) f).2).trans c
section
variable {own:Nat->Tag}{h:List Ob}{p:Nat}{L:Loc}{M:Ql}(C:ZL own h p L M)
include C
theorem ZL.congrN{N}(e:∀id,Qj N id=Qj M.N id):ZL own h p L { M with N:=N }:=
 ⟨C.ob,C.op,C.tr,C.VV,C.qd.to λid=>by dsimp only;rw[e],C.ow,λid n a=>C.JH id n (by rw[<- e];exact a),λid n a=>C.XB id n (by rw[<- e];exact a),C.qG,C.Yo,C.Wi,C.X3,C.om,C.kids,λid n a=>C.qH id n (by rw[<- e];exact a)⟩
theorem ZL.QzO{b}{c}(R:WA (λl=>own l=.tree) h b c):ZL own (h.set p (kR M.lk b L.b L.o L.v L.m M.Qd M.acc)) p { L with t:=b } { M with T:=c }:=by
 have r:=Ni (h:=h) C.op (kR M.lk b L.b L.o L.v L.m M.Qd M.acc);exact⟨Qy (Qc C.ob),C.op,R.step (r _ σ),jf C.op _ C.ow σ C.VV,C.qd,C.ow,λj m a=>⟨jf C.op _ (C.JH j m a).2 σ (C.JH j m a).1,(C.JH j m a).2⟩,λj m a d=>by
  obtain⟨k,g,f⟩:=C.XB j m a d;exact⟨k,g,f.step (r _ σ)⟩,C.qG.step (r _ σ),C.Yo.step (r _ σ),jf C.op _ C.om σ C.Wi,C.X3,C.om,λj e=>(C.kids j e).step (r _ σ),C.qH⟩
theorem ZL.QzP{b}{c}{d}(R:jC (λl=>own l=.on) h b c d):ZL own (h.set p (kR M.lk L.t L.b b L.v L.m M.Qd M.acc)) p { L with o:=b } { M with To:=c,A:=d }:=by
 have r:=Ni (h:=h) C.op (kR M.lk L.t L.b b L.v L.m M.Qd M.acc);exact⟨Qy (Qc C.ob),C.op,C.tr.step (r _ σ),jf C.op _ C.ow σ C.VV,C.qd,C.ow,λj m a=>⟨jf C.op _ (C.JH j m a).2 σ (C.JH j m a).1,(C.JH j m a).2⟩,λj m a e=>by
  obtain⟨k,i,g⟩:=C.XB j m a e;exact⟨k,i,g.step (r _ σ)⟩,R.step (r _ σ),C.Yo.step (r _ σ),jf C.op _ C.om σ C.Wi,C.X3,C.om,λj f=>(C.kids j f).step (r _ σ),C.qH⟩
end
def jL(N:List Nd)(a:Int):List Nd:=N.filter λn=>n.c.iD != a
def Dg(N)(a j):Qj (jL N a) j=if j=a then none else Qj N j:=by
 unfold Qj jL;rw[List.find?_filter];split
 .rename_i e;subst e;rw[vh];intro x _;simp
 .rename_i e;congr 1;funext x;cases b:x.c.iD==j with
  | false=>simp[b]
  | true=>
   have:x.c.iD=j:=by simpa using b
   simp[this,e]
section
variable {own:Nat->Tag}{h:List Ob}{p:Nat}{L:Loc}{M:Ql}(C:ZL own h p L M)
include C
theorem ZL.QzQ(b):ZL own (h.set L.b (QR .i64 L.cb (Kc L.eb b))) p { L with eb:=Kc L.eb b } { M with N:=jL M.N b }:=by
 have r:=Ni (h:=h) C.ow (QR .i64 L.cb (Kc L.eb b));have f:∀j m,Qj (jL M.N b) j=some m->Qj M.N j=some m:=λj m a=>by
  rw[Dg]at a;split at a
  .cases a
  .exact a
 refine⟨jf C.ow _ C.op σ C.ob,C.op,C.tr.step (r _ σ),Qy (Qc C.VV),(C.qd.del b).to λj=>?_,C.ow,λj m a=>⟨jf C.ow _ (C.JH j m (f j m a)).2 σ (C.JH j m (f j m a)).1,(C.JH j m (f j m a)).2⟩,λj m a c=>?_,C.qG.step (r _ σ),C.Yo.step (r _ σ),jf C.ow _ C.om σ C.Wi,C.X3,C.om,λj d=>(C.kids j d).step (r _ σ),λj m a=>C.qH j m (f j m a)⟩
 .dsimp only;rw[Dg];split
  .rfl
  .rfl
 .obtain⟨k,g,e⟩:=C.XB j m (f j m a) c;exact⟨k,g,e.step (r _ σ)⟩
theorem ZL.QzR(a):ZL own (h.set L.m (QR .i64 L.cm (Kc L.em a))) p { L with em:=Kc L.em a } { M with ks:=λj=>if j=a then false else M.ks j }:=by
 have r:=Ni (h:=h) C.om (QR .i64 L.cm (Kc L.em a));refine⟨jf C.om _ C.op σ C.ob,C.op,C.tr.step (r _ σ),jf C.om _ C.ow σ C.VV,C.qd,C.ow,λj m b=>⟨jf C.om _ (C.JH j m b).2 σ (C.JH j m b).1,(C.JH j m b).2⟩,λj m b d=>?_,C.qG.step (r _ σ),C.Yo.step (r _ σ),Qy (Qc C.Wi),(C.X3.del a).to λj=>?_,C.om,λj c=>?_,C.qH⟩
 .obtain⟨k,g,f⟩:=C.XB j m b d;exact⟨k,g,f.step (r _ σ)⟩
 .dsimp only;by_cases e:j=a<;>simp[e]
 .dsimp only at c;by_cases e:j=a
  .rw[Qf e]at c;cases c
  .rw[Qe e]at c;exact(C.kids j c).step (r _ σ)
theorem ZL.QzS(a){k}(T:W0 (λl=>own l=.Yn a) h k []):∃c d,Ki .i64 L.cm L.em a (.ptr k 0 0 0)=QR .i64 c d /\
  ZL own (h.set L.m (Ki .i64 L.cm L.em a (.ptr k 0 0 0))) p { L with cm:=c,em:=d,lk:=λj=>if j=a then k else L.lk j } { M with ks:=λj=>if j=a then true else M.ks j,KT:=λj=>if j=a then [] else M.KT j }:=by
 obtain⟨c,d,f,i⟩:=C.X3.set .i64 L.cm a (.ptr k 0 0 0);refine⟨c,d,f,?_⟩;rw[f];have r:=Ni (h:=h) C.om (QR .i64 c d);refine⟨jf C.om _ C.op σ C.ob,C.op,C.tr.step (r _ σ),jf C.om _ C.ow σ C.VV,C.qd,C.ow,λj m b=>⟨jf C.om _ (C.JH j m b).2 σ (C.JH j m b).1,(C.JH j m b).2⟩,λj m b n=>?_,C.qG.step (r _ σ),C.Yo.step (r _ σ),Qy (Qc C.Wi),i.to λj=>?_,C.om,λj g=>?_,C.qH⟩
 .obtain⟨k,f,i⟩:=C.XB j m b n;exact⟨k,f,i.step (r _ σ)⟩
 .dsimp only;by_cases e:j=a<;>simp[e]
 .dsimp only at g ⊢;by_cases e:j=a
  .subst e;rw[Qf rfl,Qf rfl];exact T.step (r _ σ)
  .rw[Qe e]at g;rw[Qe e,Qe e];exact(C.kids j g).step (r _ σ)
theorem ZL.QzT{n:Nd}{e q}(E:Qj M.N n.c.iD=none)(w:h[e]? = some (qc (if n.c.leaf=true then .ptr q 0 0 0 else .raw (.pointer none)) n))(o:own e=.x9 n.c.iD)
  (v:n.c.leaf=true->∃k:Nat,n.c.Z4=k/\xi (λl=>own l=.zn n.c.iD) h q k n.c.bytes n.q) (B:n.Ok):∃c b,Ki .i64 L.cb L.eb n.c.iD (.ptr e 0 0 0)=QR .i64 c b /\
  ZL own (h.set L.b (Ki .i64 L.cb L.eb n.c.iD (.ptr e 0 0 0))) p { L with cb:=c,eb:=b,le:=λj=>if j=n.c.iD then e else L.le j,lq:=λj=>if j=n.c.iD then q else L.lq j } { M with N:=n::M.N }:=by
 obtain⟨c,b,t,y⟩:=C.qd.set .i64 L.cb n.c.iD (.ptr e 0 0 0);refine⟨c,b,t,?_⟩;rw[t];have r:=Ni (h:=h) C.ow (QR .i64 c b);have d:∀j,Qj (n::M.N) j=if j=n.c.iD then some n else Qj M.N j:=λj=>by
  unfold Qj;rw[vg];by_cases e:j=n.c.iD
  .subst e;rw[Qf rfl,N5]
  .rw[Qe e,XM (λx=>e x.symm)]
 have z:∀j m,Qj M.N j=some m->m.c.iD=j:=λj m a=>Qz.id a;have u:∀j m,j≠n.c.iD->Qj M.N j=some m->qD (λj=>if j=n.c.iD then q else L.lq j) m=qD L.lq m:=λj m f a=>by
  unfold qD;simp only[z j m a,Qe f]
 refine⟨jf C.ow _ C.op σ C.ob,C.op,C.tr.step (r _ σ),Qy (Qc C.VV),y.to λj=>?_,C.ow,λj m a=>?_,λj m a s=>?_,C.qG.step (r _ σ),C.Yo.step (r _ σ),jf C.ow _ C.om σ C.Wi,C.X3,C.om,λj f=>(C.kids j f).step (r _ σ),λj m a=>?_⟩
 .dsimp only;rw[d];by_cases e:j=n.c.iD
  .rw[Qf e,Qf e,Qf e];rfl
  .rw[Qe e,Qe e,Qe e]
 .dsimp only at a ⊢;rw[d]at a;by_cases e:j=n.c.iD
  .rw[Qf e]at a;cases a;rw[Qf e,e];refine⟨?_,o⟩;rw[jf C.ow _ o σ w];unfold qD;dsimp only;rw[Qf rfl]
  .rw[Qe e]at a;rw[Qe e,u j m e a];exact⟨jf C.ow _ (C.JH j m a).2 σ (C.JH j m a).1,(C.JH j m a).2⟩
 .dsimp only at a ⊢;rw[d]at a;by_cases e:j=n.c.iD
  .rw[Qf e]at a;cases a;rw[Qf e,e];obtain⟨k,i,g⟩:=v s;exact⟨k,i,g.step (r _ σ)⟩
  .rw[Qe e]at a;rw[Qe e];obtain⟨k,i,g⟩:=C.XB j m a s;exact⟨k,i,g.step (r _ σ)⟩
 .dsimp only at a;rw[d]at a;by_cases e:j=n.c.iD
  .rw[Qf e]at a;cases a;exact B
  .rw[Qe e]at a;exact C.qH j m a
end
def Ka(b:List Qq)(M:Ql)(a:Int):Ql:=
 match QC b a with
 | none=>{ M with N:=jL M.N a,ks:=λj=>if j=a then false else M.ks j }
 | some c=>if c.leaf=true then { M with N:=X4 c::jL M.N a,ks:=λj=>if j=a then false else M.ks j }
  else { M with N:=X4 c::jL M.N a,ks:=λj=>if j=a then true else M.ks j,KT:=λj=>if j=a then [] else M.KT j }
def VM(M:Ql)(a:List Qq):Ql:=(Kq M.T a).foldl (Ka a) { M with T:=a }
def wc(M:Ql)(a:List Qq)(b:Bool):Bool:=(Kq M.T a).any (yy M) || (ur M.T a&&(!b || decide (0<(V6 M).length)))
def XV(M:Ql)(a:List Qq):List Nd:=a.map λc=>Qv (VM M a) c.iD
def yz(b:List Qq)(A:List Int)(a:Int):List Int:=if 1<QS ((QC b a).getD default).ls then a::A else A
def qK(M:Ql)(a:List Qq):Ql:={ VM M a with N:=XV M a,To:=a,A:=[] }
def xr(M:Ql)(a:List Qq):Ql:={ qK M a with A:=(V6 (qK M a)).foldl (yz a) [] }
def jM(M:Ql)(b:Bool)(l:List JV):Int:=
 if yr M.T M.lk.t l≠0 then yr M.T M.lk.t l else if wc M (Jy M.T l) b=true then 24 else 0
def Aw(M:Ql)(l:List JV):Nat:=if yr M.T M.lk.t l≠0 then PY M.T l else 0
def KO(M:Ql)(b:Bool)(l:List JV):Ql:=if jM M b l=0 then xr M (Jy M.T l) else M
def QzU(h)(c:Qq)(f:c.leaf=true->1<=c.Z4/\c.Z4<=64/\1<=c.bytes/\c.bytes<=1048576):
  Xf prog 78 h [Yh c] (λd g=>Qjr h c d (h++g)):=by
 refine QI.mono (QzL (h.map Ob.ro) c f) ?_;rintro d p ⟨rfl,g,e,rfl,m,a,j⟩;refine⟨g,rfl,by rw[KK],g,e,rfl,m,?_,λb=>?_⟩
 .rw[KK]at a;rw[Kw (by rw[KK];omega),KK]at a;rw[Kw ω];exact a
 .obtain⟨k,i,Q⟩:=j b;refine⟨k,i,Q.step λl _ n=>?_⟩;have o:h.length+2<=l:=by
   have:(h.map Ob.ro).length+2<=l:=n;rwa [KK]at this
  exact⟨o,by rw[Kw ω,Kw (by rw[KK];omega),KK]⟩
def Qjt{c:Qq}(h:Qq.Ok c):(X4 c).Ok:=
 have z:(0:Nat)<18446744073709551616:=π
 ⟨z,⟨⟨Ln.vP,Ln.vP⟩,⟨Ln.vP,Ln.vP⟩,z,Z9 _,Z9 _⟩,⟨⟨Ln.vP,Ln.vP⟩,z⟩,⟨⟨Ln.vP,Ln.vP⟩,Z9 _⟩,h⟩
def QzV(A B:List Qq):(Kq A B).length<=A.length+B.length:=by
 have b:=PQ (λi=>(sorted (BG A B)).getD i 0) (sorted (BG A B)).length;have d:(sorted (BG A B)).length=(BG A B).length:=HE _;have a:(BG A B).length<=(A.map (·.iD)++B.map (·.iD)).length:=qS _ _;have c:(Kq A B).length<=(sorted (BG A B)).length:=by simpa[Kq,jF] using b
 simp at a;omega
section
variable {T2:List Qq}(hr:Xw T2)
include hr
theorem QzW(M:Ql)(j a:Int):Qj (Ka T2 M j).N a=if a=j then (QC T2 a).map X4 else Qj M.N a:=by
 unfold Ka;cases d:QC T2 j with
 | none=>
  dsimp only;rw[Dg];by_cases e:a=j
  .subst e;rw[Qf rfl,Qf rfl,d];rfl
  .rw[Qe e,Qe e]
 | some c=>
  have f:=((VL hr).1 d).2;have b:Qj (X4 c::jL M.N j) a=if a=j then (QC T2 a).map X4 else Qj M.N a:=by
   by_cases e:a=j
   .subst e;rw[Qf rfl,d];unfold Qj;rw[vg,show ((X4 c).c.iD==a)=true by rw[show (X4 c).c.iD=c.iD from rfl,f];exact N5 _];rfl
   .rw[Qe e];have:Qj (X4 c::jL M.N j) a=Qj (jL M.N j) a:=by
     unfold Qj;rw[vg,show ((X4 c).c.iD==a)=false by rw[show (X4 c).c.iD=c.iD from rfl,f];exact XM (λx=>e x.symm)]
    rw[this,Dg,Qe e]
  dsimp only;split
  .exact b
  .exact b
theorem Gs(a:Int):∀(l:List Int) (M:Ql),Qj (l.foldl (Ka T2) M).N a=if a∈l then (QC T2 a).map X4 else Qj M.N a
 | [],M=>σ
 | j::l,M=>by
  rw[xE,Gs a l,QzW hr];by_cases c:a∈l
  .rw[Qf c,Qf (Jw _ c)]
  .rw[Qe c];by_cases b:a=j
   .rw[Qf b,Qf (by rw[b];exact Z3)]
   .rw[Qe b,Qe (by simp[c,b])]
omit hr in
theorem QzX(M:Ql)(j a:Int):(Ka T2 M j).ks a=if a=j then (match QC T2 a with|none=>false|some c=>!c.leaf) else M.ks a:=by
 unfold Ka;by_cases e:a=j
 .subst e;rw[Qf rfl];cases d:QC T2 a with
  | none=>simp
  | some c=>cases b:c.leaf<;>simp[b]
 .rw[Qe e];cases d:QC T2 j with
  | none=>simp[e]
  | some c=>cases b:c.leaf<;>simp[e,b]
omit hr in
theorem Qju(a):∀(l:List Int) (M:Ql),(l.foldl (Ka T2) M).ks a=if a∈l then (match QC T2 a with|none=>false|some c=>!c.leaf) else M.ks a
 | [],M=>σ
 | j::l,M=>by
  rw[xE,Qju a l,QzX];by_cases d:a∈l
  .rw[Qf d,Qf (Jw _ d)]
  .rw[Qe d];by_cases b:a=j
   .rw[Qf b,Qf (by rw[b];exact Z3)]
   .rw[Qe b,Qe (by simp[d,b])]
omit hr in
theorem QzY(M:Ql)(j a:Int){x}(h:x∈(Ka T2 M j).KT a):x∈M.KT a:=by
 unfold Ka at h;split at h
 .exact h
 .split at h
  .exact h
  .dsimp only at h;split at h
   .cases h
   .exact h
omit hr in
theorem lY(a){x}:∀(l:List Int) (M:Ql),x∈(l.foldl (Ka T2) M).KT a->x∈M.KT a
 | [],M,h=>h
 | j::l,M,h=>QzY M j a (lY a l (Ka T2 M j) h)
omit hr in
theorem Qjv(M:Ql)(j:Int):(Ka T2 M j).T=M.T/\(Ka T2 M j).Lv=M.Lv/\(Ka T2 M j).lk=M.lk/\(Ka T2 M j).Qd=M.Qd/\(Ka T2 M j).acc=M.acc:=by
 unfold Ka;split
 .exact⟨rfl,rfl,rfl,rfl,rfl⟩
 .split<;>exact⟨rfl,rfl,rfl,rfl,rfl⟩
omit hr in
theorem Gt:∀(l:List Int) (M:Ql),(l.foldl (Ka T2) M).T=M.T/\(l.foldl (Ka T2) M).Lv=M.Lv/\(l.foldl (Ka T2) M).lk=M.lk/\(l.foldl (Ka T2) M).Qd=M.Qd/\(l.foldl (Ka T2) M).acc=M.acc
 | [],M=>⟨rfl,rfl,rfl,rfl,rfl⟩
 | j::l,M=>by
  obtain⟨k,i,h,g,f⟩:=Gt l (Ka T2 M j);obtain⟨e,d,c,b,a⟩:=Qjv (T2:=T2) M j;rw[xE];exact⟨k.trans e,i.trans d,h.trans c,g.trans b,f.trans a⟩
end
section
variable {M:Ql}{T2:List Qq}(I:Qz M)(I2:KU T2)
include I I2
theorem Qjw(a:Int):(Qj (VM M T2).N a).map (·.c)=QC T2 a:=by
 unfold VM;rw[Gs I2.rising];by_cases h:a∈Kq M.T T2
 .rw[Qf h];cases QC T2 a<;>rfl
 .rw[Qe h];have:=λe=>h (Ic.2 e);have e:QC M.T a=QC T2 a:=jX this;rw[<- e,I.find]
theorem Qjx{c:Qq}(d:c∈T2):Qj (VM M T2).N c.iD=some (Qv (VM M T2) c.iD)/\(Qv (VM M T2) c.iD).c=c:=by
 have a:=Qjw I I2 c.iD;rw[(VL I2.rising).2 ⟨d,rfl⟩]at a;unfold Qv;cases b:Qj (VM M T2).N c.iD with
 | none=>rw[b]at a;cases a
 | some n=>
  rw[b,KA,Q4]at a;exact⟨rfl,a⟩
theorem Qjy:(XV M T2).map (·.c)=T2:=by
 unfold XV;rw[Dw]
 conv=>rhs;rw[<- List.map_id T2]
 exact EX λc a=>(Qjx I I2 a).2
theorem Iy:∀id,Qj (XV M T2) id=Qj (VM M T2).N id:=λid=>by
 have d:=uv (XV M T2) id;rw[Qjy I I2]at d;have b:=Qjw I I2 id;cases a:Qj (XV M T2) id with
 | none=>
  rw[a]at d;rw[d]at b;cases f:Qj (VM M T2).N id with
  | none=>rfl
  | some m=>rw[f]at b;cases b
 | some n=>
  have j:n∈XV M T2:=xF a;have e:=Qz.id (M:=qK M T2) a;obtain⟨c,g,rfl⟩:=JA.1 j;obtain⟨i,h⟩:=Qjx I I2 g;rw[h]at e;rw[<- e,i]
theorem ak(H:vV T2){b}(g:wc M T2 b=false)(J:∀x∈M.Lv,x.ki∈V6 M)(F:∀id,∀x∈M.KT id,∃n∈V6 M,x.ki∈up M.T n):Qz (qK M T2):=by
 obtain⟨s,r,K,q,p⟩:=Gt (T2:=T2) (Kq M.T T2) { M with T:=T2 };have d:(qK M T2).T=T2:=s;have m:∀id,yy M id=true->QC T2 id=QC M.T id:=λid t=>by
  refine jX λe=>?_;have w:=Ic.2 (λx=>e x.symm:QC M.T id≠QC T2 id);unfold wc at g;rw[show (Kq M.T T2).any (yy M)=true from Dv.2 ⟨id,w,t⟩]at g;cases g
 have o:∀x n,n∈V6 M->x∈up M.T n->yy M x=true:=λx n j i=>Dv.2 ⟨n,j,by simpa using i⟩;have E:(0:Int) ∉ Kq M.T T2:=λh=>by
  have f0:∀T:List Qq,KU T->QC T 0=none:=λT I=>by
   rw[HF];intro c y e;have:=I.ids c y;omega
  exact Ic.1 h (by rw[f0 _ I.tree,f0 _ I2])
 refine⟨by rw[d];exact I2,by rw[d];exact H,d.symm,d.trans (Qjy I I2).symm,λa z=>(List.not_mem_nil z).elim,λid=>?_,λx hx=>?_,λid x hx=>?_,λid x hx=>?_,?_,?_⟩
 .show (VM M T2).ks id=true↔id=0\/∃n,Qj (XV M T2) id=some n/\n.c.leaf=false;rw[Iy I I2];unfold VM;rw[Qju,Gs I2.rising];by_cases h:id∈Kq M.T T2
  .rw[Qf h,Qf h];have l:id≠0:=λe=>E (e▸h);cases QC T2 id with
   | none=>simp[l]
   | some c=>simp[l,X4]
  .rw[Qe h,Qe h];exact I.ks id
 .have f:x∈M.Lv:=by rw[<- r];exact hx
  have k:=J x f;obtain⟨n,v,_,_⟩:=lU I (JI.1 (show x.ki∈(wa M.T).filter _ from k)).1;have u:x.ki∈up M.T x.ki:=by
   rw[gJ I.tree,I.some v];exact Z3
  rw[d,m _ (o _ _ k u)];exact I.BH x f
 .have f:x∈M.KT id:=lY id (Kq M.T T2) { M with T:=T2 } hx;obtain⟨c,j,i⟩:=I.vX id x f;obtain⟨n,C,B⟩:=F id x f;exact⟨c,by rw[d,m _ (o _ _ C B)];exact j,i⟩
 .exact I.vY id x (lY id (Kq M.T T2) { M with T:=T2 } hx)
 .show (VM M T2).Qd<=_;exact q▸I.Qd
 .show (VM M T2).acc<=_;exact p▸I.acc
end
def QzZ{c:Qq}(h:Vr c=0):c.leaf=true->1<=c.Z4/\c.Z4<=64/\1<=c.bytes/\c.bytes<=1048576:=by
 intro b;have a:wX c=true:=by
  cases e:wX c with
  | true=>rfl
  | false=>
   exfalso;unfold Vr at h;rw[b,e]at h;simp only[Lh,Bool.and_true,Bool.true_or,VB]at h;split at h
   .omega
   .split at h<;>omega
 unfold wX Bq at a;simp only[ZX,Xd]at a;omega
def Qz0(b)(M:Ql)(a:Int):(Ka b M a).T=M.T:=by
 unfold Ka;split
 .rfl
 .split<;>rfl
def Qah(a):∀(l:List Int) (M:Ql),(l.foldl (Ka a) M).T=M.T
 | [],_=>rfl
 | id::l,M=>by rw[xE,Qah a l,Qz0]
def Qz1{S}{h}{p}{T}{A}(O:jC S h p T A)(a)(c:Qq)(k:QC T a=some c)(i:¬ 1<QS c.ls):
  QI prog 79 h [.ptr p 0 0 0,Qb a] (λd l=>d=.tup [.nil,Qb 6]/\l=h):=by
 obtain⟨v,u,t,s,c2,r,x,z,y,o,O⟩:=O;have f:=O.o;have e:=O.m1;have b:=O.f1.at_ a;rw[wZ,k]at b;simp only[Qe i]at b;refine Q3 func79 ntmps79 results79 λg w n q=>?_;have m:=Qc f;have j:=Qc e;simp only[go_sem,Qa,f,m,e,j,b,Go.undef]
def Qjz{b}{a}:∀(l A:List Int),a∈l.foldl (yz b) A->a∈l\/a∈A
 | [],A,h=>.inr h
 | id::l,A,h=>by
  rw[xE]at h;rcases Qjz l _ h with h|h
  .exact .inl (Jw _ h)
  .unfold yz at h;split at h
   .rcases QG.1 h with h|h
    .exact .inl (h▸Z3)
    .exact .inr h
   .exact .inr h
def Qz2{l:List Int}(h:l.Nodup){k}(a:k<l.length):l.getD k 0 ∉ l.take k:=λb=>by
 rw[<- EY k l,Kg]at h;refine h.2.2 _ b (l.getD k 0) ?_ rfl;rw[Q7,QT a,Sd a];exact Z3
def Qz3{M:Ql}{a}(h:a∈V6 M):a∈wa M.T:=by unfold V6 xm at h;exact(JI.1 h).1
def Qz4{T:List Qq}(h:Xw T):(wa T).Nodup:=by
 unfold wa;have c:(T.filter (·.leaf)).Pairwise (λa b=>a.iD<b.iD):=NN _ h;rw[nU,Sl];exact c.imp λd=>ω
def Qz5{M:Ql}(I:Qz M):(V6 M).Nodup:=NN _ (Qz4 I.tree.rising)
def Qz6{u}{h}{p}{L}{M:Ql}(C:ZL u h p L M)(I:Qz M)(K:Xp M.lk)(b)(l:List JV)(hc:∀c∈l,JV.Ok c)(s:l.length<1000000)
  (BR:∀x∈M.Lv,x.ki∈V6 M) (Rj:∀id,∀x∈M.KT id,∃n∈V6 M,x.ki∈up M.T n) :
  QI prog 30 h [.ptr p 0 0 0,QZ b,UP l] (λd h'=>∃y L' M',ZL y h' p L' M'/\Qz M'/\ZE u h y h' /\
   d=.tup [Qb (Aw M l),Qb (jM M b l)]/\M'=KO M b l):=by
 have ho:=C.ob;refine Q3 func30 ntmps30 results30 λi3 w pl i=>?_;have Qg:=Qc ho;simp only[go_sem,Qa,ho,Qg];apply VD [10] i [0,1,2,3,4,5,6,7,8,9,1010,11,12,13,14,15,16,17] [];simp only[go_sem,Qa,ho,Qg];have hT:=Qc C.ob;refine wV i Qsw (QyA C.tr I.tree I.vW M.lk.t K.t1 K.t2 l hc s) λd h1 P=>?_;obtain⟨t2,rfl,c9,g,rfl⟩:=P;obtain⟨JF,Nf⟩:∃o,o=QY u h .tree:=⟨_,rfl⟩;have C1:ZL JF (h++g) p L M:=by rw[Nf];exact C.step λl s _=>⟨Kz s,QJ s⟩
 have D1:ZE u h JF (h++g):=by rw[Nf];exact ZE.app u h g .tree
 apply Yx i;by_cases U:yr M.T M.lk.t l=0;case neg=>
  have dE:(yr M.T M.lk.t l != 0)=true:=by simpa using U
  have J:jM M b l=yr M.T M.lk.t l:=by unfold jM;rw[Qf U]
  have e2:Aw M l=PY M.T l:=by unfold Aw;rw[Qf U]
  have e3:KO M b l=M:=by unfold KO;rw[J,Qe U]
  simp only[go_sem,Qa,dE];exact⟨JF,L,M,C1,I,D1,by rw[J,e2],e3.symm⟩
 have dE:(yr M.T M.lk.t l != 0)=false:=by simpa using U
 have KP:PY M.T l=0\/True:=.inr trivial;have R2:WA (λl=>JF l=.tree) (h++g) t2 (Jy M.T l):=(c9 U).step λl _ h1=>⟨by rw[Nf];unfold QY;rw[Qf h1],rfl⟩;obtain⟨f,ED⟩:∃f,f=Jy M.T l:=⟨_,rfl⟩;rw[<- ED]at R2;obtain⟨I2,K2⟩:=UR I.tree I.vW hc;rw[<- ED]at I2 K2;have R:=C1.ob;have V:=Qc R;have i2:=I.tree.len;have lD:=I2.len;simp only[go_sem,Qa,dE,R,V,Qf U];have R1:=C1.tr.toR;have Gu:(Kq M.T f).length<1000000:=by have:=QzV M.T f;omega
 apply JD i Qfs (QiK R1 R2.toR ω ω);refine LZ VK i 2 ?_;simp only[go_sem,Qa];first|refine YO ?_|skip
 refine iJ (λst=>wc M f b=false/\st=⟨[(0,.ptr p 0 0 0),(1,QZ b),(6,Qb 0),(7,Qb 0),(8,.ptr t2 0 0 0),(11,ints (Kq M.T f))],h++g⟩) ?_ ?_
 .apply Qh i;simp only[go_sem,Qa,R,V];refine rH i Tv (Qae (h++g) (Kq M.T f) Gu (.clo 74 1 [.ptr p 0 0 0]) 74 1 [.ptr p 0 0 0] Qsx rfl (yy M) (λh' n hm hx=>?_)) λd P=>?_
  .have c3:∀(l:Nat) (o:Ob),((h++g).map Ob.ro)[l]? = some o->(h'.map Ob.ro)[l]? = some o:=λl o e=>by
    obtain⟨g2,rfl⟩:=hx;have e2:=Jc ((QJ (Qc e)).trans e:((h++g).map Ob.ro++g2)[l]? = some o);rw[e2];rw[KX]at e;obtain⟨o2,h2,rfl⟩:=WH.1 e;rw[ro_ro]
   exact QzJ (C1.ro.more c3) I n
  subst P;rw[TM];apply Qh i;obtain⟨y,k1⟩:∃o,o=JF:=⟨_,rfl⟩;have a4:wc M f b=true->∃y L' M',ZL y (h++g) p L' M'/\Qz M'/\ZE u h y (h++g)/\D.tup [Qb 0,Qb 24]=.tup [Qb (Aw M l),Qb (jM M b l)]/\M'=KO M b l:=λhB=>by
   have J:jM M b l=24:=by unfold jM;rw[Qe (by rw[U];simp),<- ED,Qf hB]
   have e2:Aw M l=0:=by unfold Aw;rw[Qe (by rw[U];simp)]
   have e3:KO M b l=M:=by unfold KO;rw[J];rfl
   exact⟨JF,L,M,C1,I,D1,by rw[J,e2];rfl,e3.symm⟩
  cases KF:(Kq M.T f).any (yy M) with
  | true=>
   simp only[go_sem,Qa];exact a4 (by unfold wc;rw[KF];rfl)
  | false=>
   simp only[go_sem,Qa,R,V];cases Z:ur M.T f with
   | false=>
    refine Xg i pT ?_ (Qag R1 R2.toR ω ω Gu) ?_
    .simp only[go_sem,Qa,R,V,Z]
    apply Qh i;simp only[go_sem,Qa,R,V,Z];refine⟨_,⟨by unfold wc;rw[KF,Z];rfl,rfl⟩,?_⟩;exact QQ
   | true=>
    cases b with
    | false=>
     refine Xg i pT ?_ (Qag R1 R2.toR ω ω Gu) ?_
     .simp only[go_sem,Qa,R,V,Z]
     apply Qh i;simp only[go_sem,Qa,R,V,Z];exact a4 (by unfold wc;rw[Z];simp)
    | true=>
     refine Xg i pT ?_ (Qag R1 R2.toR ω ω Gu) ?_
     .simp only[go_sem,Qa,R,V,Z]
     apply Qh i;simp only[go_sem,Qa,R,V,Z];apply JD i pU (Qaf C1.ro I);apply Qh i;simp only[go_sem,Qa,R,V];cases hd:decide ((0:Int)<((V6 M).length:Int)) with
     | true=>
      simp only[go_sem,Qa,hd];exact a4 (by unfold wc;rw[Z];simp;right;simpa using hd)
     | false=>
      simp only[go_sem,Qa,hd];refine⟨_,⟨by unfold wc;rw[KF,Z];simp;simpa using hd,rfl⟩,?_⟩;exact QQ
 rintro st ⟨Yd,rfl⟩;have C2:=C1.QzO R2;have D2:=D1.trans (ZE.set (own:=JF) (h:=h++g) (l:=p) (kR M.lk t2 L.b L.o L.v L.m M.Qd M.acc) (by rw[C1.op];decide));generalize e4:(h++g).set p (kR M.lk t2 L.b L.o L.v L.m M.Qd M.acc)=H2 at C2 D2;have e8:(h++g).set p ⟨.one,0,9,1,λ_=>[.raw (.int .i64 M.lk.t),.raw (.int .i64 M.lk.ZJ),.ptr t2 0 0 0,.mref L.b 0,.ptr L.o 0 0 0,.ptr L.v 0 0 0,.mref L.m 0,.raw (.int .u64 (M.Qd:Nat)),.raw (.int .u64 (M.acc:Nat))]⟩=H2:=e4;apply Qh i;simp only[go_sem,Qa,R,V,e8];obtain⟨E,a8⟩:∃E,E=Kq M.T f:=⟨_,rfl⟩;rw[<- a8]at Gu;rw[<- a8];refine Js (λk st=>∃W H L2,ZL W H p L2 ((E.take k).foldl (Ka f) { M with T:=f })/\L2.t=t2/\ZE u h W H/\st=⟨[(0,.ptr p 0 0 0),(6,Qb 0),(7,Qb 0),(8,.ptr t2 0 0 0),(71,ints E),(72,Qb E.length),(73,Qb k)],H⟩) E.length (s0:=⟨[(0,.ptr p 0 0 0),(6,Qb 0),(7,Qb 0),(8,.ptr t2 0 0 0),(71,ints E),(72,Qb E.length),(73,Qb 0)],H2⟩) QQ ⟨JF,H2,_,C2,rfl,D2,rfl⟩ ?_;rintro k st hk ⟨W,H,L2,B,y9,Dk,rfl⟩;by_cases Qr:k<E.length
 .have dk:=Q1 Qr;obtain⟨id,Zg⟩:∃id,id=E.getD k 0:=⟨_,rfl⟩;obtain⟨O,Gl⟩:∃O,O=(E.take k).foldl (Ka f) { M with T:=f }:=⟨_,rfl⟩;have JE:(E.take (k+1)).foldl (Ka f) { M with T:=f }=Ka f O id:=by
   rw[GR,QT Qr,jY,<- Gl,Zg,Q7,QT Qr];rfl
  have Rl:O.T=f:=by rw[Gl];exact Qah _ _ _
  rw[<- Gl]at B;have Zs:=Vl (show k<4611686018427387904 from ω);have RT:XR H t2 f:=by have:=B.tr.toR;rwa [y9,Rl]at this
  obtain⟨x,hx⟩:∃x,x=(QC f id).getD default:=⟨_,rfl⟩;have qo:=Pr RT id;rw[<- hx]at qo;have Vg:=B.ob;have ja:=Qc Vg;have zL:=B.VV;have c1:=Qc zL;have Xv:=B.Wi;have Mp:=Qc Xv;have LI:L2.b≠L2.m:=λe=>by have:=B.ow;rw[e,B.om]at this;cases this
  have qw:L2.b≠p:=λe=>by have:=B.ow;rw[e,B.op]at this;cases this
  have j0:L2.m≠p:=λe=>by have:=B.om;rw[e,B.op]at this;cases this
  apply Qh i;simp only[go_sem,Qa,dk,Qr,<- Zg];refine Xg i wS ?_ qo ?_
  .simp only[go_sem,Qa,Vg,ja,zL,c1,Xv,Mp,Qm LI,Qm qw]
  apply Qh i;simp only[go_sem,Qa,Vg,ja,zL,c1,Xv,Mp,Qm LI,Qm qw];have C3:=B.QzQ id;have D3:=Dk.trans (ZE.set (own:=W) (h:=H) (l:=L2.b) (QR .i64 L2.cb (Kc L2.eb id)) (by rw[B.ow];decide));have C4:=C3.QzR id;have D4:=D3.trans (ZE.set (own:=W) (h:=H.set L2.b (QR .i64 L2.cb (Kc L2.eb id))) (l:=L2.m) (QR .i64 L2.cm (Kc L2.em id)) (by rw[B.om];decide));have C5:=C4.PZ [⟨.one,0,14,1,λ_=>x.cells⟩];have D5:=D4.trans (ZE.app W _ [⟨.one,0,14,1,λ_=>x.cells⟩] .no);have kE:((H.set L2.b (QR .i64 L2.cb (Kc L2.eb id))).set L2.m (QR .i64 L2.cm (Kc L2.em id))).length=H.length:=σ;generalize b4:(H.set L2.b (QR .i64 L2.cb (Kc L2.eb id))).set L2.m (QR .i64 L2.cm (Kc L2.em id))++[⟨.one,0,14,1,λ_=>x.cells⟩]=r at C5 D5;have a7:=b4;simp only[go_sem]at a7;have an:r[H.length]? = some ⟨.one,0,14,1,λ_=>x.cells⟩:=by rw[<- b4,<- kE,Vq rfl];rfl
  have c0:=Qc an;generalize QY W ((H.set L2.b (QR .i64 L2.cb (Kc L2.eb id))).set L2.m (QR .i64 L2.cm (Kc L2.em id))) .no=Ar at C5 D5;have EB:=C5.ob;have Rc:=Qc EB;have U7:=C5.VV;have lL:=Qc U7;have c4:=C5.Wi;have k0:=Qc c4;cases hf:QC f id with
  | none=>
   have J:Ka f O id={ O with N:=jL O.N id,ks:=λj=>if j=id then false else O.ks j }:=by unfold Ka;rw[hf]
   have i0:ZL Ar r p { L2 with eb:=Kc L2.eb id,em:=Kc L2.em id } (Ka f O id):=by rw[J];exact C5
   rw[hf]at qo;simp only[go_sem,Qa,hf,xJ,a7];exact⟨Qr,_,QH.frame (by simp only[go_sem,Zs]),Ar,r,{ L2 with eb:=Kc L2.eb id,em:=Kc L2.em id },(by rw[JE];exact i0),y9,D5,rfl⟩
  | some c=>
   have gp:x=c:=by rw[hx,hf];rfl
   obtain⟨Xj,lW⟩:=(VL I2.rising).1 hf;subst gp;have qF:=QzZ (I2.right x Xj);have qs:=QzU r x qF;simp only[go_sem,Qa,hf,wz,a7];apply QB i [0,1,2,3,4,5,1006,1007];simp only[go_sem,Qa,EB,Rc,an,c0];refine Tt i Qsy rfl ?_ qs rfl λd g7 P=>?_
   .simp only[go_sem]
   obtain⟨rfl,g8,lq,c5,j9,PJ,h3⟩:=P;obtain rfl:g7=g8:=List.append_cancel_left c5;subst lW;obtain⟨F,a6⟩:∃o:Nat->Tag,o=λl=>if l<r.length then Ar l else if l=r.length then .no else if l=r.length+1 then .x9 x.iD else .zn x.iD:=⟨_,rfl⟩;have w7:∀l,l<r.length->F l=Ar l:=λl s=>by rw[a6];exact Qf s
   have we:F (r.length+1)=.x9 x.iD:=by rw[a6];dsimp only;rw[Qe ω,Qe ω,Qf rfl]
   have wq:∀l,r.length+2<=l->F l=.zn x.iD:=λl s=>by rw[a6];dsimp only;rw[Qe ω,Qe ω,Qe ω]
   have C7:=C5.step (own':=F) (h':=r++g7) λl s _=>⟨w7 l s,QJ s⟩;have D7:ZE u h F (r++g7):=D5.trans ⟨w7,λl s _=>QJ s,σ⟩;obtain⟨c8,e5,j1,C8⟩:=C7.QzT (n:=X4 x) (e:=r.length+1) (q:=lq) (by dsimp only;rw[Dg];exact Qf rfl) PJ we (λvN=>by
    obtain⟨k8,aq,uB⟩:=h3 vN;exact⟨k8,aq,uB.step λl _ s=>⟨wq l s,rfl⟩⟩) (Qjt (K2 x Xj))
   obtain⟨M8,a1⟩:∃M8,M8={ O with N:=X4 x::jL O.N x.iD,ks:=λj=>if j=x.iD then false else O.ks j }:=⟨_,rfl⟩;obtain⟨v,a2⟩:∃v:Loc,v={ L2 with em:=Kc L2.em x.iD,cb:=c8,eb:=e5,le:=λj=>if j=x.iD then r.length+1 else L2.le j,lq:=λj=>if j=x.iD then lq else L2.lq j }:=⟨_,rfl⟩;have C8:ZL F ((r++g7).set L2.b (Ki .i64 L2.cb (Kc L2.eb x.iD) x.iD (.ptr (r.length+1) 0 0 0))) p v M8:=by rw[a2,a1];exact C8
   have b2:v.t=t2:=by rw[a2];exact y9
   have i8:v.m=L2.m:=by rw[a2]
   have D8:=D7.trans (ZE.set (own:=F) (h:=r++g7) (l:=L2.b) (Ki .i64 L2.cb (Kc L2.eb x.iD) x.iD (.ptr (r.length+1) 0 0 0)) (by rw[C7.ow];decide));have eH:(r++g7).set L2.b (Ki .i64 L2.cb (Kc L2.eb x.iD) x.iD (.ptr (r.length+1) 0 0 0))=r.set L2.b (Ki .i64 L2.cb (Kc L2.eb x.iD) x.iD (.ptr (r.length+1) 0 0 0))++g7:=bT _ _ lL;have h0:L2.b≠H.length:=λe=>by
    have h1:=Qc B.VV;omega
   have ar:((r++g7).set L2.b (Ki .i64 L2.cb (Kc L2.eb x.iD) x.iD (.ptr (r.length+1) 0 0 0)))[H.length]? = some ⟨.one,0,14,1,λ_=>x.cells⟩:=(Qm h0).trans ((QJ c0).trans an);rw[eH]at ar C8 D8;generalize e0:r.set L2.b (Ki .i64 L2.cb (Kc L2.eb x.iD) x.iD (.ptr (r.length+1) 0 0 0))++g7=m at ar C8 D8;have b9:=Qc ar;have b3:=C8.ob;have g6:=Qc b3;have b8:=C8.Wi;have b7:=Qc b8;apply Zd i;simp only[go_sem,Qa,U7,lL,e0];cases vN:x.leaf with
   | true=>
    simp only[go_sem,Qa,ar,b9,vN];have J:Ka f O x.iD=M8:=by unfold Ka;rw[hf,a1];dsimp only;rw[Qf vN]
    exact⟨Qr,_,QH.frame (by simp only[go_sem,Zs]),F,m,v,(by rw[JE,J];exact C8),b2,D8,rfl⟩
   | false=>
    simp only[go_sem,Qa,ar,b9,vN];have C9:=C8.step (own':=QY F m (.Yn x.iD)) (h':=m++xq m.length) λl s _=>⟨Kz s,QJ s⟩;have D9:ZE u h (QY F m (.Yn x.iD)) (m++xq m.length):=D8.trans (ZE.app F m (xq m.length) (.Yn x.iD));have un:∀l,m.length<=l->QY F m (.Yn x.iD) l=.Yn x.iD:=λl s=>by unfold QY;rw[Qf s]
    obtain⟨e7,g5,j4,Ap⟩:=C9.QzS x.iD (k:=m.length+2) (Qaa (S:=λl=>QY F m (.Yn x.iD) l=.Yn x.iD) (by rw[Vq rfl];rfl) (by rw[Wm (k:=1) rfl];rfl) (by rw[Wm (k:=2) rfl];rfl) (un _ ω) (un _ ω) (un _ ω));have Iq:=D9.trans (ZE.set (own:=QY F m (.Yn x.iD)) (h:=m++xq m.length) (l:=v.m) (Ki .i64 v.cm v.em x.iD (.ptr (m.length+2) 0 0 0)) (by rw[C9.om];decide));have e6:(m++xq m.length).set v.m (Ki .i64 v.cm v.em x.iD (.ptr (m.length+2) 0 0 0))=m.set v.m (Ki .i64 v.cm v.em x.iD (.ptr (m.length+2) 0 0 0))++xq m.length:=bT _ _ b7;rw[e6]at Ap Iq;generalize g4:m.set v.m (Ki .i64 v.cm v.em x.iD (.ptr (m.length+2) 0 0 0))++xq m.length=h5 at Ap Iq;apply QB i [0,1,2,3,4,1005,1006];simp only[go_sem,Qa,b3,g6];refine Tt i Qfp rfl ?_ (Qjk m) rfl λd g9 P=>?_
    .simp only[go_sem]
    obtain⟨rfl,rfl⟩:=P;apply Zd i;simp only[go_sem,Qa,b8,b7,g4];have J:Ka f O x.iD={ M8 with ks:=λj=>if j=x.iD then true else M8.ks j,KT:=λj=>if j=x.iD then [] else M8.KT j }:=by
     unfold Ka;rw[hf,a1];dsimp only;rw[Qe (by rw[vN];exact k9)];congr 1;funext j;by_cases e:j=x.iD
     .rw[Qf e,Qf e]
     .rw[Qe e,Qe e,Qe e]
    exact⟨Qr,_,QH.frame (by simp only[go_sem,Zs]),QY F m (.Yn x.iD),h5,{ v with cm:=e7,em:=g5,lk:=λj=>if j=x.iD then m.length+2 else v.lk j },(by rw[JE,J];exact Ap),b2,Iq,rfl⟩
 .have Jt:k=E.length:=ω;subst Jt;have c7:(E.take E.length).foldl (Ka f) { M with T:=f }=VM M f:=by rw[YH,a8];rfl
  rw[c7]at B;have Rl:(VM M f).T=f:=Qah _ _ _;have RT:XR H t2 f:=by have:=B.tr.toR;rwa [y9,Rl]at this
  have dk:decide (E.length<E.length)=false:=QU ω;apply Qh i;simp only[go_sem,Qa,dk];apply QM i;refine JO i Qfq (Qha RT I2) λd Oc P=>?_;obtain⟨rfl,hO,Q,rfl⟩:=P;have b1:=B.step (own':=QY W H .on) (h':=H++Q) λl s _=>⟨Kz s,QJ s⟩;have h6:=Dk.trans (ZE.app W H Q .on);have LM:jC (λl=>QY W H .on l=.on) (H++Q) (H.length+3) f []:=hO.step λl _ s=>⟨by unfold QY;rw[Qf s],rfl⟩;have i1:=b1.QzP LM;have au:=h6.trans (ZE.set (own:=QY W H .on) (h:=H++Q) (l:=p) (kR (VM M f).lk L2.t L2.b (H.length+3) L2.v L2.m (VM M f).Qd (VM M f).acc) (by rw[b1.op];decide));have Rm:ZL _ _ p { L2 with o:=H.length+3 } (qK M f):=i1.congrN (N:=XV M f) (Iy I I2);have Ro:Qz (qK M f):=ak I I2 K2 Yd BR Rj;have aw:=b1.ob;have g3:=Qc aw;generalize Xn:(VM M f).lk=a0 at Rm au aw;generalize ay:(VM M f).Qd=b6 at Rm au aw;generalize j2:(VM M f).acc=b5 at Rm au aw;generalize g1:(H++Q).set p (kR a0 L2.t L2.b (H.length+3) L2.v L2.m b6 b5)=a9 at Rm au;have g0:(H++Q).set p ⟨.one,0,9,1,λ_=>[.raw (.int .i64 a0.t),.raw (.int .i64 a0.ZJ),.ptr L2.t 0 0 0,.mref L2.b 0,.ptr (H.length+3) 0 0 0,.ptr L2.v 0 0 0,.mref L2.m 0,.raw (.int .u64 (b6:Nat)),.raw (.int .u64 (b5:Nat))]⟩=a9:=g1;apply Qh i;simp only[go_sem,Qa,aw,g3,g0];apply JD i pU (Qaf Rm.ro Ro);apply QM i;obtain⟨z,Yb⟩:∃z,z=V6 (qK M f):=⟨_,rfl⟩;have j3:z.length<=64:=by rw[Yb];exact Qjo Ro
  rw[<- Yb];refine Js (λk st=>∃BL H3,ZL BL H3 p { L2 with o:=H.length+3 } { qK M f with A:=(z.take k).foldl (yz f) [] }/\Qz { qK M f with A:=(z.take k).foldl (yz f) [] }/\ZE u h BL H3/\st=⟨[(0,.ptr p 0 0 0),(6,Qb 0),(7,Qb 0),(122,ints z),(123,Qb z.length),(124,Qb k)],H3⟩) z.length (s0:=⟨[(0,.ptr p 0 0 0),(6,Qb 0),(7,Qb 0),(122,ints z),(123,Qb z.length),(124,Qb 0)],a9⟩) QQ ⟨_,a9,Rm,Ro,au,rfl⟩ ?_;rintro k st hk ⟨BL,H3,Iz,Nj,b0,rfl⟩;by_cases jy:k<z.length
  .have a5:=Q1 jy;obtain⟨id,Zg⟩:∃id,id=z.getD k 0:=⟨_,rfl⟩;have Zs:=Vl (show k<4611686018427387904 from ω);obtain⟨Y,a3⟩:∃Y,Y=(z.take k).foldl (yz f) []:=⟨_,rfl⟩;have JE:(z.take (k+1)).foldl (yz f) []=yz f Y id:=by
    rw[GR,QT jy,jY,<- a3,Zg,Q7,QT jy];rfl
   rw[<- a3]at Iz Nj;have e9:id∈V6 (qK M f):=by rw[<- Yb,Zg];exact lT jy
   obtain⟨nd,hn,vN,pA⟩:=lU Ro (id:=id) (Qz3 e9);have Wh:QC f id=some nd.c:=by have:=Ro.some hn;rwa [show (qK M f).T=f from Rl]at this
   have zX:yz f Y id=if 1<QS nd.c.ls then id::Y else Y:=by unfold yz;rw[Wh];rfl
   have Jf:Jx f Y id=false:=by
    rw[jW];intro h9;have h8:=(lF I2 Wh vN Y).1 h9;rw[a3]at h8;rcases Qjz _ _ h8 with h7|h7
    .have Jh:z.Nodup:=by rw[Yb];exact Qz5 Ro
     rw[Zg]at h7;exact Qz2 Jh jy h7
    .cases h7
   have XD:=Iz.ob;have jH:=Qc XD;apply Qh i;simp only[go_sem,Qa,a5,jy,<- Zg,XD,jH];by_cases hs:1<QS nd.c.ls
   .rw[Qf hs]at zX;refine JO i pV (Qg5 Iz.qG I2 (by have:=Nj.XS;rwa [show ({ qK M f with A:=Y }:Ql).T=f from Rl]at this) id nd.c Wh vN hs Jf) λd h4 P=>?_;obtain⟨d1,rfl,CG,O4,s4⟩:=P;have C4:=Iz.act O4 s4;have I4:Qz { qK M f with A:=id::Y }:=Nj.act (λa ha=>by
     rcases QG.1 ha with e|e
     .exact⟨nd.c,by rw[e,show ({ qK M f with A:=Y }:Ql).T=f from Rl];exact Wh,vN,hs⟩
     .exact Nj.XS a e)
    have D4:=b0.trans (ZE.of (t:=.on) σ s4);apply QM i;exact⟨jy,_,QH.frame (by simp only[go_sem,Zs]),_,h4,by rw[JE,zX];exact C4,by rw[JE,zX];exact I4,D4,rfl⟩
   .rw[Qe hs]at zX;refine JO i pV (Qz1 Iz.qG id nd.c Wh hs) λd h4 P=>?_;obtain⟨rfl,rfl⟩:=P;apply QM i;exact⟨jy,_,QH.frame (by simp only[go_sem,Zs]),BL,h4,by rw[JE,zX];exact Iz,by rw[JE,zX];exact Nj,b0,rfl⟩
  .have Hh:k=z.length:=ω;subst Hh;have a5:decide (z.length<z.length)=false:=QU ω;have J:jM M b l=0:=by unfold jM;rw[Qe (by rw[U];simp),<- ED,Qe (by rw[Yd];exact k9)]
   have e2:Aw M l=0:=by unfold Aw;rw[Qe (by rw[U];simp)]
   have e3:KO M b l={ qK M f with A:=z.foldl (yz f) [] }:=by unfold KO;rw[Qf J,<- ED,Yb];rfl
   rw[YH,<- e3]at Iz Nj;apply Qh i;simp only[go_sem,Qa,a5];apply QM i;exact⟨BL,_,_,Iz,Nj,b0,by rw[J,e2];rfl,rfl⟩
section
variable {h:List Ob}{p:Nat}{L:Loc}{M:Ql}(C:je h p L M)
include C
def Rp(L:List It):Nat:=match L.head? with
 | some x=>min x.ka never
 | none=>never
def Ve(M:Ql):Nat:=min (Rp M.Lv) (Bz (M.KT 0))
theorem QjM(I:Qz M):Zf prog 131 h [.ptr p 0 0 0] (λd=>d=u64 (Ve M)):=by
 have a:=C.ob;have c:=C.Wi;have j:M.ks 0=true:=(I.ks 0).2 (.inl rfl);have f:=C.X3.at_ 0;rw[Qf j]at f;have m:=C.kids 0 j;refine ZD func131 ntmps131 results131 λk w n F g o b=>?_;rw[<- g]at a c;have e:=Qc a;have i:=Qc c;simp only[go_sem,Qa,a,e,c,i,f];apply QB b [0,1,2,3,5,6,7,8,9,1004,1010,11,12];simp only[go_sem,Qa,a,e,c,i,f];have l:Zf prog 172 F [.ptr L.v 0 0 0] (λd=>d=u64 (Rp M.Lv)):=QvL (C.Yo.more (KV g));apply WZ b Qto l;apply Zd b;simp only[go_sem,Qa,a,e];apply WZ b pX (sS (m.more (KV g)) (I.vY 0));apply Zd b;simp only[go_sem,Qa,a,e];refine⟨[],(Jv F).symm,?_⟩;unfold Ve;rw[Nat.min_def,Int.min_def];congr 2;split<;>split<;>omega
end
def QAr{a}{h:List Ob}{p}{L}{M:Ql}(C:ZL a h p L M):QI prog 34 h [.ptr p 0 0 0] (λd e=>d=.ptr (h.length+1) 0 0 0/\WA (λl=>h.length<=l) e (h.length+1) M.T/\∃g,e=h++g/\g.length=2):=by
 have b:=C.ob;refine Q3 func34 ntmps34 results34 λf w m c=>?_;have k:=Qc b;simp only[go_sem,Qa,b,k];refine JO c Qfv (QhQ C.tr) λd n j=>?_;obtain⟨rfl,R,g,rfl,i⟩:=j;apply QM c;exact⟨R,g,rfl,i⟩
def je.lZ{h}{p}{L:Loc}{M:Ql}(C:je h p L M)(I:Qz M):HQ h L.o M.T M.A:=by
 have:=C.qG;rwa [I.to]at this
def QAs{h}{p}{L:Loc}{M:Ql}(C:je h p L M)(I:Qz M){a}{n}(l:Qj M.N a=some n):Zf prog 89 h [.ptr p 0 0 0,.ptr (L.le a) 0 0 0] (λd=>d=u64 (Xo M a n)):=by
 have b:=C.ob;have c:=C.JH a n l;have o:=C.Wi;have q:=Qz.id l;have s:=Ef (C.lZ I) I.tree I.XS a (I.Ii l);unfold Xo;cases i:n.c.leaf with
 | true=>
  rw[Qf (.inl rfl)];refine ZD func89 ntmps89 results89 λk w x F j y e=>?_;rw[<- j]at b c;have g:=Qc b;have f:=Qc c;simp only[go_sem,Qa,b,g,c,f];apply QB e o01;simp only[go_sem,Qa,b,g,c,f,i,Go.undef];all_goals exact Wo
 | false=>
  have u:M.ks a=true:=(I.ks a).2 (.inr ⟨n,l,i⟩);have v:=C.X3.at_ a;rw[Qf u]at v;have B:=C.kids a u;have z:Jx M.T M.A a=JP M a:=rfl;rw[z]at s;cases r:JP M a with
  | false=>
   rw[r]at s;rw[Qf (.inr rfl)];refine ZD func89 ntmps89 results89 λk w x F j y e=>?_;rw[<- j]at b c;have g:=Qc b;have f:=Qc c;simp only[go_sem,Qa,b,g,c,f];apply QB e o01;simp only[go_sem,Qa,b,g,c,f,i,Go.undef];have m:Jx M.T M.A a=false:=r;refine qz e HA ?_ (Ef ((C.lZ I).more (KV j)) I.tree I.XS a (I.Ii l)) ?_
   .simp only[go_sem,Qa,b,g,c,f,i,Go.undef,q,m]
   apply Zd e;simp only[go_sem,Qa,b,g,c,f,i,Go.undef,q,m];all_goals exact Wo
  | true=>
   rw[r]at s;rw[Qe σ];have m:Jx M.T M.A a=true:=r;refine ZD func89 ntmps89 results89 λk w x F j y e=>?_;rw[<- j]at b c o;have g:=Qc b;have f:=Qc c;have t:=Qc o;simp only[go_sem,Qa,b,g,c,f,o,t];apply QB e o01;simp only[go_sem,Qa,b,g,c,f,i,Go.undef];refine qz e HA ?_ (Ef ((C.lZ I).more (KV j)) I.tree I.XS a (I.Ii l)) ?_
   .simp only[go_sem,Qa,b,g,c,f,i,Go.undef,q,m]
   apply Zd e;simp only[go_sem,Qa,b,g,c,f,i,Go.undef,q,m];apply QB e o10;simp only[go_sem,Qa,b,g,c,f,o,t,v,q];apply WZ e pX (sS (B.more (KV j)) (I.vY a));apply Zd e;simp only[go_sem,Qa,b,g,c,f,o,t];apply Pa e QfE (QhP n.cp.fit (Bz (M.KT a)));apply Yx e;all_goals exact Wo
def QAt(h):Zf prog 90 h [.raw (.pointer none)] (λd=>d=.agg (⟨[],0,0,0,0,0,0⟩:Qu).Uu):=by
 refine ZD func90 ntmps90 results90 λa w b F e f c=>?_;simp only[go_sem,Qa];exact⟨_,rfl⟩
def QjN(M:Ql)(a:Int)(n:Nd):List D:=n.c.cells++(QZ (JP M a)::u64 n.Zw::(n.du.cells++(n.sh.cells++(n.cp.cells++(u64 (Xo M a n)::n.q.Uu)))))
def QAu{h}{p}{L}{M:Ql}(C:je h p L M)(I:Qz M){e}{n:Nd}(f:Qj M.N e=some n)(u:n.c.leaf=false->n.q=⟨[],0,0,0,0,0,0⟩):
  Zf prog 36 h [.ptr p 0 0 0,Qb e] (λd=>d=.tup [.agg (QjN M e n),Qb 0]):=by
 have a:=C.ob;have l:=C.VV;have b:=C.JH e n f;have s:=C.look f;have x:=Qz.id f;refine Bn VK 200 func36 rfl ntmps36 results36 rfl λt w y F q z c=>?_;rw[<- q]at a l b;have j:=Qc a;have r:=Qc l;have i:=Qc b;simp only[go_sem,Qa,a,j,l,r,b,i,s];apply QB c [0,1,2,3,4,5,6,7,8,10,11,12,13,14,15,16,17,18,19,20,21,22,23,24,25,26,27,29,30,31,32,1009,1028,1033,34,1035,36];simp only[go_sem,Qa,a,j,l,r,b,i,s];have m:=λG:List Ob=>(C.more (KV q)).more (Ee (g:=G));apply WZ c HA (Ef ((m _).lZ I) I.tree I.XS e (I.Ii f));apply Zd c;simp only[go_sem,Qa,a,j,b,i];apply WZ c Qfw (QAs (m _) I f);apply Zd c;simp only[go_sem,Qa,a,j,b,i];have v:∀G:List Ob,Zf prog 90 (F++G) [qD L.lq n] (λd=>d=.agg n.q.Uu):=λG=>by
  unfold qD;cases o:n.c.leaf with
  | true=>
   obtain⟨k,_,Q⟩:=(m G).XB e n f o;rw[Qf rfl,x];exact Qwp Q
  | false=>
   rw[Qe k9,u o];exact QAt _
 refine qz c QsD ?_ (v _) ?_
 .simp only[go_sem,Qa];exact HG _
 apply Zd c;simp only[go_sem,Qa,a,j,b,i];exact⟨_,rfl,rfl⟩
end Go.Fg.X
namespace Go.Fg.X
open Go.Proofs Go.Fg
open Go.Proofs.Tryz
def pks(l:List Pk):D:=.imm 6 l.length (Pk.rows l)
def QIQ(n:Nat)(H:List Ob)(d:D)(L:List Pk):Prop:=(d=.nil/\L=[])\/∃b g a,d=.ref b g 0 L.length/\n<=b/\H[b]? = some ⟨.arr,g,6,L.length,a⟩/\∀i,i<L.length->a i=(L.getD i default).cells
end Go.Fg.X
namespace Go.Fg.X
open Go.Proofs Go.Fg
open Go.Proofs.Tryz
def lnI(M:Ql)(a:Int):Nat:=(Qv M a).q.l.length
def byI(M:Ql)(a:Int):Nat:=Ym (Qv M a).q.l
def QjO(f:Int->Nat)(l:List Int):Nat:=(l.map f).sum
structure QIR (p m c:Nat) (es:List ZQ) (M:Ql) (F:List Ob) (n:Nat) (s:St):Prop where
 ex:∃seen out H,y5 es seen=n/\VE F H/\out.Perm ((es.filter λe=>seen.contains e.b&&true).map (·.k))/\H[F.length]? = some (Yw m c c seen) /\
  s=⟨[(0,.ptr p 0 0 0),(4,Qb (QjO (lnI M) out)),(5,Qb (QjO (byI M) out)),(14,.mref F.length 0)],H⟩
structure Good (M:Ql):Prop where
 lv:∀x∈M.Lv,∃n,Qj M.N x.ki=some n/\n.c.leaf=true/\n.q.l≠[]
 kt:∀id,∀x∈M.KT id,JP M x.ki=true
 act:∀id,id∈M.A↔∃n,Qj M.N id=some n/\n.c.leaf=true/\n.q.l≠[]/\1<QS n.c.ls
section
variable {M:Ql}(I:Qz M)(G:Good M)
include I G
theorem Good.QjP{b}{n:Nd}(c:Qj M.N b=some n)(e:n.c.leaf=true)(d:n.q.l≠[]):b∈V6 M:=by
 have f:=I.some c;obtain⟨h,g⟩:=(VL I.tree.rising).1 f;refine JI.2 ⟨JA.2 ⟨n.c,JI.2 ⟨h,e⟩,g⟩,?_⟩;unfold Gr Qv;rw[c];cases a:n.q.l with
 | nil=>exact absurd a d
 | cons x l=>simp[a]
theorem Good.hA(a):∀n,Qj M.N a=some n->n.c.leaf=true->n.q.l=[]->a ∉ M.A:=λn d g c e=>by
 obtain⟨m,b,_,f,_⟩:=(G.act a).1 e;rw[d]at b;cases b;exact f c
theorem Good.BR:∀x∈M.Lv,x.ki∈V6 M:=λx hx=>by
 obtain⟨n,c,b,a⟩:=G.lv x hx;exact Good.QjP I G c b a
theorem Good.Rj:∀id,∀x∈M.KT id,∃n∈V6 M,x.ki∈up M.T n:=λid x hx=>by
 obtain⟨a,c,b⟩:=zd.1 (G.kt id x hx);obtain⟨n,f,e,d,_⟩:=(G.act a).1 c;exact⟨a,Good.QjP I G f e d,b⟩
theorem Good.leaf{a}{n:Nd}(b:Qj M.N a=some n)(e:n.c.leaf=true)(f:JP M a=true):n.q.l≠[]/\a∈M.A:=by
 have d:=(lF I.tree (I.some b) e M.A).1 f;obtain⟨m,c,_,g,_⟩:=(G.act a).1 d;rw[b]at c;cases c;exact⟨g,d⟩
theorem Good.share(a):∀k p id,BJ M a k p=some id->∃n,Qj M.N id=some n/\n.c.leaf=true/\JP M id=true
 | 0,_,_,h=>by cases h
 | k+1,p,id,h=>by
  unfold BJ at h;cases d:firstM M a p with
  | none=>rw[d]at h;cases h
  | some x=>
   rw[d]at h;dsimp only at h;have f:x∈M.KT p:=xF d;split at h
   .rename_i c;cases h;have b:=I.uw p x f;rw[I.find]at b;cases e:Qj M.N x.ki with
    | none=>rw[e]at b;cases b
    | some n=>exact⟨n,rfl,by unfold Qv at c;rw[e]at c;exact c,G.kt p x f⟩
   .exact Good.share a k x.ki id h
theorem Good.uQ(a):∀o id r,yx M a o->Vj M a o=some (id,r)->∃n,Qj M.N id=some n/\n.c.leaf=true/\n.q.l≠[]/\(1<QS n.c.ls->id∈M.A):=λo id r g d=>by
 cases o with
 | some x=>
  simp only[Vj,Q4,Zh]at d;obtain⟨rfl,rfl⟩:=d;have hx:x∈M.Lv:=(JI.1 g.1).1;obtain⟨n,c,b,e⟩:=G.lv x hx;exact⟨n,c,b,e,λf=>(G.act x.ki).2 ⟨n,c,b,e,f⟩⟩
 | none=>
  simp only[Vj,WH]at d;obtain⟨i,h,j⟩:=d;cases j;obtain⟨n,c,b,e⟩:=Good.share I G a 17 0 _ h;obtain⟨f,k⟩:=Good.leaf I G c b e;exact⟨n,c,b,f,λ_=>k⟩
omit I in
end
end Go.Fg.X
namespace Go.Fg.X
open Go.Proofs Go.Fg
open Go.Proofs.Tryz
def zy(M:Ql)(p:Int)(x:It):Prop:=∃n,Qj M.N x.ki=some n/\n.c.parent=p/\JP M x.ki=true/\x=⟨n.sh.time,x.ki,Xo M x.ki n,x.ki⟩
def Dh(M:Ql)(x:It):Prop:=∃n,Qj M.N x.ki=some n/\n.c.leaf=true/\n.q.l≠[]/\1<QS n.c.rt/\x=⟨n.du.KN,x.ki,n.du.dead,x.ki⟩
def EG(M:Ql):Prop:=∀x,x∈M.Lv↔Dh M x
def Rq(M:Ql):Prop:=∀p x,x∈M.KT p↔zy M p x
def IA(M:Ql):Prop:=∀id,id∈M.A↔∃n,Qj M.N id=some n/\n.c.leaf=true/\n.q.l≠[]/\1<QS n.c.ls
def EH(M:Ql):Prop:=∀id n,Qj M.N id=some n->n.c.leaf=false->n.q=⟨[],0,0,0,0,0,0⟩
def V7(M:Ql):Prop:=∀id n,Qj M.N id=some n->n.Ok
def Gw(M:Ql):Prop:=Vt M.Lv/\∀p,Vt (M.KT p)
structure Inv (M:Ql):Prop where
 lv:EG M
 kt:Rq M
 act:IA M
 BS:EH M
 qg:Gw M
 ok:V7 M
def Inv.Rr{M}(V:Inv M):Good M:=
 ⟨λx hx=>by
  obtain⟨n,c,b,a,_⟩:=(V.lv x).1 hx;exact⟨n,c,b,a⟩,λp x hx=>by
  obtain⟨n,_,_,h,_⟩:=(V.kt p x).1 hx;exact h,V.act⟩
def QjQ(c):Inv (M0 c):=by
 refine⟨λx=>?_,λp x=>?_,λid=>by simp[M0,Qj],λid n h=>by simp[M0,Qj]at h,⟨by simp[M0,Vt],λp=>by simp[M0,Vt]⟩,λid n h=>by simp[M0,Qj]at h⟩
 .simp[M0,Dh,Qj]
 .simp[M0,zy,Qj]
def QAx{a}{i}{L}(h:∀x∈L,x.ki≠i):YY a i L=none:=by
 unfold YY;rw[vh];intro x hx b;exact h x hx (yg.1 b).2
def Qav{a}{L}(h:Vt L):Vt (Vv a L):=NN _ h
def az{a}{L}{x:It}:x∈Vv a L↔x∈L/\x.ki≠a:=by simp[Vv]
def l6{c}{a b}{L}(h:Vt L):Vt (YA c a b L):=
 r5 (Qav h) (QAx λx hx=>(az.1 hx).2)
def IB{c}{a b}{L}{x:It}:x∈YA c a b L↔x=⟨a,c,b,c⟩\/(x∈L/\x.ki≠c):=by
 unfold YA;rw[HP,az]
structure Part (M:Ql) (U:List Int):Prop where
 lv:EG M
 kt:∀p x,x.ki ∉ U->(x∈M.KT p↔zy M p x)
 ka:∀p x,x∈M.KT p->x.ki∈U->JP M x.ki=true
 act:IA M
 BS:EH M
 qg:Gw M
 ok:V7 M
def QAy{M}{a j:Int}{m}(h:(Qv M a).c.parent≠j):Xo (VF M a) j m=Xo M j m:=by
 have f:JP (VF M a) j=JP M j:=by
  obtain⟨_,c,_,b,_⟩:=P3 M a;unfold JP;rw[c,b]
 unfold Xo;rw[f];have d:(VF M a).KT j=M.KT j:=by
  unfold VF;split
  .dsimp only;rw[Qe (λe=>h e.symm)]
  .rfl
 rw[d]
def Part.step{M:Ql}(I:Qz M){a}{n:Nd}(o:Qj M.N a=some n)(V:Part M (a::up M.T n.c.parent)):Part (VF M a) (up M.T n.c.parent):=by
 obtain⟨i,C,P,w,v,O,N,L,K⟩:=P3 M a;have z:Qv M a=n:=by unfold Qv;rw[o];rfl
 have s:∀j,JP (VF M a) j=JP M j:=λj=>by unfold JP;rw[C,w]
 have y:=I.some o;have J:a ∉ up M.T n.c.parent:=by
  have:=TQ I.tree a;rw[VT I.tree y,Z8]at this;exact this.1
 have B:∀j m,Qj M.N j=some m->j ∉ up M.T n.c.parent->Xo (VF M a) j m=Xo M j m:=λj m E F=>QAy λe=>by
  rw[z]at e;refine F ?_;rw[e];exact Yi I.tree (I.some E)
 have u:∀p x,x.ki ∉ up M.T n.c.parent->(zy (VF M a) p x↔zy M p x):=λp x hx=>by
  unfold zy;rw[i];constructor
  .rintro⟨m,b,f,g,l⟩;exact⟨m,b,f,by rw[<- s];exact g,by rw[<- B _ m b hx];exact l⟩
  .rintro⟨m,b,f,g,l⟩;exact⟨m,b,f,by rw[s];exact g,by rw[B _ m b hx];exact l⟩
 have t:∀p x,x∈M.KT p->x.ki=a->n.c.parent=p:=λp x hx e=>by
  obtain⟨c,b,f⟩:=I.vX p x hx;rw[e,y]at b;cases b;exact f
 refine⟨?_,λp x hx=>?_,λp x hx q=>?_,?_,?_,?_,by unfold V7;rw[i];exact V.ok⟩
 .intro x;unfold Dh;rw[i,v];exact V.lv x
 .rw[u p x hx];by_cases e:x.ki=a
  .cases k:JP M a with
   | true=>
    have r:(VF M a).KT=λj=>if j=n.c.parent then YA a n.sh.time (Xo M a n) (M.KT n.c.parent) else M.KT j:=by
     unfold VF;rw[Qf k,z]
    rw[r];dsimp only;split
    .rename_i d;subst d;rw[IB];unfold zy;rw[e,o];constructor
     .rintro (h|h)
      .exact⟨n,rfl,rfl,k,h⟩
      .exact absurd rfl h.2
     .rintro⟨m,b,_,_,l⟩;cases b;exact .inl l
    .rename_i d;constructor
     .intro h;exact absurd (t p x h e).symm d
     .rintro⟨m,b,f,_⟩;rw[e,o]at b;cases b;exact absurd f.symm d
   | false=>
    have r:VF M a=M:=by unfold VF;rw[Qe (by rw[k];exact k9)]
    rw[r];constructor
    .intro h;have:=V.ka p x h (by rw[e];exact Z3);rw[e,k]at this;cases this
    .rintro⟨m,_,_,g,_⟩;rw[e,k]at g;cases g
  .have q:x.ki ∉ a::up M.T n.c.parent:=λh=>(QG.1 h).elim e hx;rw[<- V.kt p x q];unfold VF;split
   .dsimp only;split
    .rename_i d;rw[IB,d];constructor
     .rintro (h|h)
      .exact absurd (congrArg It.ki h) e
      .exact h.1
     .intro h;exact .inr ⟨h,e⟩
    .exact Iff.rfl
   .exact Iff.rfl
 .rw[s];have H:x.ki≠a:=λe=>J (e▸q);refine V.ka p x ?_ (Jw _ q);unfold VF at hx;split at hx
  .dsimp only at hx;split at hx
   .rename_i d;rcases IB.1 hx with h|h
    .exact absurd (congrArg It.ki h) H
    .rw[d];exact h.1
   .exact hx
  .exact hx
 .intro j;rw[i,w];exact V.act j
 .unfold EH;rw[i];exact V.BS
 .refine⟨by rw[v];exact V.qg.1,λp=>?_⟩;unfold VF;split
  .dsimp only;split
   .exact l6 (V.qg.2 _)
   .exact V.qg.2 p
  .exact V.qg.2 p
def Part.settle:∀(k:Nat) {M:Ql} (id:Int),Qz M->(up M.T id).length=k->Part M (up M.T id)->Inv (Wq M (up M.T id)):=by
 intro k;induction k with
 | zero=>
  intro M id I a V;have e:=NO.1 a;rw[e]at V ⊢;exact⟨V.lv,λp x=>V.kt p x σ,V.act,V.BS,V.qg,V.ok⟩
 | succ k h=>
  intro M id I a V;cases d:QC M.T id with
  | none=>rw[TO I.tree d]at a;cases a
  | some c=>
   obtain⟨n,b,rfl⟩:=I.Ij d;have e:=VT I.tree d;rw[e]at a V ⊢;obtain⟨j,f,_⟩:=P3 M id;have g:=V.step I b;have i:=ux I b (V.ok _ _ b);show Inv (Wq (VF M id) (up M.T n.c.parent));rw[<- f]at g ⊢;exact h n.c.parent i (by rw[f];simpa using a) g
def EI{d:Type}{a:Nd->d}{N c:List Nd}{b:Int}(e:(Qj c b).map a=(Qj N b).map a){n:Nd}(h:Qj N b=some n):∃m,Qj c b=some m/\a m=a n:=by
 rw[h]at e;exact WH.1 e
def Ax(n:Nd):Qq × Nat × Nat:=(n.c,n.sh.time,n.cp.fit)
def IC(n:Nd):Qq × Bool × Nat × Nat:=(n.c,n.q.l.isEmpty,n.du.KN,n.du.dead)
def Ay(n:Nd):Qq × Bool:=(n.c,n.q.l.isEmpty)
def Rs{l:List Pk}:l≠[]↔l.isEmpty=false:=by cases l<;>simp
def Dh.to{M c:Ql}{x:It}(h:(Qj c.N x.ki).map IC=(Qj M.N x.ki).map IC):Dh M x->Dh c x:=λ⟨n,j,i,g,f,e⟩=>by
 obtain⟨m,d,a⟩:=EI h j;simp only[IC,Zh]at a;obtain⟨b,o,l,k⟩:=a;exact⟨m,d,by rw[b];exact i,Rs.2 (by rw[o];exact Rs.1 g),by rw[b];exact f,by rw[l,k];exact e⟩
def EG.of{M a:Ql}(V:EG M)(c:a.Lv=M.Lv)(b:∀id,(Qj a.N id).map IC=(Qj M.N id).map IC):EG a:=λx=>by
 rw[c,V x];exact⟨Dh.to (b _),Dh.to (b _).symm⟩
def EG.at_{M a:Ql}(V:EG M){id}{m}(h:Qj a.N id=some m)(g:∀j,j≠id->(Qj a.N j).map IC=(Qj M.N j).map IC)
  (i:∀y:It,y.ki≠id->(y∈a.Lv↔y∈M.Lv)) (k:∀y:It,y.ki=id->(y∈a.Lv↔(m.c.leaf=true/\m.q.l≠[]/\1<QS m.c.rt/\y=⟨m.du.KN,id,m.du.dead,id⟩))):EG a:=λx=>by
 by_cases e:x.ki=id
 .rw[k x e];unfold Dh;rw[e,h];constructor
  .rintro⟨f,d,c,b⟩;exact⟨m,rfl,f,d,c,b⟩
  .rintro⟨n,l,f,d,c,b⟩;cases l;exact⟨f,d,c,b⟩
 .rw[i x e,V x];exact⟨Dh.to (g _ e),Dh.to (g _ e).symm⟩
def IA.at_{M d:Ql}(V:IA M){id}{m}(q:Qj d.N id=some m)(k:∀j,j≠id->(Qj d.N j).map Ay=(Qj M.N j).map Ay)
  (s:∀j,j≠id->(j∈d.A↔j∈M.A)) (r:id∈d.A↔(m.c.leaf=true/\m.q.l≠[]/\1<QS m.c.ls)):IA d:=λj=>by
 by_cases e:j=id
 .subst e;rw[r,q];constructor
  .rintro⟨c,b,a⟩;exact⟨m,rfl,c,b,a⟩
  .rintro⟨g,u,c,b,a⟩;cases u;exact⟨c,b,a⟩
 .rw[s j e,V j];have l:∀{N f:List Nd},(Qj f j).map Ay=(Qj N j).map Ay->(∃n,Qj N j=some n/\n.c.leaf=true/\n.q.l≠[]/\1<QS n.c.ls)->∃n,Qj f j=some n/\n.c.leaf=true/\n.q.l≠[]/\1<QS n.c.ls:=λ{N f} h ⟨n,c,b,a,t⟩=>by
   obtain⟨g,p,i⟩:=EI h c;simp only[Ay,Zh]at i;obtain⟨o,v⟩:=i;exact⟨g,p,by rw[o];exact b,Rs.2 (by rw[v];exact Rs.1 a),by rw[o];exact t⟩
  exact⟨l (k _ e),l (k _ e).symm⟩
def IA.of{M b:Ql}(V:IA M)(k:b.A=M.A)(d:∀id,(Qj b.N id).map Ay=(Qj M.N id).map Ay):IA b:=λj=>by
 rw[k,V j];have e:∀{N a:List Nd},(Qj a j).map Ay=(Qj N j).map Ay->(∃n,Qj N j=some n/\n.c.leaf=true/\n.q.l≠[]/\1<QS n.c.ls)->∃n,Qj a j=some n/\n.c.leaf=true/\n.q.l≠[]/\1<QS n.c.ls:=λ{N a} h ⟨n,p,o,m,l⟩=>by
  obtain⟨g,i,c⟩:=EI h p;simp only[Ay,Zh]at c;obtain⟨f,q⟩:=c;exact⟨g,i,by rw[f];exact o,Rs.2 (by rw[q];exact Rs.1 m),by rw[f];exact l⟩
 exact⟨e (d _),e (d _).symm⟩
def Qay{M a:Ql}{j}{n m}(e:Ax m=Ax n)(b:JP a j=JP M j)(c:a.KT j=M.KT j):Xo a j m=Xo M j n:=by
 simp only[Ax,Zh]at e;unfold Xo;rw[b,c,e.1,e.2.2]
def zy.to{M a:Ql}{p}{x:It}(h:(Qj a.N x.ki).map Ax=(Qj M.N x.ki).map Ax)(c:JP a x.ki=JP M x.ki)(f:a.KT x.ki=M.KT x.ki):zy M p x->zy a p x:=λ⟨n,k,j,i,g⟩=>by
 obtain⟨m,d,b⟩:=EI h k;have e:=Qay b c f;simp only[Ax,Zh]at b;obtain⟨o,l,q⟩:=b;exact⟨m,d,by rw[o];exact j,by rw[c];exact i,by rw[e,l];exact g⟩
def Rq.part{M a:Ql}(V:Rq M){U:List Int}(b:a.KT=M.KT)(c:∀j,j ∉ U->JP a j=JP M j)(d:∀j,j ∉ U->(Qj a.N j).map Ax=(Qj M.N j).map Ax):
  ∀p x,x.ki ∉ U->(x∈a.KT p↔zy a p x):=λp x hx=>by
 rw[b,V p x];exact⟨zy.to (d _ hx) (c _ hx) (by rw[b]),zy.to (d _ hx).symm (c _ hx).symm (by rw[b])⟩
def Rq.of{M a:Ql}(V:Rq M)(b:a.KT=M.KT)(c:∀j,JP a j=JP M j)(d:∀j,(Qj a.N j).map Ax=(Qj M.N j).map Ax):Rq a:=λp x=>by
 rw[b,V p x];exact⟨zy.to (d _) (c _) (by rw[b]),zy.to (d _).symm (c _).symm (by rw[b])⟩
def Qaz(n:Nd):Qq × Bool × Du × Sh × Cp:=(n.c,n.q.l.isEmpty,n.du,n.sh,n.cp)
def ID{g d:Type}{a}(f:g->d){N c}{b:Int}(e:(Qj c b).map a=(Qj N b).map a):(Qj c b).map (λn=>f (a n))=(Qj N b).map λn=>f (a n):=by
 have:=congrArg (Option.map f) e;rwa [Sv,Sv]at this
def Inv.num{M a:Ql}(V:Inv M)(c:a.Lv=M.Lv)(d:a.KT=M.KT)(h:a.T=M.T)(e:a.A=M.A)(b:∀id,(Qj a.N id).map Qaz=(Qj M.N id).map Qaz)(f:EH a)(g:V7 a):Inv a:=
 ⟨V.lv.of c λid=>ID (λk=>(k.1,k.2.1,k.2.2.1.KN,k.2.2.1.dead)) (b id),V.kt.of d (λj=>by unfold JP;rw[h,e]) λid=>ID (λk=>(k.1,k.2.2.2.1.time,k.2.2.2.2.fit)) (b id),V.act.of e λid=>ID (λk=>(k.1,k.2.1)) (b id),f,⟨by rw[c];exact V.qg.1,λp=>by rw[d];exact V.qg.2 p⟩,g⟩
def Inv.told{M}(V:Inv M)(a):Inv (ZA M a):=by
 unfold ZA;split
 .exact⟨V.lv,V.kt,V.act,V.BS,V.qg,V.ok⟩
 .exact V
def Inv.acc{M}(V:Inv M)(a):Inv (jK M a):=⟨V.lv,V.kt,V.act,V.BS,V.qg,V.ok⟩
def wg{b:Type}{key:Nd->b}{step:Ql->Int->Ql}(a:∀M j id,(Qj (step M j).N id).map key=(Qj M.N id).map key):∀(l:List Int) (M:Ql) (id:Int),(Qj (l.foldl step M).N id).map key=(Qj M.N id).map key
 | [],M,id=>rfl
 | j::l,M,id=>(wg a l (step M j) id).trans (a M j id)
def l7{a}(b:∀M j id,id≠j->Qj (a M j).N id=Qj M.N id):∀(l:List Int) (M:Ql) (id:Int),id ∉ l->Qj (l.foldl a M).N id=Qj M.N id
 | [],M,id,_=>rfl
 | j::l,M,id,h=>by
  rw[QG,qV]at h;exact(l7 b l (a M j) id h.2).trans (b M j id h.1)
def aA{c:Type}{a:Nd->c}{N:List Nd}{j:Int}{f:Nd->Nd}(e:∀n,(f n).c=n.c)(d:∀n,a (f n)=a n)(b:Int):(Qj (Wj N j f) b).map a=(Qj N b).map a:=by
 rw[jG (λn=>by rw[e])];split
 .rw[Sv];congr 1;funext n;exact d n
 .rfl
def QaA{N}{j}{f}(b:∀n,(f n).c=n.c)(a)(h:a≠j):Qj (Wj N j f) a=Qj N a:=by
 rw[jG (λn=>by rw[b]),Qe h]
def QAz{N}{j}{f}(a:∀n,(f n).c=n.c){n}(h:Qj N j=some n):Qj (Wj N j f) j=some (f n):=by
 rw[jG (λn=>by rw[a]),Qf rfl,h];rfl
def IE{N}{j}{f}(d:∀n,(f n).c=n.c)(c:∀n,Qj N j=some n->n.Ok->(f n).Ok)(h:∀id n,Qj N id=some n->n.Ok):∀id n,Qj (Wj N j f) id=some n->n.Ok:=λid n a=>by
 rw[jG (λn=>by rw[d])]at a;split at a
 .rename_i e;subst e;obtain⟨m,b,rfl⟩:=WH.1 a;exact c m b (h _ _ b)
 .exact h _ _ a
def QjR{M b:Ql}(V:EH M)(e:∀id,(Qj b.N id).map (λn=>(n.c,n.q))=(Qj M.N id).map λn=>(n.c,n.q)):EH b:=λid n c d=>by
 obtain⟨m,f,a⟩:=EI (e id).symm c;have h:m.c=n.c:=congrArg Prod.fst a;have g:m.q=n.q:=congrArg Prod.snd a;rw[<- g];exact V id m f (by rw[h];exact d)
def Nk(M:Ql)(a:Int)(x:Pk)(j:Int):Qj (KW M a x).N j=if j=a then (Qj M.N j).map (λm=>{ m with q:=X2 (Qv M a).c.Z4 (Qv M a).c.bytes (Qv M a).q x }) else Qj M.N j:=
 jG (f:=λm:Nd=>{ m with q:=X2 (Qv M a).c.Z4 (Qv M a).c.bytes (Qv M a).q x }) (λ_=>rfl) j
def QjS{p b}{q:Qu}{x:Pk}(h:vQ p b q x=false):(X2 p b q x).l=q.l++[x]:=by
 unfold X2;rw[Qe (by rw[h];exact k9)]
def QaB{M}(V:V7 M)(a)(x):V7 (KW M a x):=
 IE (f:=λm:Nd=>{ m with q:=X2 (Qv M a).c.Z4 (Qv M a).c.bytes (Qv M a).q x }) (λ_=>rfl) (λn _ h=>⟨h.Zw,h.du,h.sh,h.cp,h.c⟩) V
def QAA{M:Ql}(V:EH M){c}{n:Nd}(d:Qj M.N c=some n)(f:n.c.leaf=true)(x):EH (KW M c x):=λj m a b=>by
 rw[Nk]at a;split at a
 .rename_i e;subst e;rw[d]at a;cases a;rw[f]at b;cases b
 .exact V j m a b
def Inv.push{M:Ql}(V:Inv M){a}{n:Nd}(b:Qj M.N a=some n)(d:n.c.leaf=true)(x)(h:vQ n.c.Z4 n.c.bytes n.q x=true\/n.q.l≠[]):Inv (KW M a x):=by
 refine V.num rfl rfl rfl rfl (λj=>?_) (QAA V.BS b d x) (QaB V.ok a x);have f:Qv M a=n:=by unfold Qv;rw[b];rfl
 rw[Nk,f];split
 .rename_i e;subst e;rw[b];have e:(X2 n.c.Z4 n.c.bytes n.q x).l.isEmpty=n.q.l.isEmpty:=by
   unfold X2;rcases h with h|h
   .rw[Qf h]
   .split
    .rfl
    .cases c:n.q.l with
     | nil=>exact absurd c h
     | cons y l=>simp
  simp only[KA,Qaz];rw[e]
 .rfl
def l9(M:Ql)(c)(b:Int)(a:Int)(j:Int):Qj (WL M c b a).N j=if j=b/\1<QS (Qv M b).c.rt then (Qj M.N j).map (λn=>{ n with du:=Xl (Qv M b).du (Zq (Qv M b).c.rt) c a }) else Qj M.N j:=by
 unfold WL;by_cases h:1<QS (Qv M b).c.rt
 .rw[Qf h];dsimp only;rw[jG (f:=λn:Nd=>{ n with du:=Xl (Qv M b).du (Zq (Qv M b).c.rt) c a }) (λ_=>rfl)];simp[h]
 .rw[Qe h,Qe (λe=>h e.2)]
def QaC(b:Nat){d:Type}{a:Nd->d}(e:∀M n,a (EA M b n)=a n)(M:Ql)(j c:Int):(Qj (XC b M j).N c).map a=(Qj M.N c).map a:=
 aA (f:=EA M b) (λ_=>rfl) (e M) c
def QjT(a):∀(l:List Int) (M:Ql),(l.foldl (XC a) M).Lv=M.Lv
 | [],M=>rfl
 | j::l,M=>QjT a l (XC a M j)
def Inv.aB{M g:Ql}(O:Qz g)(V:Inv M){b}{n q:Nd}(K:Qj M.N b=some n)(F:Qj g.N b=some q)(hl:n.c.leaf=true)(Em:n.q.l=[])(hq:q.q.l≠[])(xO:(q.c,q.du,q.sh,q.cp)=(n.c,n.du,n.sh,n.cp))
  (A5:∀j,j≠b->Qj g.N j=Qj M.N j) (hL:g.Lv=M.Lv) (hK:g.KT=M.KT) (hT:g.T=M.T) (N:g.A=M.A) (Z:V7 g) (c:Nat) (WC:c<18446744073709551616) (o:Int):Inv (qf g c b o):=by
 simp only[Zh]at xO;obtain⟨z,ed,es,ep⟩:=xO;have Jh:Qv g b=q:=by unfold Qv;rw[F];rfl
 have ZO:q.c.leaf=true:=by rw[z];exact hl
 have Jf:b ∉ M.A:=λh=>by
  obtain⟨m,s,_,h3,_⟩:=(V.act b).1 h;rw[K]at s;cases s;exact h3 Em
 have a0:∀y∈M.Lv,y.ki≠b:=λy v e=>by
  obtain⟨m,s,_,h3,_⟩:=(V.lv y).1 v;rw[e,K]at s;cases s;exact h3 Em
 obtain⟨r,J⟩:∃r,r=WL g c b o:=⟨_,rfl⟩;have I2:Qz r:=by rw[J];exact O.WL F c o
 obtain⟨B,W,H,w4⟩:=MY (M:=g) (now:=c) (id:=b) (head:=o);rw[<- J]at B W H w4;have hF:∀j,Qj r.N j=if j=b/\1<QS q.c.rt then (Qj g.N j).map (λn=>{ n with du:=Xl q.du (Zq q.c.rt) c o }) else Qj g.N j:=λj=>by
  rw[J,l9,Jh]
 have E:∀j,j≠b->Qj r.N j=Qj M.N j:=λj d=>by rw[hF,Qe (λe=>d e.1),A5 j d]
 have aC:r.Lv=if 1<QS q.c.rt then YA b (Xl q.du (Zq q.c.rt) c o).KN (Xl q.du (Zq q.c.rt) c o).dead M.Lv else M.Lv:=by
  rw[J];unfold WL;rw[Jh];split
  .dsimp only;rw[hL]
  .exact hL
 obtain⟨m,L,P,No,a1,a2,iN⟩:∃m,Qj r.N b=some m/\m.c=n.c/\m.q=q.q/\m.sh=n.sh/\m.cp=n.cp/\(1<QS q.c.rt->m.du=Xl q.du (Zq q.c.rt) c o):=by
  rw[hF,F];by_cases h:1<QS q.c.rt
  .rw[Qf ⟨rfl,h⟩];exact⟨_,rfl,z,rfl,es,ep,λ_=>rfl⟩
  .rw[Qe (λe=>h e.2)];exact⟨_,rfl,z,rfl,es,ep,λe=>absurd e h⟩
 have BR:EG r:=V.lv.at_ L (λj d=>by rw[E j d]) (λy v=>by
   rw[aC];split
   .rw[IB];exact⟨λh=>h.elim (λe=>absurd (congrArg It.ki e) v) (·.1),λh=>.inr ⟨h,v⟩⟩
   .exact Iff.rfl) λy v=>by
   rw[aC,P,No];by_cases h:1<QS q.c.rt
   .rw[Qf h,IB,iN h];rw[<- z];exact⟨λe=>e.elim (λe=>⟨ZO,hq,h,e⟩) λe=>absurd v e.2,λe=>.inl e.2.2.2⟩
   .rw[Qe h];rw[<- z];exact⟨λe=>absurd v (a0 y e),λe=>absurd e.2.2.1 h⟩
 have Jt:∀j,(Qj r.N j).map Ax=(Qj M.N j).map Ax:=λj=>by
  by_cases e:j=b
  .subst e;rw[L,K];simp only[KA,Ax,P,a1,a2]
  .rw[E j e]
 have U:EH r:=λj k d BQ=>by
  by_cases e:j=b
  .subst e;rw[L]at d;cases d;rw[P,hl]at BQ;cases BQ
  .rw[E j e]at d;exact V.BS j k d BQ
 have T:V7 r:=λj k d=>by
  rw[hF]at d;split at d
  .obtain⟨k0,s,rfl⟩:=WH.1 d;have h2:=Z j k0 s;exact⟨h2.Zw,tv (Z b q F).du (Z b q F).c.2.2.2.1.lt WC o,h2.sh,h2.cp,h2.c⟩
  .exact Z j k d
 have S:Vt r.Lv:=by
  rw[aC];split
  .exact l6 V.qg.1
  .exact V.qg.1
 unfold qf;rw[Jh,<- J];by_cases C:1<QS q.c.ls
 .rw[Qf C];obtain⟨t,u⟩:∃t,t=(XP g.T g.A b).foldl (XC c) { r with A:=b::g.A }:=⟨_,rfl⟩;rw[<- u];obtain⟨t1,t2,t3,t4,t5,t6⟩:=Ip c (XP g.T g.A b) { r with A:=b::g.A };rw[<- u]at t1 t2 t3 t4 t5 t6;dsimp only at t1 t2 t3;have tL:=QjT c (XP g.T g.A b) { r with A:=b::g.A };rw[<- u]at tL;have Wh:QC g.T b=some q.c:=O.some F;have Q:g.T=t.T:=by rw[t1,B]
  have I3:Qz t:=by
   rw[u];refine Qz.UU _ (I2.act λa w=>?_);rw[B];rcases QG.1 w with rfl|w
   .exact⟨q.c,Wh,ZO,C⟩
   .exact O.XS a w
  rw[Q];have Bm:∀j,j ∉ up g.T b->j ∉ XP g.T g.A b:=λj d h=>d (List.takeWhile_subset _ h);have Y:∀j,(Qj t.N j).map (λn=>(n.c,n.q,n.du))=(Qj r.N j).map λn=>(n.c,n.q,n.du):=λj=>by
   rw[u];exact wg (key:=λn:Nd=>(n.c,n.q,n.du)) (λM j b=>QaC c (λ_ _=>rfl) M j b) _ _ j
  have aD:∀j,j ∉ up g.T b->Qj t.N j=Qj M.N j:=λj d=>by
   have s:Qj t.N j=Qj r.N j:=by
    rw[u];exact l7 (λM i b h=>QaA (f:=EA M c) (λ_=>rfl) b h) _ _ j (Bm j d)
   rw[s];exact E j λe=>d (by rw[e];exact Yi O.tree Wh)
  have R:∀j,JP t j=true↔j∈up g.T b\/JP M j=true:=λj=>by
   unfold JP;rw[t1,t2,B,N,hT,zd,zd];simp
  refine Part.settle _ b I3 rfl ?_;rw[<- Q];refine⟨?_,?_,λp x hx Gx=>(R _).2 (.inl Gx),?_,?_,⟨by rw[tL];exact S,λp=>by rw[t3,H,hK];exact V.qg.2 p⟩,?_⟩
  .exact BR.of tL λj=>ID (λk=>(k.1,k.2.1.l.isEmpty,k.2.2.KN,k.2.2.dead)) (Y j)
  .refine V.kt.part (by rw[t3,H,hK]) (λj d=>?_) λj d=>by rw[aD j d]
   rw[wx,R];exact⟨λh=>h.resolve_left d,.inr⟩
  .obtain⟨m3,g1,g2⟩:=EI (Y b) L;simp only[Zh]at g2;obtain⟨g3,g4,g5⟩:=g2;refine V.act.at_ g1 (λj d=>?_) (λj d=>?_) ?_
   .rw[<- E j d];exact ID (λk=>(k.1,k.2.1.l.isEmpty)) (Y j)
   .rw[t2,N];simp[d]
   .rw[t2,g3,g4,P,No,<- z];exact⟨λ_=>⟨ZO,hq,C⟩,λ_=>Z3⟩
  .exact QjR U λj=>ID (λk=>(k.1,k.2.1)) (Y j)
  .rw[u];have:∀(l:List Int) (M:Ql),Qz M->V7 M->V7 (l.foldl (XC c) M):=by
    intro l;induction l with
    | nil=>intro M _ h;exact h
    | cons j l ih=>
     intro M I h;refine ih _ (I.XC c j) ?_;exact IE (f:=EA M c) (λ_=>rfl) (λn _ K=>uD I WC K) h
   refine this _ _ (I2.act λa w=>?_) T;rw[B];rcases QG.1 w with rfl|w
   .exact⟨q.c,Wh,ZO,C⟩
   .exact O.XS a w
 .rw[Qe C];refine⟨BR,V.kt.of (by rw[H,hK]) (λj=>by unfold JP;rw[B,W,hT,N]) Jt,?_,U,⟨S,λp=>by rw[H,hK];exact V.qg.2 p⟩,T⟩;refine V.act.at_ L (λj d=>by rw[E j d]) (λj d=>by rw[W,N]) ?_;rw[W,N,P,No,<- z];exact⟨λh=>absurd h Jf,λh=>absurd h.2.2 C⟩
def QjZ{M:Ql}{a}{x:Pk}{n:Nd}(b:Qj M.N a=some n):VH M a x=if n.c.leaf=false then 29 else if x.len<1\/M.lk.ZJ<x.len then 26 else if 1099511627776<M.acc+x.len.toNat then 28
   else if vQ n.c.Z4 n.c.bytes n.q x=true then 30 else 0:=by unfold VH;rw[b]
def Qj0{M:Ql}{a}{x}{n:Nd}(b:Qj M.N a=some n)(h:VH M a x=30):n.c.leaf=true/\vQ n.c.Z4 n.c.bytes n.q x=true:=by
 rw[QjZ b]at h;split at h
 .cases h
 .rename_i d;split at h
  .cases h
  .split at h
   .cases h
   .split at h
    .rename_i c;exact⟨by simpa using d,c⟩
    .cases h
def QaD{M:Ql}{a}{x:Pk}{n:Nd}(b:Qj M.N a=some n)(h:VH M a x=0):n.c.leaf=true/\vQ n.c.Z4 n.c.bytes n.q x=false/\1<=x.len/\x.len<=M.lk.ZJ/\M.acc+x.len.toNat<=1099511627776:=by
 rw[QjZ b]at h;split at h
 .cases h
 .rename_i d;split at h
  .cases h
  .rename_i f;split at h
   .cases h
   .rename_i e;split at h
    .cases h
    .rename_i c;exact⟨by simpa using d,by simpa using c,ω,ω,ω⟩
def Inv.put{M}(I:Qz M)(V:Inv M)(c)(o:c<18446744073709551616)(a)(x):Inv (Vx M c a x):=by
 unfold Vx;cases b:Qj M.N a with
 | none=>
  have e:VH M a x=23:=by unfold VH;rw[b]
  rw[e,Qe π,Qe π];exact V
 | some n=>
  have k:Qv M a=n:=by unfold Qv;rw[b];rfl
  by_cases i:VH M a x=30
  .rw[Qf i];obtain⟨f,g⟩:=Qj0 b i;exact V.push b f x (.inl g)
  .rw[Qe i];by_cases h:VH M a x=0
   .rw[Qf h,k];obtain⟨f,g,s,r,m⟩:=QaD b h;by_cases d:n.q.l=[]
    .rw[Qf d];have p:Qj (jK (KW M a x) (M.acc+x.len.toNat)).N a=some { n with q:=X2 n.c.Z4 n.c.bytes n.q x }:=by
      show Qj (KW M a x).N a=_;rw[Nk,Qf rfl,b,k];rfl
     refine Inv.aB ((I.KW a x).jK m) V b p f d ?_ rfl (λj l=>?_) rfl rfl rfl rfl (QaB V.ok a x) c o x.len
     .dsimp only;rw[QjS g];simp
     .show Qj (KW M a x).N j=_;rw[Nk,Qe l]
    .rw[Qe d];exact(V.push b f x (.inr d)).acc _
   .rw[Qe h];exact V
def Inv.Zr{M}(I:Qz M)(V:Inv M)(a)(c:a<18446744073709551616)(b)(x):Inv (Zr M a b x):=by
 unfold X.Zr;split
 .exact Inv.put (As I a) (V.told a) a c b x
 .exact V
def QAD{T}(e:Xw T){p j}:j∈Xh T p↔∃c,QC T j=some c/\c.parent=p:=by
 unfold Xh;constructor
 .intro h;obtain⟨c,d,rfl⟩:=JA.1 h;obtain⟨b,a⟩:=JI.1 d;exact⟨c,(VL e).2 ⟨b,rfl⟩,by simpa using a⟩
 .rintro⟨c,d,b⟩;obtain⟨a,rfl⟩:=(VL e).1 d;exact JA.2 ⟨c,JI.2 ⟨a,by simpa using b⟩,rfl⟩
def QAE(M:Ql)(j a:Int)(h:a≠j):Qj (YC M j).N a=Qj M.N a:=QaA (f:=λn:Nd=>{ n with sh:=BI }) (λ_=>rfl) a h
def QAF{c:Type}{a:Nd->c}(d:∀n:Nd,a { n with sh:=BI }=a n)(M:Ql)(j b:Int):(Qj (YC M j).N b).map a=(Qj M.N b).map a:=
 aA (f:=λn:Nd=>{ n with sh:=BI }) (λ_=>rfl) d b
def Gy{b:Type}{key:Nd->b}(c:∀n:Nd,key { n with sh:=BI }=key n)(M:Ql)(j a:Int):(Qj (J8 M j).N a).map key=(Qj M.N a).map key:=by
 unfold J8;split
 .exact wg (QAF c) _ (WM M j) a
 .rfl
def mh(M)(j:Int):(J8 M j).KT=(WM M j).KT:=by
 unfold J8;split
 .exact(lj _ (WM M j)).2.2.1
 .rfl
def Qj1{M:Ql}(I:Qz M){j:Int}{c}(h:QC M.T j=some c):(Qv M j).c=c:=by
 obtain⟨n,b,a⟩:=I.Ij h;unfold Qv;rw[b];exact a
def Qj2{M:Ql}(I:Qz M)(j p:Int)(x:It):x∈(J8 M j).KT p↔x∈M.KT p/\x.ki≠j:=by
 rw[mh];unfold WM;dsimp only;split
 .rename_i e;rw[az,e]
 .rename_i e;refine⟨λh=>⟨h,λd=>?_⟩,(·.1)⟩;obtain⟨c,a,b⟩:=I.vX p x h;rw[d]at a;rw[Qj1 I a]at e;exact e b.symm
def QaE:∀(l:List Int) {M:Ql},Qz M->∀(p:Int) (x:It),x∈(l.foldl J8 M).KT p↔x∈M.KT p/\x.ki ∉ l
 | [],M,I,p,x=>σ
 | j::l,M,I,p,x=>by
  rw[xE,QaE l (I.J8 j) p x,Qj2 I];simp[and_assoc]
def QAG{M:Ql}(I:Qz M){j p:Int}{x:It}(h:x∈(J8 M j).KT p):Qj (J8 M j).N x.ki=Qj M.N x.ki:=by
 have a:=h;rw[mh]at a;obtain⟨hx,k⟩:=(Qj2 I j p x).1 h;obtain⟨c,i,g⟩:=I.vX p x hx;unfold J8;split
 .rename_i e;refine l7 QAE _ (WM M j) x.ki λd=>?_;obtain⟨c2,b,f⟩:=(QAD I.tree.rising).1 d;rw[i]at b;cases b;unfold WM at a;dsimp only at a;rw[Qf (g.symm.trans f),e]at a;cases a
 .rfl
def Qj3:∀(l:List Int) {M:Ql},Qz M->∀{p:Int} {x:It},x∈(l.foldl J8 M).KT p->Qj (l.foldl J8 M).N x.ki=Qj M.N x.ki
 | [],M,I,p,x,h=>rfl
 | j::l,M,I,p,x,h=>by
  have a:=Qj3 l (I.J8 j) h;exact a.trans (QAG I (p:=p) ((QaE l (I.J8 j) p x).1 h).1)
def Qj4:∀(l:List Int) {M:Ql},Qz M->∀(i:Int),(∀j∈l,(Qv M j).c.parent≠i)->(l.foldl J8 M).KT i=M.KT i
 | [],M,I,i,h=>rfl
 | j::l,M,I,i,h=>by
  have e:(J8 M j).KT i=M.KT i:=by
   rw[mh];unfold WM;dsimp only;rw[Qe (λe=>h j Z3 e.symm)]
  rw[xE,Qj4 l (I.J8 j) i,e];intro k c;have a:=Gy (key:=λn:Nd=>n.c.parent) (λ_=>rfl) M j k;have g:(Qv (J8 M j) k).c.parent=(Qv M k).c.parent:=by
   unfold Qv;cases b:Qj M.N k with
   | none=>
    rw[b,qU,ct]at a;rw[a]
   | some n=>
    rw[b]at a;obtain⟨m,f,d⟩:=WH.1 a;rw[f];exact d
  rw[g];exact h k (Jw _ c)
def QAH{M}(V:V7 M)(j):V7 (J8 M j):=by
 have b:∀(l:List Int) (M:Ql),V7 M->V7 (l.foldl YC M):=by
  intro l;induction l with
  | nil=>intro M h;exact h
  | cons j l a=>
   intro M h;exact a _ (IE (f:=λn:Nd=>{ n with sh:=BI }) (λ_=>rfl) (λn _ h=>⟨h.Zw,h.du,QiS,h.cp,h.c⟩) h)
 unfold J8;split
 .exact b _ (WM M j) V
 .exact V
def QaF:∀(l:List Int) {M:Ql},V7 M->V7 (l.foldl J8 M)
 | [],M,h=>h
 | j::l,M,h=>QaF l (QAH h j)
def Qj5:∀(l:List Int) {M:Ql},Gw M->Gw (l.foldl J8 M)
 | [],M,h=>h
 | j::l,M,h=>by
  refine Qj5 l ⟨?_,λp=>?_⟩
  .rw[(QiT M j).2.2.2.2.2];exact h.1
  .rw[mh];unfold WM;dsimp only;split
   .exact Qav (h.2 _)
   .exact h.2 p
def QAI(a)(M:Ql)(j b:Int)(h:b≠j):Qj (VG a M j).N b=Qj M.N b:=QaA (f:=EC a) (λ_=>rfl) b h
def QaG(b:Nat){d:Type}{a:Nd->d}(e:∀n:Nd,a (EC b n)=a n)(M:Ql)(j c:Int):(Qj (VG b M j).N c).map a=(Qj M.N c).map a:=
 aA (f:=EC b) (λ_=>rfl) e c
def QaH(a):∀(l:List Int) {M:Ql},V7 M->V7 (l.foldl (VG a) M)
 | [],M,h=>h
 | j::l,M,h=>QaH a l (IE (f:=EC a) (λ_=>rfl) (λn _ b=>Qi2 b a) h)
def QaI(M:Ql)(a:Int)(b)(r:Bool)(j:Int):Qj (Wr M a b r).N j=if j=a/\1<QS (Qv M a).c.rt then (Qj M.N j).map (λn=>{ n with du:=qJ (Qv M a) b r }) else Qj M.N j:=by
 unfold Wr;by_cases h:1<QS (Qv M a).c.rt
 .rw[Qf h];dsimp only;rw[jG (f:=λn:Nd=>{ n with du:=qJ (Qv M a) b r }) (λ_=>rfl)];simp[h]
 .rw[Qe h,Qe (λe=>h e.2)]
def Inv.take{M:Ql}(I:Qz M)(V:Inv M){a}{n:Nd}(Z:Qj M.N a=some n)(hl:n.c.leaf=true)(hq:n.q.l≠[])(r):Inv (XU M a r):=by
 have Jh:Qv M a=n:=by unfold Qv;rw[Z];rfl
 have Wh:=I.some Z;have xN:a∈up M.T a:=Yi I.tree Wh;have IF:∀j,Qj (Ws M a).N j=if j=a then (Qj M.N j).map (λn=>{ n with q:=Kv (Qv M a).q }) else Qj M.N j:=λj=>
  jG (f:=λn:Nd=>{ n with q:=Kv (Qv M a).q }) (λ_=>rfl) j
 unfold XU;dsimp only;rw[Jh];generalize e8:(n.q.l.headD default).len=d;obtain⟨u,Q⟩:∃u,u=(up M.T a).foldl (VG d.toNat) (Ws M a):=⟨_,rfl⟩;rw[<- Q];have I2:Qz u:=by rw[Q];exact Qz.lG _ (I.Ws a)
 obtain⟨b1,b2,b3,b4,b5,b6,b7⟩:=Nb d.toNat (up M.T a) (Ws M a);rw[<- Q]at b1 b2 b3 b4 b5 b6 b7;have e7:∀j,j ∉ up M.T a->Qj u.N j=Qj M.N j:=λj b=>by
  rw[Q,l7 (QAI d.toNat) _ _ j b,IF,Qe (λe=>b (by rw[e];exact xN))]
 have Jt:∀j,(Qj u.N j).map (λn=>(n.c,n.q,n.du))=(Qj (Ws M a).N j).map λn=>(n.c,n.q,n.du):=λj=>by
  rw[Q];exact wg (key:=λn:Nd=>(n.c,n.q,n.du)) (λM j a=>QaG d.toNat (λ_=>rfl) M j a) _ _ j
 have e6:(Qj u.N a).map (λn=>(n.c,n.q,n.du))=some (n.c,Kv n.q,n.du):=by
  rw[Jt,IF,Qf rfl,Z,Jh];rfl
 have F5:∀j,j≠a->(Qj u.N j).map (λn=>(n.c,n.q,n.du))=(Qj M.N j).map λn=>(n.c,n.q,n.du):=λj b=>by
  rw[Jt,IF,Qe b]
 obtain⟨C,Xv,e2⟩:=WH.1 e6;simp only[Zh]at e2;obtain⟨c2,q2,d2⟩:=e2;have mi:Qv u a=C:=by unfold Qv;rw[Xv];rfl
 have P:V7 u:=by
  rw[Q];exact QaH _ _ (IE (f:=λn:Nd=>{ n with q:=Kv (Qv M a).q }) (λ_=>rfl) (λn _ h=>⟨h.Zw,h.du,h.sh,h.cp,h.c⟩) V.ok)
 obtain⟨c,W⟩:∃c,c=Wr u a d r:=⟨_,rfl⟩;rw[<- W];have I3:Qz c:=by rw[W];exact I2.Wr Xv d r
 obtain⟨a1,a2,a3,a4,a5,a6⟩:=Rf u a d r;rw[<- W]at a1 a2 a3 a4 a5 a6;have hF:∀j,Qj c.N j=if j=a/\1<QS n.c.rt then (Qj u.N j).map (λn=>{ n with du:=qJ C d r }) else Qj u.N j:=λj=>by
  rw[W,QaI,mi,c2]
 have aD:∀j,j ∉ up M.T a->Qj c.N j=Qj M.N j:=λj b=>by
  rw[hF,Qe (λe=>b (by rw[e.1];exact xN)),e7 j b]
 have O:∀j,j≠a->Qj c.N j=Qj u.N j:=λj b=>by rw[hF,Qe (λe=>b e.1)]
 obtain⟨m,R,Aj,No,iN⟩:∃m,Qj c.N a=some m/\m.c=n.c/\m.q=Kv n.q/\(1<QS n.c.rt->m.du=qJ C d r):=by
  rw[hF,Xv];by_cases h:1<QS n.c.rt
  .rw[Qf ⟨rfl,h⟩];exact⟨_,rfl,c2,q2,λ_=>rfl⟩
  .rw[Qe (λe=>h e.2)];exact⟨_,rfl,c2,q2,λe=>absurd e h⟩
 have c3:V7 c:=λj k b=>by
  rw[hF]at b;split at b
  .obtain⟨k0,t,rfl⟩:=WH.1 b;have v:=P j k0 t;exact⟨v.Zw,uA (P a C Xv) d r,v.sh,v.cp,v.c⟩
  .exact P j k b
 have aE:c.Lv=if 1<QS n.c.rt then (if (Kv n.q).l=[] then Vv a (YA a (qJ C d r).KN (qJ C d r).dead M.Lv) else YA a (qJ C d r).KN (qJ C d r).dead M.Lv) else M.Lv:=by
  rw[W];unfold Wr;rw[mi,c2,q2];split
  .dsimp only;rw[b7];rfl
  .exact b7
 have BR:EG c:=V.lv.at_ R (λj b=>by
   rw[O j b];exact ID (λk=>(k.1,k.2.1.l.isEmpty,k.2.2.KN,k.2.2.dead)) (F5 j b)) (λy B=>by
   rw[aE];split
   .split
    .rw[az,IB];exact⟨λh=>h.1.elim (λe=>absurd (congrArg It.ki e) B) (·.1),λh=>⟨.inr ⟨h,B⟩,B⟩⟩
    .rw[IB];exact⟨λh=>h.elim (λe=>absurd (congrArg It.ki e) B) (·.1),λh=>.inr ⟨h,B⟩⟩
   .exact Iff.rfl) λy B=>by
   rw[aE,Aj,No];by_cases h:1<QS n.c.rt
   .rw[Qf h,iN h];split
    .rename_i he;rw[az];exact⟨λe=>absurd B e.2,λe=>absurd he e.2.1⟩
    .rename_i he;rw[IB];exact⟨λe=>e.elim (λe=>⟨hl,he,h,e⟩) λe=>absurd B e.2,λe=>.inl e.2.2.2⟩
   .rw[Qe h];refine⟨λe=>?_,λe=>absurd e.2.2.1 h⟩;obtain⟨k,t,_,_,H,_⟩:=(V.lv y).1 e;rw[B,Z]at t;cases t;exact absurd H h
 have c1:Gw c:=⟨by
   rw[aE];split
   .split
    .exact Qav (l6 V.qg.1)
    .exact l6 V.qg.1
   .exact V.qg.1,λp=>by rw[a3,b3];exact V.qg.2 p⟩
 have c0:EH c:=λj k b BQ=>by
  by_cases e:j=a
  .subst e;rw[R]at b;cases b;rw[Aj,hl]at BQ;cases BQ
  .rw[O j e]at b;obtain⟨k0,t,v⟩:=EI (F5 j e).symm b;simp only[Zh]at v;rw[<- v.2.1];exact V.BS j k0 t (by rw[v.1];exact BQ)
 have E:c.T=M.T:=by rw[a1,b1];rfl
 have T:c.A=M.A:=by rw[a2,b2];rfl
 have L:c.KT=M.KT:=by rw[a3,b3];rfl
 have Il:∀p x,x.ki ∉ up M.T a->(x∈c.KT p↔zy c p x):=V.kt.part L (λj _=>by unfold JP;rw[E,T]) λj b=>by rw[aD j b]
 have b9:∀j,j≠a->(Qj c.N j).map Ay=(Qj M.N j).map Ay:=λj b=>by
  rw[O j b];exact ID (λk=>(k.1,k.2.1.l.isEmpty)) (F5 j b)
 have J:(a∈M.A↔(Kv n.q).l≠[]/\1<QS n.c.ls)->Inv (Wq c (up M.T a)):=λJB=>by
  rw[<- E];refine Part.settle _ a I3 rfl ?_;rw[E];refine⟨BR,Il,λp x hx Gx=>?_,V.act.at_ R b9 (λj _=>by rw[T]) ?_,c0,c1,c3⟩
  .rw[L]at hx;obtain⟨_,_,_,h,_⟩:=(V.kt p x).1 hx;show Jx c.T c.A x.ki=true;rw[E,T];exact h
  .rw[T,Aj,No,JB];exact⟨λh=>⟨hl,h⟩,λh=>h.2⟩
 have Vp:a∈M.A↔1<QS n.c.ls:=by
  rw[V.act a,Z];constructor
  .rintro⟨k,t,_,_,H⟩;cases t;exact H
  .intro h;exact⟨n,rfl,hl,hq,h⟩
 by_cases mj:(Kv n.q).l=[]
 .rw[Qf mj];have e5:Qv c a=m:=by unfold Qv;rw[R];rfl
  unfold XT;rw[e5,Aj];by_cases Y:1<QS n.c.ls
  .rw[Qf Y];have e4:=Vp.2 Y;obtain⟨s,w⟩:∃s,s={ c with A:=Ku c.A a }:=⟨_,rfl⟩;have Io:Qz s:=by rw[w];exact I3.act (I3.XS.off a)
   rw[<- w];obtain⟨U,hU⟩:∃U,U=XP c.T (Ku c.A a) a:=⟨_,rfl⟩;rw[<- hU];obtain⟨g,o⟩:∃g,g=U.foldl J8 s:=⟨_,rfl⟩;rw[<- o];have I4:Qz g:=by rw[o];exact Qz.U1 _ Io
   obtain⟨s1,s2,s3,s4,s5,s6⟩:=Is U s;rw[<- o]at s1 s2 s3 s4 s5 s6;have Iv:g.T=M.T:=by rw[s1,w];exact E
   have mm:g.A=Ku M.A a:=by rw[s2,w];dsimp only;rw[T]
   have K:s.N=c.N:=by rw[w]
   have a0:s.KT=M.KT:=by rw[w];exact L
   have N:∀j∈U,j∈up M.T a:=λj b=>by
    rw[hU,E]at b;exact List.takeWhile_subset _ b
   have Xj:∀p x,x∈g.KT p↔x∈M.KT p/\x.ki ∉ U:=λp x=>by
    rw[o,QaE U Io p x,a0]
   have vL:∀j,JP M j=true↔j∈up M.T a\/JP g j=true:=λj=>by
    unfold JP;rw[Iv,mm];exact Mt e4 j
   have e3:∀j,j∈up M.T a->j ∉ U->JP g j=true:=λj b Gp=>by
    rw[hU,E,T]at Gp;unfold JP;rw[Iv,mm];unfold XP at Gp;have mn:=List.takeWhile_append_dropWhile (p:=λi=>!Jx M.T (Ku M.A a) i) (l:=up M.T a);rw[<- mn]at b;rcases QX.1 b with b|b
    .exact absurd b Gp
    .cases S:(up M.T a).dropWhile (λi=>!Jx M.T (Ku M.A a) i) with
     | nil=>rw[S]at b;cases b
     | cons k c4=>
      have hk:Jx M.T (Ku M.A a) k=true:=by
       have:=List.head_dropWhile_not (λi=>!Jx M.T (Ku M.A a) i) (l:=up M.T a) (by rw[S];simp);simp only[S,List.head_cons]at this;simpa using this
      rw[S]at b mn;have e1:k∈up M.T a:=by rw[<- mn];simp
      obtain⟨ck,a7⟩:=Fa.1 (HJ e1);have A5:c4=up M.T ck.parent:=QuP I.tree (mn.symm) a7;rcases QG.1 b with rfl|b
      .exact hk
      .refine Ms I.tree hk ?_;rw[VT I.tree a7,<- A5];exact Jw _ b
   have b0:∀p x,x.ki ∉ up M.T a->x∈g.KT p->zy g p x:=λp x hx h=>by
    have c5:=((Xj p x).1 h).1;obtain⟨z,t,v,h3,H⟩:=(V.kt p x).1 c5;have aF:Qj g.N x.ki=some z:=by
     have F:Qj g.N x.ki=Qj s.N x.ki:=by
      rw[o];rw[o]at h;exact Qj3 U Io h
     rw[F,K,aD _ hx,t]
    have a9:JP g x.ki=true:=((vL _).1 h3).resolve_left hx;refine⟨z,aF,v,a9,?_⟩;have c8:g.KT x.ki=M.KT x.ki:=by
     rw[o,Qj4 U Io x.ki,a0];intro j b e;obtain⟨cj,a8⟩:=Fa.1 (HJ (N j b));have e0:QC s.T j=some cj:=by rw[w];dsimp only;rw[E];exact a8
     rw[Qj1 Io e0]at e;refine hx (up_sub I.tree (N j b) ?_);rw[VT I.tree a8,e];exact Jw _ (Yi I.tree (I.some t))
    rw[Qay (n:=z) rfl (by rw[a9,h3]) c8];exact H
   rw[<- Iv];refine Part.settle _ a I4 rfl ?_;rw[Iv];refine⟨?_,λp x hx=>⟨b0 p x hx,λS=>?_⟩,λp x h Gx=>e3 _ Gx ((Xj p x).1 h).2,?_,?_,?_,?_⟩
   .refine BR.of (by rw[s6,w]) λj=>?_;rw[o,wg (Gy (key:=IC) (λ_=>rfl)) U s j,K]
   .obtain⟨k,t,v,h3,H⟩:=S;have xO:(Qj g.N x.ki).map (λn=>n.c)=(Qj c.N x.ki).map λn=>n.c:=by
     rw[o,wg (Gy (key:=λn:Nd=>n.c) (λ_=>rfl)) U s x.ki,K]
    obtain⟨z,F,h6⟩:=EI xO.symm t;rw[aD _ hx]at F;have c9:(⟨z.sh.time,x.ki,Xo M x.ki z,x.ki⟩:It)∈M.KT p:=(V.kt p _).2 ⟨z,F,by rw[h6];exact v,(vL _).2 (.inr h3),rfl⟩;have b8:=(Xj p _).2 ⟨c9,λc7=>hx (N _ c7)⟩;obtain⟨k2,g1,g2,g3,g4⟩:=b0 p ⟨z.sh.time,x.ki,Xo M x.ki z,x.ki⟩ hx b8;dsimp only at g1 g4;rw[t]at g1;cases g1;rw[<- g4]at H;rw[H];exact b8
   .refine V.act.at_ (id:=a) (m:=(Qv g a)) ?_ (λj b=>?_) (λj b=>?_) ?_
    .have xO:(Qj g.N a).map (λn=>n.c)=(Qj c.N a).map λn=>n.c:=by
      rw[o,wg (Gy (key:=λn:Nd=>n.c) (λ_=>rfl)) U s a,K]
     obtain⟨k,F,_⟩:=EI xO R;unfold Qv;rw[F];rfl
    .rw[o,wg (Gy (key:=Ay) (λ_=>rfl)) U s j,K];exact b9 j b
    .rw[mm];simp[Ku,b]
    .have xO:(Qj g.N a).map (λn=>n.q)=(Qj c.N a).map λn=>n.q:=by
      rw[o,wg (Gy (key:=λn:Nd=>n.q) (λ_=>rfl)) U s a,K]
     obtain⟨k,F,h6⟩:=EI xO R;have hk:Qv g a=k:=by unfold Qv;rw[F];rfl
     rw[hk,h6,No,mm];simp[Ku,mj]
   .refine QjR c0 λj=>?_;rw[o,wg (Gy (key:=λn:Nd=>(n.c,n.q)) (λ_=>rfl)) U s j,K]
   .rw[o];refine Qj5 U ?_;rw[w];exact c1
   .rw[o];refine QaF U ?_;rw[w];exact c3
  .rw[Qe Y];exact J ⟨λh=>absurd (Vp.1 h) Y,λh=>absurd h.2 Y⟩
 .rw[Qe mj];exact J (Vp.trans ⟨λh=>⟨mj,h⟩,(·.2)⟩)
def WX(a:List Qq)(j:Int):Bool:=match QC a j with
 | some c=>!c.leaf
 | none=>false
def Qkf{d}(M:Ql)(j a:Int):(Ka d M j).KT a=if a=j/\WX d j=true then [] else M.KT a:=by
 unfold Ka WX;cases f:QC d j with
 | none=>simp
 | some c=>
  dsimp only;by_cases b:c.leaf=true
  .rw[Qf b,Qe (λe=>by rw[b]at e;exact absurd e.2 π)]
  .rw[Qe b];dsimp only;by_cases e:a=j
   .rw[Qf e,Qf ⟨e,by simpa using b⟩]
   .rw[Qe e,Qe (λh=>e h.1)]
def QaN{b}(a):∀(l:List Int) (M:Ql),a ∉ l->(l.foldl (Ka b) M).KT a=M.KT a
 | [],M,_=>rfl
 | j::l,M,h=>by
  rw[QG,qV]at h;rw[xE,QaN a l _ h.2,Qkf,Qe (λe=>h.1 e.1)]
def QAU{a}{M}(V:Gw M)(j):Gw (Ka a M j):=by
 refine⟨by rw[(Qjv (T2:=a) M j).2.1];exact V.1,λp=>?_⟩;rw[Qkf];split
 .simp[Vt]
 .exact V.2 p
def Qkg{a}:∀(l:List Int) {M:Ql},Gw M->Gw (l.foldl (Ka a) M)
 | [],M,h=>h
 | j::l,M,h=>Qkg l (QAU h j)
def QaO(c)(a:Int):∀(l:List Int) (A:List Int),a∈l.foldl (yz c) A↔a∈A\/(a∈l/\1<QS ((QC c a).getD default).ls)
 | [],A=>σ
 | j::l,A=>by
  rw[xE,QaO c a l];unfold yz;constructor
  .rintro (h|⟨h,b⟩)
   .split at h
    .rename_i d;rcases QG.1 h with rfl|h
     .exact .inr ⟨Z3,d⟩
     .exact .inl h
    .exact .inl h
   .exact .inr ⟨Jw _ h,b⟩
  .rintro (h|⟨h,b⟩)
   .refine .inl ?_;split
    .exact Jw _ h
    .exact h
   .rcases QG.1 h with rfl|h
    .refine .inl ?_;rw[Qf b];exact Z3
    .exact .inr ⟨h,b⟩
def EK{M:Ql}(I:Qz M){b}:b∈V6 M↔∃n,Qj M.N b=some n/\n.c.leaf=true/\n.q.l≠[]:=by
 constructor
 .intro h;obtain⟨c,a⟩:=JI.1 (show b∈(wa M.T).filter _ from h);obtain⟨n,g,m,o⟩:=lU I c;refine⟨n,g,m,λe=>?_⟩;unfold Gr Qv at a;rw[g]at a;simp[e]at a
 .rintro⟨n,f,j,i⟩;have k:=I.some f;obtain⟨c,a⟩:=(VL I.tree.rising).1 k;refine JI.2 ⟨JA.2 ⟨n.c,JI.2 ⟨c,j⟩,a⟩,?_⟩;unfold Gr Qv;rw[f];cases d:n.q.l with
  | nil=>exact absurd d i
  | cons x l=>simp[d]
section
variable {M:Ql}(I:Qz M)(V:Inv M){T2:List Qq}(I2:KU T2)(K2:vV T2){b:Bool}(hb:wc M T2 b=false)
include I V I2 K2 hb
theorem Inv.ak:Qz (qK M T2):=X.ak I I2 K2 hb (Good.BR I V.Rr) (Good.Rj I V.Rr)
omit I V I2 K2 in
theorem Ru{a}(c:yy M a=true):a ∉ Kq M.T T2:=λd=>by
 unfold wc at hb;rw[show (Kq M.T T2).any (yy M)=true from Dv.2 ⟨a,d,c⟩]at hb;cases hb
omit V K2 in
theorem mq{a}(c:yy M a=true):Qj (XV M T2) a=Qj M.N a:=by
 rw[Iy I I2];unfold VM;rw[Gs I2.rising,Qe (Ru hb c)]
omit I V I2 K2 hb in
theorem Rv{a x}(d:a∈V6 M)(c:x∈up M.T a):yy M x=true:=Dv.2 ⟨a,d,by simpa using c⟩
omit V K2 in
theorem QAV{a}(m:a∈V6 M):∀(k:Nat) (x:Int),(up M.T x).length=k->(x=0\/x∈up M.T a)->up T2 x=up M.T x:=by
 intro k;induction k using Nat.strongRecOn with
 | ind k h=>
  intro x i hx;rcases hx with rfl|hx
  .rw[Mr I2,Mr I.tree]
  .obtain⟨c,f⟩:=Fa.1 (HJ hx);have l:QC T2 x=some c:=by
    refine jX λe=>?_;exact Ru hb (Rv m hx) (Ic.2 (by rw[f];exact λn=>e n.symm))
   rw[VT I2 l,VT I.tree f];rw[VT I.tree f,VQ]at i;congr 1;refine h _ ω c.parent rfl ?_;by_cases g:c.parent=0
   .exact .inl g
   .obtain⟨d,j,_⟩:=I.tree.Zy c (Ab I.tree f) g;refine .inr (up_sub I.tree hx ?_);rw[VT I.tree f];exact Jw _ (Yi I.tree j)
omit V K2 in
theorem Qkh{a}(c:a∈V6 M):up T2 a=up M.T a:=by
 obtain⟨n,d,_⟩:=(EK I).1 c;exact QAV I I2 hb c _ a rfl (.inr (Yi I.tree (I.some d)))
theorem QAW{d}:d∈V6 (qK M T2)↔d∈V6 M:=by
 have i:=V.ak I I2 K2 hb;rw[EK i];constructor
 .rintro⟨n,f,g,e⟩;have a:Qj (XV M T2) d=some n:=f;rw[Iy I I2]at a;unfold VM at a;rw[Gs I2.rising]at a;split at a
  .obtain⟨c,_,rfl⟩:=WH.1 a;exact absurd rfl e
  .exact(EK I).2 ⟨n,a,g,e⟩
 .intro h;obtain⟨n,f,g,e⟩:=(EK I).1 h;refine⟨n,?_,g,e⟩;show Qj (XV M T2) d=some n;rw[mq I I2 hb (Rv h (Yi I.tree (I.some f)))];exact f
theorem QaP{a}:a∈(xr M T2).A↔a∈M.A:=by
 show a∈(V6 (qK M T2)).foldl (yz T2) []↔_;rw[QaO,QAW I V I2 K2 hb,V.act a];constructor
 .rintro (h|⟨d,l⟩)
  .cases h
  .obtain⟨n,c,j,i⟩:=(EK I).1 d;refine⟨n,c,j,i,?_⟩;have f:a ∉ Kq M.T T2:=Ru hb (Rv d (Yi I.tree (I.some c)));have g:QC T2 a=QC M.T a:=jX λe=>f (Ic.2 λk=>e k.symm);rw[g,I.some c]at l;exact l
 .rintro⟨n,c,j,i,g⟩;have d:a∈V6 M:=(EK I).2 ⟨n,c,j,i⟩;refine .inr ⟨d,?_⟩;have f:a ∉ Kq M.T T2:=Ru hb (Rv d (Yi I.tree (I.some c)));have m:QC T2 a=QC M.T a:=jX λe=>f (Ic.2 λk=>e k.symm);rw[m,I.some c];exact g
theorem QaQ(f):JP (xr M T2) f=JP M f:=by
 have h:(xr M T2).T=T2:=(Gt (T2:=T2) (Kq M.T T2) { M with T:=T2 }).1;rw[wx];unfold JP;rw[h,zd,zd];have g:∀a∈M.A,a∈V6 M:=λa c=>by
  obtain⟨n,k,j,i,_⟩:=(V.act a).1 c;exact(EK I).2 ⟨n,k,j,i⟩
 constructor
 .rintro⟨a,c,d⟩;have e:=(QaP I V I2 K2 hb).1 c;exact⟨a,e,by rw[<- Qkh I I2 hb (g a e)];exact d⟩
 .rintro⟨a,c,d⟩;exact⟨a,(QaP I V I2 K2 hb).2 c,by rw[Qkh I I2 hb (g a c)];exact d⟩
theorem Inv.change:Inv (xr M T2):=by
 obtain⟨f1,f2,f3,f4,f5⟩:=Gt (T2:=T2) (Kq M.T T2) { M with T:=T2 };have E:(xr M T2).Lv=M.Lv:=f2;have F:(0:Int) ∉ Kq M.T T2:=λh=>Ic.1 h (by rw[FV I.tree,FV I2]);have s:∀{id:Int} {n:Nd},Qj M.N id=some n->n.c.leaf=true->n.q.l≠[]->Qj (xr M T2).N id=some n:=λ{id n} g f e=>by
  show Qj (XV M T2) id=some n;rw[mq I I2 hb (Rv ((EK I).2 ⟨n,g,f,e⟩) (Yi I.tree (I.some g)))];exact g
 have u:∀{id:Int} {n:Nd},Qj (xr M T2).N id=some n->n.q.l≠[]->Qj M.N id=some n:=λ{id n} g e=>by
  have i:Qj (XV M T2) id=some n:=g;rw[Iy I I2]at i;unfold VM at i;rw[Gs I2.rising]at i;split at i
  .obtain⟨c,_,rfl⟩:=WH.1 i;exact absurd rfl e
  .exact i
 have m:∀{id:Int},JP M id=true->yy M id=true:=λ{id} h=>by
  obtain⟨a,C,w⟩:=zd.1 h;obtain⟨n,g,f,e,_⟩:=(V.act a).1 C;exact Rv ((EK I).2 ⟨n,g,f,e⟩) w
 have l:∀{id:Int},id ∉ Kq M.T T2->(xr M T2).KT id=M.KT id:=λ{id} h=>QaN id (Kq M.T T2) { M with T:=T2 } h;have v:∀{id:Int} {n:Nd},JP M id=true->Xo (xr M T2) id n=Xo M id n:=λ{id n} h=>Qay rfl (QaQ I V I2 K2 hb id) (l (Ru hb (m h)));have q:∀p x,zy (xr M T2) p x↔zy M p x:=λp x=>by
  constructor
  .rintro⟨n,g,f,e,j⟩;rw[QaQ I V I2 K2 hb]at e;have k:Qj M.N x.ki=some n:=by
    have:Qj (XV M T2) x.ki=some n:=g;rwa [mq I I2 hb (m e)]at this
   exact⟨n,k,f,e,by rw[<- v e];exact j⟩
  .rintro⟨n,g,f,e,j⟩;refine⟨n,?_,f,by rw[QaQ I V I2 K2 hb];exact e,by rw[v e];exact j⟩;show Qj (XV M T2) x.ki=some n;rw[mq I I2 hb (m e)];exact g
 have o:∀{p:Int} {x:It},zy M p x->p ∉ Kq M.T T2:=λ{p x} ⟨n,g,f,e,_⟩=>by
  by_cases r:p=0
  .rw[r];exact F
  .refine Ru hb (m (Ms I.tree e ?_));have t:=I.some g;obtain⟨d,z,_⟩:=I.tree.Zy n.c (Ab I.tree t) (by rw[f];exact r);rw[VT I.tree t,<- f];exact Jw _ (Yi I.tree z)
 refine⟨λx=>?_,λp x=>?_,λid=>?_,λid n h y=>?_,Qkg _ V.qg,λid n h=>?_⟩
 .rw[E,V.lv x];constructor
  .rintro⟨n,g,f,e,j,k⟩;exact⟨n,s g f e,f,e,j,k⟩
  .rintro⟨n,g,f,e,j,k⟩;exact⟨n,u g e,f,e,j,k⟩
 .rw[q];constructor
  .intro h;have f:x∈M.KT p:=lY p (Kq M.T T2) { M with T:=T2 } h;exact(V.kt p x).1 f
  .intro h;rw[l (o h)];exact(V.kt p x).2 h
 .rw[QaP I V I2 K2 hb,V.act id];constructor
  .rintro⟨n,g,f,e,j⟩;exact⟨n,s g f e,f,e,j⟩
  .rintro⟨n,g,f,e,j⟩;exact⟨n,u g e,f,e,j⟩
 .have i:Qj (XV M T2) id=some n:=h;rw[Iy I I2]at i;unfold VM at i;rw[Gs I2.rising]at i;split at i
  .obtain⟨c,_,rfl⟩:=WH.1 i;rfl
  .exact V.BS id n i y
 .have i:Qj (XV M T2) id=some n:=h;rw[Iy I I2]at i;unfold VM at i;rw[Gs I2.rising]at i;split at i
  .obtain⟨c,B,rfl⟩:=WH.1 i;exact Qjt (K2 c (Ab I2 B))
  .exact V.ok id n i
end
def yx.uniq{M}{d}{o e}(a:yx M d o)(b:yx M d e):o=e:=by
 unfold yx at a b;cases o with
 | none=>
  cases e with
  | none=>rfl
  | some y=>
   have f:_=[]:=a;have c:=V0.mem b;rw[f]at c;cases c
 | some x=>
  cases e with
  | none=>
   have f:_=[]:=b;have c:=V0.mem a;rw[f]at c;cases c
  | some y=>exact congrArg some (V0.uniq a b)
def yx.QAX{M:Ql}{a}{o:Option It}(h:yx M a o)(d:a<=4611686018427387904):o.isSome=true↔∃x∈M.Lv,x.ka<=a:=by
 have e:min a 9223372036854775807=a:=ω;unfold yx at h;rw[e]at h;cases o with
 | none=>
  have c:M.Lv.filter (λx=>decide (x.ka<=a))=[]:=h;constructor
  .intro h;cases h
  .rintro⟨x,hx,b⟩;have:x∈M.Lv.filter (λx=>decide (x.ka<=a)):=JI.2 ⟨hx,by simpa using b⟩;rw[c]at this;cases this
 | some x=>
  refine⟨λ_=>?_,λ_=>rfl⟩;obtain⟨c,b⟩:=JI.1 (V0.mem h);exact⟨x,c,by simpa using b⟩
def QaR{L}(a:Vt L){now}(c:now<=4611686018427387904):Rp L<=now↔∃x∈L,x.ka<=now:=by
 unfold Rp;cases L with
 | nil=>simp[never];omega
 | cons y L=>
  simp only[List.head?_cons];have e:never=9223372036854775808:=rfl;constructor
  .intro h;exact⟨y,Z3,ω⟩
  .rintro⟨x,hx,h⟩;have d:y.ka<=x.ka:=by
    rcases QG.1 hx with rfl|hx
    .exact Qs _
    .have b:y.lt x:=(B5.1 a).1 x hx;unfold It.lt KG at b;omega
   omega
def Qkj{L}{a}(d:a<=4611686018427387904):Bz L<=a↔∃x∈L,x.va<=a:=by
 obtain⟨e,c,b⟩:=sQ L never;have f:never=9223372036854775808:=rfl;unfold Bz;constructor
 .intro h;rcases b with b|⟨x,hx,b⟩
  .omega
  .exact⟨x,hx,ω⟩
 .rintro⟨x,hx,h⟩;have:=c x hx;omega
def Qkk{M:Ql}{a}(b:a<=4611686018427387904){p:Int}:(firstM M a p).isSome=true↔∃x∈M.KT p,x.va<=a:=by
 unfold firstM;rw[List.find?_isSome];have e:min a 9223372036854775807=a:=ω;simp[e]
def QAY(T)(a:Int):(up T a).length<=16:=CM
def Qkl{M:Ql}(I:Qz M)(V:Inv M){a}(b:a<=4611686018427387904):∀(k:Nat) (p:Int),17<=k+(up M.T p).length->(∃x∈M.KT p,x.va<=a)->(BJ M a k p).isSome=true
 | 0,p,i,_=>by
  have:=QAY M.T p;omega
 | k+1,p,i,h=>by
  have g:=(Qkk b).2 h;unfold BJ;cases d:firstM M a p with
  | none=>rw[d]at g;cases g
  | some x=>
   dsimp only;have hx:x∈M.KT p:=xF d;have r:x.va<=a:=by
    have:=yJ d;simp only[Xd]at this;omega
   obtain⟨n,f,o,m,l⟩:=(V.kt p x).1 hx;have q:Qv M x.ki=n:=by unfold Qv;rw[f];rfl
   rw[q];by_cases c:n.c.leaf=true
   .rw[Qf c];rfl
   .rw[Qe c];have e:x.va=Xo M x.ki n:=congrArg It.va l;unfold Xo at e;rw[Qe (by rw[m];simp[c])]at e;have j:Bz (M.KT x.ki)<=a:=ω;refine Qkl I V b k x.ki ?_ ((Qkj b).1 j);rw[VT I.tree (I.some f),o,VQ];omega
def QAZ{M}(I:Qz M)(V:Inv M){a}(b:a<=4611686018427387904){o:Option It}(e:yx M a o):(Vj M a o).isSome=true↔Ve M<=a:=by
 have d:=e.QAX b;have j:=QaR V.qg.1 b;have i:=Qkj (L:=M.KT 0) b;have g:Ve M<=a↔Rp M.Lv<=a\/Bz (M.KT 0)<=a:=by unfold Ve;omega
 rw[g,j,i];cases o with
 | some x=>simp only[Vj,wz,true_iff];exact .inl (d.1 rfl)
 | none=>
  have f:¬ ∃x∈M.Lv,x.ka<=a:=λh=>by cases d.2 h
  simp only[Vj,Option.isSome_map];constructor
  .intro h;refine .inr ?_;unfold BJ at h;cases c:firstM M a 0 with
   | none=>rw[c]at h;cases h
   | some x=>exact(Qkk b).1 (by rw[c];rfl)
  .rintro (h|h)
   .exact absurd h f
   .exact Qkl I V b 17 0 (by rw[Mr I.tree];simp) h
def aG(c:Cf):Bool:=decide (1<=c.t)&&decide (c.t<=65536)&&decide (1<=c.ZJ)&&decide (c.ZJ<=16384)
def QA0(c:Cf):Q9 prog 7 [.agg c.cells] (Zp (QZ (aG c))):=by
 unfold aG;refine ZH 0 func7 ntmps7 results7 λa w g=>?_;simp only[go_sem];all_goals (cases f:decide (1<=c.t)<;>cases e:decide (c.t<=65536)<;>cases d:decide (1<=c.ZJ)<;>cases b:decide (c.ZJ<=16384)<;>simp only[go_sem,f,e,d,b])
def aH:List It->Option It
 | []=>none
 | x::l=>match aH l with
  | none=>some x
  | some y=>some (kB x y)
def Qkm:∀L:List It,Ae (aH L) L
 | []=>rfl
 | x::l=>by
  have h:=Qkm l;unfold aH;cases a:aH l with
  | none=>
   rw[a]at h;have b:l=[]:=h;subst b;exact V0.one x
  | some y=>
   rw[a]at h;exact V0.join (V0.one x) h
def Qkn(M:Ql)(a:Nat):Option It:=aH (M.Lv.filter λx=>decide (x.ka<=min a 9223372036854775807))
def Gz(M)(a):yx M a (Qkn M a):=Qkm _
def XE(M:Ql)(a:Nat):Option (Int × Bool):=if xn M a=true then Vj (ZA M a) a (Qkn (ZA M a) a) else none
def takeN(M:Ql)(a:Nat):Ql:=match XE M a with
 | none=>ZA M a
 | some x=>XU (ZA M a) x.1 x.2
def ZP(M:Ql)(a:Nat):Int:=match XE M a with
 | none=>0
 | some x=>x.1
def Jd(M:Ql)(a:Nat):Pk:=match XE M a with
 | none=>default
 | some x=>(Qv M x.1).q.l.headD default
def V8(M:Ql)(a:Nat):Bool:=match XE M a with
 | none=>false
 | some x=>x.2
def V9(M:Ql)(a:Nat):Bool:=(XE M a).isSome
def QA1{M c}{a}{d}(h:U6 M a d c):c=takeN M a/\d=.tup [.agg (zw (ZP M a) (Jd M a) (V8 M a)),QZ (V9 M a)]:=by
 rcases h with ⟨f,rfl,rfl⟩|⟨f,o,i,b⟩
 .have e:XE c a=none:=by unfold XE;rw[Qe (by rw[f];exact k9)]
  have j:ZA c a=c:=by unfold ZA;rw[Qe (by rw[f];exact k9)]
  unfold takeN ZP Jd V8 V9;rw[e];exact⟨j.symm,rfl⟩
 .have e:XE M a=Vj (ZA M a) a o:=by unfold XE;rw[Qf f,(Gz (ZA M a) a).uniq i]
  unfold takeN ZP Jd V8 V9;rw[e];cases g:Vj (ZA M a) a o with
  | none=>
   rw[g]at b;exact⟨b.2,b.1⟩
  | some x=>
   rw[g]at b;exact⟨b.2,b.1⟩
structure jN (own:Nat->Tag) (h:List Ob) (p:Nat) (M:Ql):Prop where
 ex:∃L,ZL own h p L M
 I:Qz M
 V:Inv M
 K:Xp M.lk
def jN.step{a own'}{h h':List Ob}{p}{M}(C:jN a h p M)(e:∀l,l<h.length->Live (a l)->own' l=a l/\h'[l]? = h[l]?):jN own' h' p M:=
 ⟨C.ex.imp λ_ c=>c.step e,C.I,C.V,C.K⟩
def jN.PZ{a}{h}{p}{M}(C:jN a h p M)(g):jN (QY a h .no) (h++g) p M:=C.step λl b _=>⟨Kz b,QJ b⟩
def Qko(l:List Int)(M:Ql):(Wq M l).lk=M.lk:=(Ez l M).2.2.2.2.2.2.2.2
def QA2(M:Ql)(a:Int):(XT M a).lk=M.lk:=by
 unfold XT;split
 .exact(Is _ _).2.2.1
 .rfl
def QA3(M:Ql)(a)(r:Bool):(XU M a r).lk=M.lk:=by
 unfold XU;dsimp only;rw[Qko];have b:(Wr ((up M.T a).foldl (VG ((Qv M a).q.l.headD default).len.toNat) (Ws M a)) a ((Qv M a).q.l.headD default).len r).lk=M.lk:=by
  rw[(Rf _ _ _ _).2.2.2.1,(Nb _ _ _).2.2.2.1];rfl
 split
 .rw[QA2,b]
 .exact b
def QA4(M:Ql)(b)(c)(a:Int):(qf M b c a).lk=M.lk:=by
 unfold qf;split
 .rw[Qko,(Ip _ _ _).2.2.2.1];exact MY.2.2.2
 .exact MY.2.2.2
def mu(M:Ql)(a:Nat):(ZA M a).lk=M.lk:=(Qjj M a).1
def QA5(M:Ql)(a)(b)(x:Pk):(Vx M a b x).lk=M.lk:=by
 unfold Vx;split
 .rfl
 .split
  .split
   .rw[QA4];rfl
   .rfl
  .rfl
def BV(M:Ql)(a)(b)(x:Pk):(Zr M a b x).lk=M.lk:=by
 unfold Zr;split
 .rw[QA5,mu]
 .rfl
def Qkp(M:Ql)(a:Nat):(takeN M a).lk=M.lk:=by
 unfold takeN;split
 .exact mu M a
 .rw[QA3,mu]
def Rw(M:Ql)(b)(l:List JV):(KO M b l).lk=M.lk:=by
 unfold KO;split
 .exact(Gt _ _).2.2.1
 .rfl
def QA6{M:Ql}{a}(h:xn M a=true):M.Qd<=a/\a<=4611686018427387904:=by
 unfold xn at h;simp only[jl,Ds,Fb]at h;omega
def Inv.pick{M:Ql}(I:Qz M)(V:Inv M){a}{o}(d:yx M a o){b}{r}(c:Vj M a o=some (b,r)):∃n,Qj M.N b=some n/\n.c.leaf=true/\n.q.l≠[]/\(1<QS n.c.ls->b∈M.A):=Good.uQ I V.Rr a o b r d c
def Inv.takeN{M}(I:Qz M)(V:Inv M)(a):Inv (takeN M a):=by
 unfold X.takeN;cases b:XE M a with
 | none=>exact V.told a
 | some x=>
  unfold XE at b;split at b
  .obtain⟨n,e,d,c,_⟩:=(V.told a).pick (As I a) (Gz _ _) b;exact(V.told a).take (As I a) e d c x.2
  .cases b
def Inv.KO{M}(I:Qz M)(V:Inv M)(b)(l)(e:∀c∈l,JV.Ok c):Inv (KO M b l):=by
 unfold X.KO;split
 .rename_i h;have f:wc M (Jy M.T l) b=false:=by
   unfold jM at h;split at h
   .rename_i d;exact absurd h d
   .split at h
    .cases h
    .rename_i a;simpa using a
  obtain⟨d,a⟩:=UR I.tree I.vW e;exact V.change I d a f
 .exact V
def QA7{c}:aG c=true↔Xp c:=by
 unfold aG;simp only[ZX,Xd];exact⟨λh=>⟨h.1.1.1,h.1.1.2,h.1.2,h.2⟩,λh=>⟨⟨⟨h.t1,h.t2⟩,h.l1⟩,h.l2⟩⟩
section
variable {own:Nat->Tag}{h:List Ob}{p:Nat}{M:Ql}(C:jN own h p M)
include C
theorem QA8(b)(g:b<18446744073709551616)(e)(x):
  QI prog 81 h [.ptr p 0 0 0,u64 b,Qb e,.agg x.cells] (λd f=>d=Qb (Yp M b e x)/\∃a,jN a f p (Zr M b e x)/\ZE own h a f):=by
 obtain⟨L,c⟩:=C.ex;refine QI.mono (Qzd c C.I C.K b g e x (Good.hA C.I C.V.Rr e)) ?_;rintro d f ⟨a,l,j,k,D,i,rfl⟩;exact⟨i,a,⟨⟨L,j⟩,k,C.V.Zr C.I b g e x,by rw[BV];exact C.K⟩,D⟩
theorem QA9(a):
  QI prog 126 h [.ptr p 0 0 0,u64 a] (λd e=>d=.tup [.agg (zw (ZP M a) (Jd M a) (V8 M a)),QZ (V9 M a)]/\∃b,jN b e p (takeN M a)/\ZE own h b e):=by
 obtain⟨L,c⟩:=C.ex;refine QI.mono (QyX c C.I a λo id r g f=>?_) ?_
 .obtain⟨n,q,m,l,k⟩:=(C.V.told a).pick (As C.I a) g f;exact⟨n,by rw[<- (xp M a).1];exact q,m,l,by rw[<- (xp M a).2.2];exact k⟩
 .rintro d e ⟨b,u,s,t,D,j⟩;obtain⟨rfl,i⟩:=QA1 j;exact⟨i,b,⟨⟨L,s⟩,t,C.V.takeN C.I a,by rw[Qkp];exact C.K⟩,D⟩
theorem QBa(b)(l:List JV)(f:∀c∈l,JV.Ok c)(g:l.length<1000000):
  QI prog 30 h [.ptr p 0 0 0,QZ b,UP l] (λd e=>d=.tup [Qb (Aw M l),Qb (jM M b l)]/\∃a,jN a e p (KO M b l)/\ZE own h a e):=by
 obtain⟨L,c⟩:=C.ex;refine QI.mono (Qz6 c C.I C.K b l f g (Good.BR C.I C.V.Rr) (Good.Rj C.I C.V.Rr)) ?_;rintro d e ⟨a,k,n,j,m,D,i,rfl⟩;exact⟨i,a,⟨⟨k,j⟩,m,C.V.KO C.I b l f,by rw[Rw];exact C.K⟩,D⟩
end
def QBb(b)(h){c}(K:Xp c):
  QI prog 25 h [.agg c.cells] (λd e=>∃a p,d=.tup [.ptr p 0 0 0,Qb 0]/\jN a e p (M0 c)/\ZE b h a e):=by
 refine QI.mono (Qzn (own:=b) c) ?_;rintro d e (⟨_,a,L,p,g,i,j,D⟩|⟨f,_⟩)
 .exact⟨a,p,g,⟨⟨L,i⟩,j,QjQ c,K⟩,D⟩
 .exact absurd K f
end Go.Fg.X
namespace Go.Fg
open Go.RowKit (Below)
def QH.QaS{w0}{f}{h}(t c)(p:get f t=.nil):
  QH w0 ⟨f,h⟩ ⟨put f t (.ref h.length 0 0 0),h++[(⟨.arr,0,c,0,λ_=>[]⟩:Ob)]⟩:=by
 intro Z z i n d a w r b;have g:d.length=h.length:=r.o.len;have v:=r.o.Dx ⟨.arr,0,c,0,λ_=>[]⟩ rfl;have l:Tr h d w (h++[(⟨.arr,0,c,0,λ_=>[]⟩:Ob)]) (d++[none]) w:=Tr.push r.o (λ_ _=>rfl) _ _ (by intro b q e;simp at e);have j:(h++[(⟨.arr,0,c,0,λ_=>[]⟩:Ob)])[h.length]? = some ⟨.arr,0,c,0,λ_=>[]⟩:=σ;have k:=r.fr t;rw[show get (St.fr ⟨f,h⟩) t=.nil from p]at k;obtain⟨s,o⟩:=Ff k;have m:Rel Z i n ⟨f,h++[⟨.arr,0,c,0,λ_=>[]⟩]⟩ (d++[none]) a w:=⟨r.nt,r.defers,λu=>(r.fr u).tr l,v⟩;refine⟨d++[none],m.tell (t:=t) ?_,b.step l (Below.refl _ _)⟩;rw[o];refine .ref _ _ _ _ ⟨.arr,0,c,0,λ_=>[]⟩ none s 0 j ?_ rfl (Qs _) (λ_=>.inl ⟨rfl,rfl⟩);rw[<- g];simp
end Go.Fg
namespace Go.Fg.X
open Go.Proofs Go.Fg
open Go.Proofs.Tryz
def QW(M:Ql)(a:Int):List Pk:=(Qv M a).q.l
def Di(n:Nd):List Pk:=n.q.l
def aI{M c:Ql}{a:Int}(h:(Qj c.N a).map Di=(Qj M.N a).map Di):QW c a=QW M a:=by
 unfold QW Qv;cases b:Qj M.N a with
 | none=>
  rw[b,qU,ct]at h;rw[h]
 | some n=>
  rw[b]at h;obtain⟨m,e,d⟩:=WH.1 h;rw[e];exact d
def QBd(M:Ql)(b)(c)(a:Int)(j:Int):(Qj (qf M b c a).N j).map Di=(Qj M.N j).map Di:=by
 have d:(Qj (WL M b c a).N j).map Di=(Qj M.N j).map Di:=by
  rw[l9];split
  .cases Qj M.N j<;>rfl
  .rfl
 unfold qf;split
 .rw[(Ez _ _).1,wg (key:=Di) (λM j c=>QaC b (λ_ _=>rfl) M j c)];exact d
 .exact d
def QBe{M}(g)(a)(x)(b):QW (Vx M g a x) b=if VH M a x=0/\a=b then QW M b++[x] else QW M b:=by
 have push:∀j,j≠a->QW (KW M a x) j=QW M j:=λj o=>aI (by rw[Nk,Qe o]);cases c:Qj M.N a with
 | none=>
  have e:VH M a x=23:=by unfold VH;rw[c]
  unfold Vx;rw[e,Qe π,Qe π,Qe (λh=>absurd h.1 π)]
 | some n=>
  have m:Qv M a=n:=by unfold Qv;rw[c];rfl
  have i:QW (KW M a x) a=(X2 n.c.Z4 n.c.bytes n.q x).l:=by
   unfold QW Qv;rw[Nk,Qf rfl,c,m];rfl
  have l:QW M a=n.q.l:=by unfold QW;rw[m]
  by_cases f:VH M a x=30
  .obtain⟨_,k⟩:=Qj0 c f;unfold Vx;rw[Qf f,Qe (λh=>by rw[f]at h;exact absurd h.1 π)];by_cases e:b=a
   .rw[e,i,l];unfold X2;rw[Qf k]
   .exact push b e
  .by_cases d:VH M a x=0
   .obtain⟨_,k,_⟩:=QaD c d;have p:QW (Vx M g a x) b=QW (KW M a x) b:=by
     unfold Vx;rw[Qe f,Qf d];split
     .exact aI (QBd _ _ _ _ _)
     .rfl
    rw[p];by_cases e:b=a
    .rw[Qf ⟨d,e.symm⟩,e,i,l,QjS k]
    .rw[Qe (λh=>e h.2.symm)];exact push b e
   .unfold Vx;rw[Qe f,Qe d,Qe (λh=>d h.1)]
def QaT(M)(a:Nat)(b):QW (ZA M a) b=QW M b:=aI (by rw[(xp M a).1])
def IG(M)(c)(b)(x)(a):QW (Zr M c b x) a=if Yp M c b x=0/\b=a then QW M a++[x] else QW M a:=by
 unfold Zr Yp;split
 .rw[QBe,QaT]
 .rw[Qe (λh=>absurd h.1 π)]
def QBf(M)(a)(r)(j:Int):QW (XU M a r) j=if j=a then (QW M j).tail else QW M j:=by
 have h:QW (XU M a r) j=QW (Ws M a) j:=by
  refine aI ?_;unfold XU;dsimp only;rw[(Ez _ _).1];have b:(Qj (Wr ((up M.T a).foldl (VG ((Qv M a).q.l.headD default).len.toNat) (Ws M a)) a ((Qv M a).q.l.headD default).len r).N j).map Di=(Qj (Ws M a).N j).map Di:=by
   rw[QaI];have g:=wg (key:=Di) (step:=VG ((Qv M a).q.l.headD default).len.toNat) (λi j c=>QaG _ (λ_=>rfl) i j c) (up M.T a) (Ws M a) j;rw[<- g];split
   .cases Qj ((up M.T a).foldl (VG ((Qv M a).q.l.headD default).len.toNat) (Ws M a)).N j<;>rfl
   .rfl
  split
  .unfold XT;split
   .rw[wg (key:=Di) (Gy (λ_=>rfl))];exact b
   .exact b
  .exact b
 rw[h];have d:Qj (Ws M a).N j=if j=a then (Qj M.N j).map (λn=>{ n with q:=Kv (Qv M a).q }) else Qj M.N j:=
  jG (f:=λn:Nd=>{ n with q:=Kv (Qv M a).q }) (λ_=>rfl) j
 by_cases e:j=a
 .rw[Qf e];unfold QW Qv;rw[d,Qf e,e];unfold Qv;cases k:Qj M.N a<;>rfl
 .rw[Qe e];exact aI (by rw[d,Qe e])
def Az(M)(a)(j:Int):QW (takeN M a) j=if V9 M a=true/\ZP M a=j then (QW M j).tail else QW M j:=by
 unfold takeN V9 ZP;cases b:XE M a with
 | none=>rw[Qe (λh=>by cases h.1)];exact QaT M a j
 | some x=>
  dsimp only;rw[QBf,QaT];by_cases e:j=x.1
  .rw[Qf e,Qf ⟨rfl,e.symm⟩]
  .rw[Qe e,Qe (λh=>e h.2.symm)]
def GA{M}(I:Qz M)(V:Inv M){a}(h:V9 M a=true):∃x l,QW M (ZP M a)=x::l/\Jd M a=x:=by
 unfold V9 at h;obtain⟨y,b⟩:=Fa.1 h;have g:ZP M a=y.1:=by unfold ZP;rw[b]
 have f:Jd M a=(QW M y.1).headD default:=by unfold Jd;rw[b];rfl
 unfold XE at b;split at b
 .obtain⟨n,e,j,i,_⟩:=(V.told a).pick (As I a) (Gz _ _) b;rw[(xp M a).1]at e;have d:QW M y.1=n.q.l:=by unfold QW Qv;rw[e];rfl
  cases c:n.q.l with
  | nil=>exact absurd c i
  | cons x l=>exact⟨x,l,by rw[g,d,c],by rw[f,d,c];rfl⟩
 .cases b
def QBg{c}(b)(l)(j):QW (KO (M0 c) b l) j=[]:=by
 unfold KO;split
 .have r:∀(L:List Int) (g:List Qq) (M:Ql),(∀id n,Qj M.N id=some n->n.q.l=[])->∀id n,Qj (L.foldl (Ka g) M).N id=some n->n.q.l=[]:=by
   intro L g;induction L with
   | nil=>intro M h;exact h
   | cons i L m=>
    intro M h;refine m _ λid n a=>?_;unfold Ka at a;split at a
    .rw[Dg]at a;split at a
     .cases a
     .exact h id n a
    .have f:∀(k:Qq) (N:List Nd),Qj (X4 k::jL N i) id=some n->(∀n,Qj N id=some n->n.q.l=[])->n.q.l=[]:=λk N a h=>by
      unfold Qj at a;rw[vg]at a;split at a
      .cases a;rfl
      .have d:Qj (jL N i) id=some n:=a;rw[Dg]at d;split at d
       .cases d
       .exact h n d
     split at a
     .exact f _ _ a (h id)
     .exact f _ _ a (h id)
  have q:=r (Kq (M0 c).T (Jy (M0 c).T l)) (Jy (M0 c).T l) { M0 c with T:=Jy (M0 c).T l } (λid n a=>by simp[M0,Qj]at a);have p:∀id,(Qv (VM (M0 c) (Jy (M0 c).T l)) id).q.l=[]:=λid=>by
   unfold Qv VM;cases e:Qj ((Kq (M0 c).T (Jy (M0 c).T l)).foldl (Ka (Jy (M0 c).T l)) { M0 c with T:=Jy (M0 c).T l }).N id with
   | none=>rfl
   | some n=>exact q id n e
  unfold QW Qv;show ((Qj (XV (M0 c) (Jy (M0 c).T l)) j).getD default).q.l=[];cases e:Qj (XV (M0 c) (Jy (M0 c).T l)) j with
  | none=>rfl
  | some n=>
   have o:n∈XV (M0 c) (Jy (M0 c).T l):=xF e;obtain⟨k,_,rfl⟩:=JA.1 o;exact p _
 .rfl
end Go.Fg.X
namespace Go.Fg.X
open Go.Proofs Go.Fg
open Go.Proofs.Tryz
def c6:Cf:=⟨1,100⟩
end Go.Fg.X
namespace Go.Fg.X
open Go.Proofs Go.Fg
open Go.Proofs.Tryz
def QBh(M:Ql)(l:List Int):Nat:=(l.map λj=>(Qv M j).Zw).sum
structure QIS (M:Ql):Prop where
 leaf:∀id n,Qj M.N id=some n->n.c.leaf=true->n.Zw=n.q.bo
 inner:∀id n,Qj M.N id=some n->n.c.leaf=false->n.Zw=V5 (QBh M (Xh M.T id))
def QIT(n:Nd):Qq × Nat × Nat:=(n.c,n.Zw,n.q.bo)
def Qkq{e:Type}{a:Nd->e}{M d:Ql}{b:Int}(h:(Qj d.N b).map a=(Qj M.N b).map a):a (Qv d b)=a (Qv M b):=by
 unfold Qv;cases c:Qj M.N b with
 | none=>
  rw[c,qU,ct]at h;rw[h]
 | some n=>
  rw[c]at h;obtain⟨m,g,f⟩:=WH.1 h;rw[g];exact f
def QBi(M:Ql)(b)(c)(a:Int):(qf M b c a).T=M.T:=by
 unfold qf;split
 .rw[(Ez _ _).2.1,(Ip _ _ _).1];exact MY.1
 .exact MY.1
def QBj(M:Ql)(a)(r:Bool):(XU M a r).T=M.T:=by
 unfold XU;dsimp only;rw[(Ez _ _).2.1];have b:(Wr ((up M.T a).foldl (VG ((Qv M a).q.l.headD default).len.toNat) (Ws M a)) a ((Qv M a).q.l.headD default).len r).T=M.T:=by
  rw[(Rf _ _ _ _).1,(Nb _ _ _).1];rfl
 split
 .unfold XT;split
  .rw[(Is _ _).1];exact b
  .exact b
 .exact b
def Qz.up{M:Ql}(I:Qz M){id j}(h:j∈X.up M.T id):∃n,Qj M.N j=Option.some n:=by
 obtain⟨c,a⟩:=Fa.1 (HJ h);obtain⟨n,b,_⟩:=I.Ij a;exact⟨n,b⟩
def Qz.mv:∀(l:List Int) {M:Ql},Qz M->V7 M->(∀j∈l,∃n,Qj M.N j=Option.some n)->Qz (Wq M l)
 | [],M,I,_,_=>I
 | id::l,M,I,V,h=>by
  obtain⟨n,b⟩:=h id Z3;have a:=(P3 M id).1;exact Qz.mv l (ux I b (V id n b)) (by unfold V7;rw[a];exact V) (by rw[a];exact λj c=>h j (Jw _ c))
def QBk{M:Ql}(V:V7 M){a}{n}(c:Qj M.N a=some n)(b)(r):V7 (Wr M a b r):=by
 have d:Qv M a=n:=by unfold Qv;rw[c];rfl
 unfold Wr;split
 .exact IE (f:=λm:Nd=>{ m with du:=qJ (Qv M a) b r }) (λ_=>rfl) (λm _ h=>⟨h.Zw,by rw[d];exact uA (V a n c) b r,h.sh,h.cp,h.c⟩) V
 .exact V
def QBl{M}(V:V7 M)(a):V7 (XT M a):=by
 unfold XT;split
 .exact QaF _ (M:={ M with A:=Ku M.A a }) V
 .exact V
def Qz.XU{M:Ql}(I:Qz M)(V:V7 M){a}{n}(t:Qj M.N a=Option.some n)(r):Qz (XU M a r):=by
 unfold X.XU;dsimp only;generalize ((Qv M a).q.l.headD default).len=b;obtain⟨c,d⟩:∃c,c=(X.up M.T a).foldl (X.VG b.toNat) (X.Ws M a):=⟨_,rfl⟩;rw[<- d];have p:Qz c:=by rw[d];exact Qz.lG _ (I.Ws a)
 obtain⟨k,_⟩:=Nb b.toNat (X.up M.T a) (X.Ws M a);rw[<- d]at k;have u:V7 c:=by
  rw[d];exact QaH _ _ (IE (f:=λn:Nd=>{ n with q:=Kv (Qv M a).q }) (λ_=>rfl) (λn _ h=>⟨h.Zw,h.du,h.sh,h.cp,h.c⟩) V)
 have s:c.T=M.T:=k;obtain⟨w,m⟩:=p.up (id:=a) (j:=a) (by rw[s];exact Yi I.tree (I.some t));have i:=p.Wr m b r;have l:=QBk u m b r;have e:(X.Wr c a b r).T=M.T:=(Rf c a b r).1.trans s;split
 .have o:=i.XT a;have v:(X.XT (X.Wr c a b r) a).T=M.T:=by
   unfold X.XT;split
   .rw[(Is _ _).1];exact e
   .exact e
  exact o.mv _ (QBl l a) λj g=>o.up (id:=a) (by rw[v];exact g)
 .exact i.mv _ l λj g=>i.up (id:=a) (by rw[e];exact g)
def QBm{M:Ql}(V:V7 M){b}{n}(f:Qj M.N b=some n)(c)(i:c<18446744073709551616)(a):V7 (WL M c b a):=λj k d=>by
 have l:Qv M b=n:=by unfold Qv;rw[f];rfl
 rw[l9,l]at d;split at d
 .obtain⟨g,h,rfl⟩:=WH.1 d;have e:=V j g h;exact⟨e.Zw,tv (V b n f).du (V b n f).c.2.2.2.1.lt i a,e.sh,e.cp,e.c⟩
 .exact V j k d
def Qkr{a}(b:a<18446744073709551616):∀(l:List Int) (M:Ql),Qz M->V7 M->V7 (l.foldl (XC a) M)
 | [],M,_,V=>V
 | j::l,M,I,V=>Qkr b l _ (I.XC a j) (IE (f:=EA M a) (λ_=>rfl) (λn _ c=>uD I b c) V)
def Qz.qf{M:Ql}(I:Qz M)(V:V7 M){d}{n:Nd}(e:Qj M.N d=Option.some n)(o:n.c.leaf=true)(c)(h:c<18446744073709551616)(b):Qz (qf M c d b):=by
 have s:Qv M d=n:=by unfold Qv;rw[e];rfl
 have l:=I.WL e c b;have r:=QBm V e c h b;obtain⟨g,v,u,t⟩:=MY (M:=M) (now:=c) (id:=d) (head:=b);unfold X.qf;rw[s];split
 .rename_i m;have k:Qz { X.WL M c d b with A:=d::M.A }:=l.act λa f=>by
   rw[g];rcases QG.1 f with rfl|f
   .exact⟨n.c,I.some e,o,m⟩
   .exact I.XS a f
  have i:=Qz.UU (now:=c) (XP M.T M.A d) k;have q:=Qkr h (XP M.T M.A d) _ k r;obtain⟨t1,_⟩:=Ip c (XP M.T M.A d) { X.WL M c d b with A:=d::M.A };exact i.mv _ q λj p=>i.up (id:=d) (by rw[t1];show j∈X.up (X.WL M c d b).T d;rw[g];exact p)
 .exact l
def Qz.Vx{M}(I:Qz M)(V:V7 M)(b)(k:b<18446744073709551616)(a)(x):Qz (Vx M b a x):=by
 unfold X.Vx;cases c:Qj M.N a with
 | none=>
  have e:VH M a x=23:=by unfold VH;rw[c]
  rw[e,Qe π,Qe π];exact I
 | some n=>
  have f:Qv M a=n:=by unfold Qv;rw[c];rfl
  by_cases h:VH M a x=30
  .rw[Qf h];exact I.KW a x
  .rw[Qe h];by_cases d:VH M a x=0
   .rw[Qf d,f];obtain⟨j,o,m,l,i⟩:=QaD c d;have g:=(I.KW a x).jK i;split
    .refine g.qf (QaB V a x) (n:={ n with q:=X2 n.c.Z4 n.c.bytes n.q x }) ?_ j b k x.len;show Qj (X.KW M a x).N a=_;rw[Nk,Qf rfl,c,f];rfl
    .exact g
   .rw[Qe d];exact I
def Qz.Zr{M}(I:Qz M)(V:Inv M)(a)(c:a<18446744073709551616)(b)(x):Qz (Zr M a b x):=by
 unfold X.Zr;split
 .exact(As I a).Vx (V.told a).ok a c b x
 .exact I
def Qz.takeN{M}(I:Qz M)(V:Inv M)(a):Qz (takeN M a):=by
 unfold X.takeN;cases b:XE M a with
 | none=>exact As I a
 | some x=>
  unfold XE at b;split at b
  .obtain⟨n,c,e,d,_⟩:=(V.told a).pick (As I a) (Gz _ _) b;exact(As I a).XU (V.told a).ok c x.2
  .cases b
def Qz.KO{M}(I:Qz M)(V:Inv M)(b)(l)(k:∀c∈l,JV.Ok c):Qz (KO M b l):=by
 unfold X.KO;split
 .rename_i h;have r:wc M (Jy M.T l) b=false:=by
   unfold jM at h;split at h
   .rename_i g;exact absurd h g
   .split at h
    .cases h
    .rename_i f;simpa using f
  obtain⟨g,f⟩:=UR I.tree I.vW k;have i:=V.ak I g f r;have o:(qK M (Jy M.T l)).T=Jy M.T l:=(Gt (T2:=Jy M.T l) (Kq M.T (Jy M.T l)) { M with T:=Jy M.T l }).1;refine i.act λa m=>?_;rcases (QaO (Jy M.T l) a (V6 (qK M (Jy M.T l))) []).1 m with e|⟨e,j⟩
  .cases e
  .obtain⟨n,q,p,s⟩:=(EK i).1 e;have d:=i.some q;refine⟨n.c,d,p,?_⟩;rw[o]at d;rw[d]at j;exact j
 .exact I
def Qks(l:List Int)(M:Ql):(Wq M l).Qd=M.Qd:=(Ez l M).2.2.2.2.2.2.1
def QBn(M:Ql)(a:Int):(XT M a).Qd=M.Qd:=by
 unfold XT;split
 .exact(Is _ _).2.2.2.1
 .rfl
def QBo(M:Ql)(a)(r:Bool):(XU M a r).Qd=M.Qd:=by
 unfold XU;dsimp only;rw[Qks];have b:(Wr ((up M.T a).foldl (VG ((Qv M a).q.l.headD default).len.toNat) (Ws M a)) a ((Qv M a).q.l.headD default).len r).Qd=M.Qd:=by
  rw[(Rf _ _ _ _).2.2.2.2.1,(Nb _ _ _).2.2.2.2.1];rfl
 split
 .rw[QBn,b]
 .exact b
def Qkt(M:Ql)(b)(c)(a:Int):(WL M b c a).Qd=M.Qd:=by
 unfold WL;split<;>rfl
def QBp(M:Ql)(b)(c)(a:Int):(qf M b c a).Qd=M.Qd:=by
 unfold qf;split
 .rw[Qks,(Ip _ _ _).2.2.2.2.1];exact Qkt M b c a
 .exact Qkt M b c a
def QBq(M:Ql)(a)(b)(x:Pk):(Vx M a b x).Qd=M.Qd:=by
 unfold Vx;split
 .rfl
 .split
  .split
   .rw[QBp];rfl
   .rfl
  .rfl
def QaV(M:Ql)(a:Nat):(ZA M a).Qd=M.Qd\/((ZA M a).Qd=a/\a<=4611686018427387904):=by
 unfold ZA;split
 .rename_i h;exact .inr ⟨rfl,(QA6 h).2⟩
 .exact .inl rfl
def Qku{M:Ql}(I:Qz M)(V:Inv M){now}(c:now<=4611686018427387904)(e:M.Qd<=now):V9 M now=decide (Ve M<=now/\Ve M<9223372036854775808):=by
 have b:xn M now=true:=by
  unfold xn;simp only[jl,Ds,Fb];omega
 have a:=QAZ (As I now) (V.told now) c (Gz (ZA M now) now);have d:Ve (ZA M now)=Ve M:=by unfold ZA;split<;>rfl
 rw[d]at a;unfold V9 XE;rw[Qf b,wx,a,Xd];omega
def Vy(M:Ql):Nat:=(M.T.map λc=>(QW M c.iD).length).sum
def Qkv{f f':Int->Nat}{q:Int}:∀{l:List Qq},(l.map (·.iD)).Nodup->q∈l.map (·.iD)->f' q+1=f q->(∀j,j≠q->f' j=f j)->(l.map λc=>f' c.iD).sum+1=(l.map λc=>f c.iD).sum
 | [],_,h,_,_=>by cases h
 | a::l,b,h,k,d=>by
  simp only[Jo,Z8,vj]at b ⊢;by_cases e:a.iD=q
  .have g:(l.map λc=>f' c.iD)=l.map λc=>f c.iD:=EX λc i=>d _ λm=>b.1 (by rw[e,<- m];exact JA.2 ⟨c,i,rfl⟩);rw[g,e];omega
  .have n:=Qkv b.2 ((QG.1 h).resolve_left λg=>e g.symm) k d;rw[d _ e];omega
def Rx(M:Ql)(a:Nat):(takeN M a).T=M.T:=by
 unfold takeN;split
 .exact(xp M a).2.1
 .rw[QBj];exact(xp M a).2.1
def QBr{M}(I:Qz M)(V:Inv M){c}(h:V9 M c=true):Vy (takeN M c)+1=Vy M:=by
 obtain⟨x,l,d,p⟩:=GA I V h;unfold Vy;rw[Rx];have o:(M.T.map (·.iD)).Nodup:=by
  have h:M.T.Pairwise (λa b=>a.iD<b.iD):=I.tree.rising;rw[nU,Sl];exact h.imp λr=>ω
 refine Qkv (q:=ZP M c) (f:=λj=>(QW M j).length) (f':=λj=>(QW (takeN M c) j).length) o ?_ ?_ λj i=>?_
 .unfold QW Qv at d;cases g:Qj M.N (ZP M c) with
  | none=>rw[g]at d;cases d
  | some n=>
   obtain⟨m,k⟩:=(VL I.tree.rising).1 (I.some g);exact JA.2 ⟨n.c,m,k⟩
 .rw[Az,Qf ⟨h,rfl⟩,d];simp
 .rw[Az,Qe λe=>i e.2.symm]
def Yq(b a c:Nat):Nat:=min (max (max b a) c) 9223372036854775808
def QBs{M:Ql}(I:Qz M)(V:Inv M){a until_ b}(e:M.Qd<=a)(d:b<=4611686018427387904)(h:Yq a until_ (Ve M)<=b):
  V9 M (Yq a until_ (Ve M))=true/\until_<=Yq a until_ (Ve M)/\a<=Yq a until_ (Ve M):=by
 have f:Yq a until_ (Ve M)=max (max a until_) (Ve M):=by unfold Yq at h ⊢;omega
 have c:=Qku I V (now:=Yq a until_ (Ve M)) ω ω;rw[c];refine⟨Q1 ⟨ω,ω⟩,ω,ω⟩
def QBt{M}(I:Qz M){b}{l}(a:∀c∈l,JV.Ok c):Ve (KO M b l)=Ve M:=by
 unfold KO;split
 .have d:(xr M (Jy M.T l)).Lv=M.Lv:=(Gt (T2:=Jy M.T l) (Kq M.T (Jy M.T l)) { M with T:=Jy M.T l }).2.1;have e:(xr M (Jy M.T l)).KT 0=M.KT 0:=by
   have f:=(UR I.tree I.vW a).1;exact QaN 0 (Kq M.T (Jy M.T l)) { M with T:=Jy M.T l } λh=>Ic.1 h (by rw[FV I.tree,FV f])
  unfold Ve;rw[d,e]
 .rfl
structure kW where
 p:Nat
 b:Nat
 r:Nat
 w:Nat
 l:Nat
instance:Inhabited kW:=⟨⟨0,0,0,0,0⟩⟩
def kW.Ok(r:kW):Prop:=r.p<18446744073709551616/\r.b<18446744073709551616/\r.r<18446744073709551616/\r.w<18446744073709551616/\r.l<18446744073709551616
structure EL where
 Jp:Int->List Nat
 rows:Int->kW
def wh(s:EL)(a:Int)(b:Nat):EL:={ s with Jp:=λk=>if k=a then s.Jp k++[b] else s.Jp k }
def AA(r:kW)(a done:Nat)(b:Int)(c:Bool):kW:=
 ⟨(r.p+1) % 18446744073709551616,(r.b+b.toNat) % 18446744073709551616,if c=true then (r.r+1) % 18446744073709551616 else r.r,(r.w+(done - a)) % 18446744073709551616,max r.l (done - a)⟩
def qL(s:EL)(c:Int)(done:Nat)(b:Int)(d:Bool):EL:=match s.Jp c with
 | []=>s
 | a::l=>if b<1 then s else if done<a then s else
  ⟨λk=>if k=c then l else s.Jp k,λk=>if k=c then AA (s.rows k) a done b d else s.rows k⟩
def ZZ(x:Pk):List Int:=[x.xZ,x.x5,x.x6,x.x7]
def Ke.mask(r:Ke):List Int:=[r.Bo,r.Bp,r.FN,r.DW]
def Ke.want(r:Ke):List Int:=[r.Mg,r.Mh,r.Mi,r.FO]
def xv(a b:Int):Int:=bits .and .u16 a b
def aJ(h m:List Int):List Int:=List.zipWith xv h m
def jg(r:Ke)(h:List Int):Bool:=aJ h r.mask==r.want
def AB(r:Ke):Bool:=decide (1<=r.cls)&&decide (r.cls<=65536)&&(aJ r.want r.mask==r.want)
def Kj(R:List Ke)(h:List Int):Int:=match R.find? λr=>jg r h with
 | some r=>r.cls
 | none=>0
def zz(R:List Ke):Int:=if 32<R.length then 2 else if R.all AB=true then 0 else 1
structure Zj where
 M:Ql
 ZR:Nat
 R:List Ke
 st:EL
 Qd:Nat
 ops:Nat
def VN(c:Cf)(a:Int):Nat:=a.toNat*c.t.toNat
def Vz(c b:Nat)(a:Int)(x:Pk):Ev:=⟨c,true,false,b,0,a,x.iD,x.len,x.xZ,x.x5,x.x6,x.x7⟩
def AD(d:Nat)(a:Bool)(c done:Nat)(b:Int)(x:Pk):Ev:=⟨d,false,a,c,done,b,x.iD,x.len,x.xZ,x.x5,x.x6,x.x7⟩
def ZB(S:Zj)(b a:Nat):Zj × List Ev:=
 if a<S.ZR then (S,[]) else
 if V9 S.M a=true then
  ({ S with M:=takeN S.M a,ZR:=a+VN S.M.lk (Jd S.M a).len,st:=qL S.st (ZP S.M a) (a+VN S.M.lk (Jd S.M a).len) (Jd S.M a).len (V8 S.M a) },
   [AD b (V8 S.M a) a (a+VN S.M.lk (Jd S.M a).len) (ZP S.M a) (Jd S.M a)])
 else ({ S with M:=takeN S.M a },[])
def Zb(S:Zj):Nat:=Yq S.Qd S.ZR (Ve S.M)
def Vf(c e:Nat):Nat->Zj->Zj × List Ev
 | 0,S=>({ S with Qd:=e },[])
 | n+1,S=>if e<Zb S then ({ S with Qd:=e },[]) else
  let a:=ZB { S with Qd:=Zb S } c (Zb S);let b:=Vf c e n a.1
  (b.1,a.2++b.2)
structure wi where
 err:Int
 place:Int
 cls:Int
instance:Inhabited wi:=⟨⟨0,0,0⟩⟩
structure Ry where
 S:Zj
 r:wi
 l:List Ev
def zA(S:Zj)(b a:Nat):Ry:=
 if 4611686018427387904 - S.Qd<a then ⟨S,⟨27,0,0⟩,[]⟩ else
 ⟨(Vf b (S.Qd+a) (Vy S.M+1) S).1,⟨0,0,0⟩,(Vf b (S.Qd+a) (Vy S.M+1) S).2⟩
def qh(S:Zj)(b:Nat)(x:Pk):Ry:=
 if Kj S.R (ZZ x)=0 then ⟨S,⟨31,0,0⟩,[]⟩ else
 if Yp S.M S.Qd (Kj S.R (ZZ x)) x=0 then
  let a:=ZB { S with M:=Zr S.M S.Qd (Kj S.R (ZZ x)) x,st:=wh S.st (Kj S.R (ZZ x)) S.Qd } b S.Qd
  ⟨a.1,⟨0,0,Kj S.R (ZZ x)⟩,Vz b S.Qd (Kj S.R (ZZ x)) x::a.2⟩
 else ⟨{ S with M:=Zr S.M S.Qd (Kj S.R (ZZ x)) x },⟨Yp S.M S.Qd (Kj S.R (ZZ x)) x,0,Kj S.R (ZZ x)⟩,[]⟩
def Wa(S:Zj)(a:Nat)(o:Je):Ry:=
 if o.kind=1 then ⟨{ S with M:=KO S.M (decide (S.ZR<=S.Qd)) o.changes },⟨jM S.M (decide (S.ZR<=S.Qd)) o.changes,Aw S.M o.changes,0⟩,[]⟩
 else if o.kind=2 then (if zz o.rules=0 then ⟨{ S with R:=o.rules },⟨0,0,0⟩,[]⟩ else ⟨S,⟨zz o.rules,0,0⟩,[]⟩)
 else if o.kind=3 then qh S a o.ZG
 else if o.kind=4 then zA S a o.Wn.toNat
 else ⟨S,⟨1,0,0⟩,[]⟩
def Kb(S:Zj)(o:Je):Ry:=Wa { S with ops:=S.ops+1 } S.ops o
def S0(c:Cf):Zj:=⟨M0 c,0,[],⟨λ_=>[],λ_=>default⟩,0,0⟩
def Zz(S:Zj):List Je->Zj × List wi × List Ev
 | []=>(S,[],[])
 | o::l=>((Zz (Kb S o).S l).1,(Kb S o).r::(Zz (Kb S o).S l).2.1,(Kb S o).l++(Zz (Kb S o).S l).2.2)
def Qkw:∀(l m:List Je) (S:Zj),Zz S (l++m)=((Zz (Zz S l).1 m).1,(Zz S l).2.1++(Zz (Zz S l).1 m).2.1,(Zz S l).2.2++(Zz (Zz S l).1 m).2.2)
 | [],m,S=>rfl
 | o::l,m,S=>by simp only[YG,Zz,Qkw l m,Wu]
structure ZC (S:Zj):Prop where
 I:Qz S.M
 V:Inv S.M
 K:Xp S.M.lk
 len:∀j,∀x∈QW S.M j,1<=x.len/\x.len<=S.M.lk.ZJ
 mc:S.M.Qd<=S.Qd
 cl:S.Qd<=4611686018427387904
 un:S.ZR<=4611686018427387904+1073741824
 st:∀k,(S.st.rows k).Ok
 ca:∀k,∀a∈S.st.Jp k,a<18446744073709551616
def Qkx{P:List Pk->Prop}(d:P [])(f:List Qq)(b:Int):∀(L:List Int) (M:Ql),(∀n,Qj M.N b=some n->P n.q.l)->∀n,Qj (L.foldl (Ka f) M).N b=some n->P n.q.l
 | [],M,h=>h
 | i::L,M,h=>Qkx d f b L _ λn a=>by
  have e:∀(k:Qq),Qj (X4 k::jL M.N i) b=some n->P n.q.l:=λk a=>by
   unfold Qj at a;rw[vg]at a;split at a
   .cases a;exact d
   .have c:Qj (jL M.N i) b=some n:=a;rw[Dg]at c;split at c
    .cases c
    .exact h n c
  unfold Ka at a;split at a
  .rw[Dg]at a;split at a
   .cases a
   .exact h n a
  .split at a
   .exact e _ a
   .exact e _ a
def QBu{P:List Pk->Prop}(b:P []){M:Ql}{j:Int}(h:P (QW M j))(n:Nd)(a:Qj M.N j=some n):P n.q.l:=by
 unfold QW Qv at h;rw[a]at h;exact h
def Qky{P:List Pk->Prop}(a:P []){M:Ql}(b:Bool)(l:List JV){j:Int}(h:P (QW M j)):P (QW (KO M b l) j):=by
 unfold KO;split
 .have m:∀id,P (QW M id)->P (Qv (VM M (Jy M.T l)) id).q.l:=λid o=>by
   unfold Qv VM;cases c:Qj ((Kq M.T (Jy M.T l)).foldl (Ka (Jy M.T l)) { M with T:=Jy M.T l }).N id with
   | none=>exact a
   | some n=>exact Qkx a _ id _ { M with T:=Jy M.T l } (QBu a o) n c
  unfold QW Qv;show P ((Qj (XV M (Jy M.T l)) j).getD default).q.l;cases c:Qj (XV M (Jy M.T l)) j with
  | none=>exact a
  | some n=>
   have g:n∈XV M (Jy M.T l):=xF c;have i:=yJ c;obtain⟨k,p,rfl⟩:=JA.1 g;have d:k.iD=j\/(Qv (VM M (Jy M.T l)) k.iD).q.l=[]:=by
    by_cases e:(Qv (VM M (Jy M.T l)) k.iD).c.iD=k.iD
    .left;rw[<- e];simpa using i
    .right;unfold Qv at e ⊢;cases f:Qj (VM M (Jy M.T l)).N k.iD with
     | none=>rfl
     | some n=>
      rw[f]at e;have:=yJ f;exact absurd (by simpa using this) e
   rcases d with rfl|d
   .exact m _ h
   .show P (Qv (VM M (Jy M.T l)) k.iD).q.l;rw[d];exact a
 .exact h
def QBv{r:kW}(h:r.Ok){a done}(e:done<18446744073709551616)(b)(c:Bool):(AA r a done b c).Ok:=by
 obtain⟨j,i,d,g,f⟩:=h;unfold AA;refine⟨YI _ π,YI _ π,?_,YI _ π,?_⟩
 .dsimp only;split
  .exact YI _ π
  .exact d
 .dsimp only;omega
def yA(M:Ql)(a:Nat):(takeN M a).lk=M.lk:=Qkp M a
def QBw(M:Ql)(a:Nat):(takeN M a).Qd=M.Qd\/((takeN M a).Qd=a/\a<=4611686018427387904):=by
 unfold takeN;split
 .exact QaV M _
 .rw[QBo];exact QaV M _
def QBx(M:Ql)(a)(b)(x:Pk):(Zr M a b x).Qd=M.Qd\/((Zr M a b x).Qd=a/\a<=4611686018427387904):=by
 unfold Zr;split
 .rw[QBq];exact QaV M _
 .exact .inl rfl
def QBy(M:Ql)(b)(l:List JV):(KO M b l).Qd=M.Qd:=by
 unfold KO;split
 .exact(Gt _ _).2.2.2.1
 .rfl
def QaW{M:Ql}{a}{b}{x:Pk}(h:Yp M a b x=0):1<=x.len/\x.len<=M.lk.ZJ:=by
 unfold Yp at h;split at h
 .have c:(ZA M a).lk=M.lk:=mu M a;unfold VH at h;split at h
  .cases h
  .split at h
   .cases h
   .split at h
    .cases h
    .rename_i d;rw[c]at d;omega
 .cases h
def QBz{s:EL}(h:(∀k,(s.rows k).Ok)/\∀k,∀a∈s.Jp k,a<18446744073709551616)(c){done}(f:done<18446744073709551616)(b)(d:Bool):(∀k,((qL s c done b d).rows k).Ok)/\∀k,∀a∈(qL s c done b d).Jp k,a<18446744073709551616:=by
 unfold qL;cases g:s.Jp c with
 | nil=>exact h
 | cons a l=>
  dsimp only;split
  .exact h
  .split
   .exact h
   .refine⟨λk=>?_,λk x hx=>?_⟩
    .dsimp only;split
     .exact QBv (h.1 k) f _ _
     .exact h.1 k
    .dsimp only at hx;split at hx
     .rename_i e;exact h.2 c x (by rw[g];exact Jw _ hx)
     .exact h.2 k x hx
def II{c:Cf}(K:Xp c){a}(h:1<=a/\a<=c.ZJ):1<=VN c a/\VN c a<=1073741824:=by
 have j:=K.t1;have i:=K.t2;have g:=K.l2;unfold VN;have f:1<=a.toNat:=ω;have e:a.toNat<=16384:=ω;have d:1<=c.t.toNat:=ω;have b:c.t.toNat<=65536:=ω;exact⟨X8 f d,X8 e b⟩
def ZC.take_len{S:Zj}(T:ZC S){a:Nat}(h:V9 S.M a=true):1<=(Jd S.M a).len/\(Jd S.M a).len<=S.M.lk.ZJ:=by
 obtain⟨x,l,c,b⟩:=GA T.I T.V h;rw[b];exact T.len _ x (by rw[c];exact Z3)
def ZC.takeN{S:Zj}(T:ZC S):ZC { S with M:=takeN S.M S.Qd } where
 I:=T.I.takeN T.V _
 V:=T.V.takeN T.I _
 K:=by show Xp (X.takeN S.M S.Qd).lk;rw[yA];exact T.K
 len:=λj x hx=>by
  have hx:x∈QW (X.takeN S.M S.Qd) j:=hx;show 1<=x.len/\x.len<=(X.takeN S.M S.Qd).lk.ZJ;rw[yA];rw[Az]at hx;split at hx
  .exact T.len j x (NS hx)
  .exact T.len j x hx
 mc:=by
  show (X.takeN S.M S.Qd).Qd<=S.Qd;have:=T.mc;rcases QBw S.M S.Qd with h|h<;>omega
 cl:=T.cl
 un:=T.un
 st:=T.st
 ca:=T.ca
def ZC.IK{S:Zj}(T:ZC S)(c):ZC (ZB S c S.Qd).1:=by
 unfold ZB;split
 .exact T
 .split
  .rename_i h;have e:=II T.K (T.take_len h);have d:=T.cl;have a:=T.takeN;have b:=QBz ⟨T.st,T.ca⟩ (ZP S.M S.Qd) (done:=S.Qd+VN S.M.lk (Jd S.M S.Qd).len) ω (Jd S.M S.Qd).len (V8 S.M S.Qd);exact⟨a.I,a.V,a.K,a.len,a.mc,T.cl,by dsimp only;omega,b.1,b.2⟩
  .exact T.takeN
def ZC.at_{S:Zj}(T:ZC S){e}(b:S.Qd<=e)(a:e<=4611686018427387904):ZC { S with Qd:=e }:=
 ⟨T.I,T.V,T.K,T.len,JL T.mc b,a,T.un,T.st,T.ca⟩
def Nq(S:Zj)(b a:Nat):(ZB S b a).1.Qd=S.Qd/\(ZB S b a).1.ops=S.ops/\(ZB S b a).1.R=S.R:=by
 unfold ZB;split
 .exact⟨rfl,rfl,rfl⟩
 .split<;>exact⟨rfl,rfl,rfl⟩
def aK(S:Zj)(h:S.Qd<=4611686018427387904):S.Qd<=Zb S:=by
 unfold Zb Yq;omega
def ZC.go{a e}(b:e<=4611686018427387904):∀(n:Nat) {S:Zj},ZC S->S.Qd<=e->ZC (Vf a e n S).1
 | 0,S,T,h=>T.at_ h b
 | n+1,S,T,h=>by
  unfold Vf;split
  .exact T.at_ h b
  .rename_i d;have c:=(T.at_ (aK S T.cl) (show Zb S<=4611686018427387904 from ω)).IK a;refine ZC.go b n c ?_;have:=(Nq { S with Qd:=Zb S } a (Zb S)).1;rw[this];show Zb S<=e;omega
def ZC.put{S:Zj}(T:ZC S)(a)(x):ZC { S with M:=Zr S.M S.Qd a x } where
 I:=T.I.Zr T.V _ (by have:=T.cl;omega) _ _
 V:=T.V.Zr T.I _ (by have:=T.cl;omega) _ _
 K:=by show Xp (Zr S.M S.Qd a x).lk;rw[BV];exact T.K
 len:=λj y b=>by
  have b:y∈QW (Zr S.M S.Qd a x) j:=b;show 1<=y.len/\y.len<=(Zr S.M S.Qd a x).lk.ZJ;rw[BV];rw[IG]at b;split at b
  .rename_i h;rcases QX.1 b with h2|h2
   .exact T.len j y h2
   .simp only[Xq]at h2;subst h2;exact QaW h.1
  .exact T.len j y b
 mc:=by
  show (Zr S.M S.Qd a x).Qd<=S.Qd;have:=T.mc;rcases QBx S.M S.Qd a x with h|h<;>omega
 cl:=T.cl
 un:=T.un
 st:=T.st
 ca:=T.ca
def ZC.Jp{S:Zj}(T:ZC S)(d)(a)(e:a<18446744073709551616):ZC { S with st:=wh S.st d a }:=
 ⟨T.I,T.V,T.K,T.len,T.mc,T.cl,T.un,T.st,λk b c=>by
  have c:b∈(if k=d then S.st.Jp k++[a] else S.st.Jp k):=c;split at c
  .rcases QX.1 c with h|h
   .exact T.ca k b h
   .simp only[Xq]at h;omega
  .exact T.ca k b c⟩
def ZC.change{S:Zj}(T:ZC S)(b){l}(a:∀c∈l,JV.Ok c):ZC { S with M:=KO S.M b l } where
 I:=T.I.KO T.V b l a
 V:=T.V.KO T.I b l a
 K:=by show Xp (KO S.M b l).lk;rw[Rw];exact T.K
 len:=λj=>by
  show ∀x∈QW (KO S.M b l) j,1<=x.len/\x.len<=(KO S.M b l).lk.ZJ;rw[Rw];exact Qky (P:=λq=>∀x∈q,1<=x.len/\x.len<=S.M.lk.ZJ) (λx hx=>by cases hx) b l (T.len j)
 mc:=by show (KO S.M b l).Qd<=S.Qd;rw[QBy];exact T.mc
 cl:=T.cl
 un:=T.un
 st:=T.st
 ca:=T.ca
def ZC.one{S}(T:ZC S)(a){o:Je}(b:∀c∈o.changes,JV.Ok c):ZC (Wa S a o).S:=by
 unfold Wa;split
 .exact T.change _ b
 .split
  .split
   .exact⟨T.I,T.V,T.K,T.len,T.mc,T.cl,T.un,T.st,T.ca⟩
   .exact T
  .split
   .unfold qh;split
    .exact T
    .split
     .exact ZC.IK (S:={ S with M:=Zr S.M S.Qd (Kj S.R (ZZ o.ZG)) o.ZG,st:=wh S.st (Kj S.R (ZZ o.ZG)) S.Qd }) ((T.put _ _).Jp _ _ (by have:=T.cl;show S.Qd<_;omega)) a
     .exact T.put _ _
   .split
    .unfold zA;split
     .exact T
     .have:=T.cl;exact T.go ω _ ω
    .exact T
def ZC.ops{S}(T:ZC S)(n):ZC { S with ops:=n }:=⟨T.I,T.V,T.K,T.len,T.mc,T.cl,T.un,T.st,T.ca⟩
def ZC.do{S}(T:ZC S){o:Je}(a:∀c∈o.changes,JV.Ok c):ZC (Kb S o).S:=(T.ops _).one _ a
def QaX(a e):∀(n:Nat) (S:Zj),(Vf a e n S).1.ops=S.ops/\(Vf a e n S).1.Qd=e
 | 0,S=>⟨rfl,rfl⟩
 | n+1,S=>by
  unfold Vf;split
  .exact⟨rfl,rfl⟩
  .obtain⟨c,b⟩:=QaX a e n (ZB { S with Qd:=Zb S } a (Zb S)).1;exact⟨c.trans (Nq _ _ _).2.1,b⟩
def QBA(S:Zj)(a)(o:Je):(Wa S a o).S.ops=S.ops:=by
 unfold Wa;split
 .rfl
 .split
  .split<;>rfl
  .split
   .unfold qh;split
    .rfl
    .split
     .exact(Nq _ _ _).2.1
     .rfl
   .split
    .unfold zA;split
     .rfl
     .exact(QaX _ _ _ _).1
    .rfl
def Qkz(S:Zj)(o:Je):(Kb S o).S.ops=S.ops+1:=QBA _ _ _
def ahead(b:Int):Int->List Ev->Prop
 | _,[]=>True
 | a,v::l=>a<=v.at_/\v.at_<=b/\(v.Zy=true->v.done=0)/\(v.Zy=false->v.at_<v.done)/\ahead b v.at_ l
def ahead.lo{c a b}(h:b<=a):∀{l:List Ev},ahead c a l->ahead c b l
 | [],_=>trivial
 | _::_,⟨e,d⟩=>⟨ω,d⟩
def QkA{S:Zj}(T:ZC S)(a):(ZB S a S.Qd).2=[]\/∃v,(ZB S a S.Qd).2=[v]/\v.at_=S.Qd/\v.Zy=false/\v.at_<v.done:=by
 unfold ZB;split
 .exact .inl rfl
 .split
  .rename_i h;have b:=II T.K (T.take_len h);refine .inr ⟨_,rfl,rfl,rfl,?_⟩;show ((S.Qd:Nat):Int)<((S.Qd+VN S.M.lk (Jd S.M S.Qd).len:Nat):Int);omega
  .exact .inl rfl
def QBB{M}{a}(h:V9 M a=false):Ve (takeN M a)=Ve M:=by
 unfold takeN;unfold V9 at h;cases b:XE M a with
 | none=>
  show Ve (ZA M a)=Ve M;unfold ZA;split<;>rfl
 | some x=>rw[b]at h;cases h
def QkB{S:Zj}(T:ZC S)(c):S.Qd<Zb (ZB S c S.Qd).1:=by
 have e:=T.cl;have d:=T.un;unfold ZB;split
 .show S.Qd<Yq S.Qd S.ZR (Ve S.M);unfold Yq;omega
 .split
  .rename_i h;have g:=II T.K (T.take_len h);show S.Qd<Yq S.Qd (S.Qd+VN S.M.lk (Jd S.M S.Qd).len) _;unfold Yq;omega
  .rename_i h;have b:V9 S.M S.Qd=false:=by simpa using h
   have a:=Qku T.I T.V (now:=S.Qd) ω T.mc;rw[b]at a;have f:¬(Ve S.M<=S.Qd/\Ve S.M<9223372036854775808):=by simpa using a
   show S.Qd<Yq S.Qd S.ZR (Ve (takeN S.M S.Qd));rw[QBB b];unfold Yq;omega
def QkC{S}(T:ZC S)(a){e}(d:e<=4611686018427387904)(h:Zb S<=e):
  ZC (ZB { S with Qd:=Zb S } a (Zb S)).1/\Vy (ZB { S with Qd:=Zb S } a (Zb S)).1.M+1=Vy S.M/\S.Qd<=Zb S/\(ZB { S with Qd:=Zb S } a (Zb S)).1.Qd=Zb S:=by
 obtain⟨b,c,f⟩:=QBs T.I T.V (until_:=S.ZR) T.mc d h;have g:=(T.at_ (aK S T.cl) (show Zb S<=4611686018427387904 from ω));refine⟨g.IK a,?_,f,(Nq _ _ _).1⟩;have b:V9 S.M (Zb S)=true:=b;have c:S.ZR<=Zb S:=c;unfold ZB;rw[Qe (show ¬Zb S<S.ZR from ω)];show Vy (if V9 S.M (Zb S)=true then _ else _:Zj × List Ev).1.M+1=Vy S.M;rw[Qf b];exact QBr T.I T.V b
def QkD{op e}(i:e<=4611686018427387904):∀(n:Nat) {S:Zj},ZC S->S.Qd<=e->Vy S.M<n->e<Zb (Vf op e n S).1/\ahead e S.Qd (Vf op e n S).2
 | 0,S,T,h,f=>absurd f (Xc _)
 | n+1,S,T,h,f=>by
  unfold Vf;split
  .rename_i b;refine⟨?_,trivial⟩;unfold Zb Yq at b ⊢;dsimp only;omega
  .rename_i b;have b:Zb S<=e:=ω;dsimp only;obtain⟨o,q,c2,j⟩:=QkC T op i b;obtain⟨k,c⟩:=QkD i n o (by rw[j];exact b) ω;refine⟨k,?_⟩;rw[j]at c;have p:=(T.at_ (aK S T.cl) (show Zb S<=4611686018427387904 from ω));rcases QkA p op with a|⟨v,a,d,m,l⟩
   .have a:(ZB { S with Qd:=Zb S } op (Zb S)).2=[]:=a;rw[a,Yr];exact c.lo ω
   .have a:(ZB { S with Qd:=Zb S } op (Zb S)).2=[v]:=a;have d:v.at_=((Zb S:Nat):Int):=d;rw[a,YG,Yr];refine⟨ω,ω,λg=>(by rw[m]at g;cases g),λ_=>l,?_⟩;show ahead e v.at_ _;rw[d];exact c
def QkE(M)(a):Ve (ZA M a)=Ve M:=by
 unfold ZA;split<;>rfl
def QBC{M}{a}{b}{x}(h:¬Yp M a b x=0):Ve (Zr M a b x)=Ve M:=by
 unfold Yp at h;unfold Zr;split
 .rename_i c;rw[Qf c]at h;unfold Vx;split
  .exact QkE M a
  .exact QkE M a
 .rfl
structure QaY (S:Zj) (D:Ry):Prop where
 next:D.S.Qd<Zb D.S
 Qd:S.Qd<=D.S.Qd
 ev:ahead D.S.Qd S.Qd D.l
def QBD{S:Zj}(T:ZC S)(f:S.Qd<Zb S)(b){o:Je}(m:∀c∈o.changes,JV.Ok c):QaY S (Wa S b o):=by
 have a:∀r,QaY S ⟨S,r,[]⟩:=λr=>⟨f,Qs _,trivial⟩;unfold Wa;split
 .refine⟨?_,Qs _,trivial⟩;show S.Qd<Yq S.Qd S.ZR (Ve (KO S.M _ _));rw[QBt T.I m];exact f
 .split
  .split
   .exact⟨f,Qs _,trivial⟩
   .exact a _
  .split
   .unfold qh;split
    .exact a _
    .split
     .have l:=(T.put (Kj S.R (ZZ o.ZG)) o.ZG).Jp (Kj S.R (ZZ o.ZG)) S.Qd (by have:=T.cl;omega);have j:=QkB l b;have d:=(Nq { S with M:=Zr S.M S.Qd (Kj S.R (ZZ o.ZG)) o.ZG,st:=wh S.st (Kj S.R (ZZ o.ZG)) S.Qd } b S.Qd).1;refine⟨?_,?_,?_⟩
      .dsimp only;rw[d];exact j
      .dsimp only;rw[d];exact Qs _
      .dsimp only;rw[d];refine⟨qR _,qR _,λ_=>rfl,λh=>(by cases h),?_⟩;rcases QkA l b with g|⟨v,g,k,q,p⟩
       .rw[show (ZB _ b S.Qd).2=[] from g];trivial
       .rw[show (ZB _ b S.Qd).2=[v] from g];have k:v.at_=((S.Qd:Nat):Int):=k;exact⟨by show (S.Qd:Int)<=_;omega,by show _<=(S.Qd:Int);omega,λi=>(by rw[q]at i;cases i),λ_=>p,trivial⟩
     .rename_i j n;refine⟨?_,Qs _,trivial⟩;show S.Qd<Yq S.Qd S.ZR (Ve (Zr S.M S.Qd _ _));rw[QBC n];exact f
   .split
    .unfold zA;split
     .exact a _
     .have s:=T.cl;have:=QkD (op:=b) (e:=S.Qd+o.Wn.toNat) ω (Vy S.M+1) T ω ω;have d:=(QaX b (S.Qd+o.Wn.toNat) (Vy S.M+1) S).2;refine⟨?_,?_,?_⟩
      .dsimp only;rw[d];exact this.1
      .dsimp only;rw[d];omega
      .dsimp only;rw[d];exact this.2
    .exact a _
def QkF{S:Zj}(T:ZC S)(a:S.Qd<Zb S){o:Je}(b:∀c∈o.changes,JV.Ok c):QaY S (Kb S o):=by
 have:=QBD (T.ops (S.ops+1)) a S.ops b;exact⟨this.next,this.Qd,this.ev⟩
def zB(r:Ke):Bool:=r.Bo==65535&&(r.Bp==65535&&(r.FN==65535&&r.DW==65535))
def aL(n:Int):Prop:=0<=n/\n<65536
def mw{a}(h:aL a):xv a 65535=a:=by
 obtain⟨n,rfl⟩:∃n:Nat,a=n:=⟨a.toNat,by have:=h.1;omega⟩;have c:n<65536:=by have:=h.2;omega
 have b:(BitVec.ofInt 16 (n:Int)).toNat=n:=by
  rw[BitVec.ofInt_natCast,BitVec.toNat_ofNat];exact jq ω
 show IntKind.u16.wrap ((BitVec.ofInt 16 (n:Int) &&& BitVec.ofInt 16 65535).toNat:Int)=_;rw[BitVec.toNat_and,b,show (BitVec.ofInt 16 65535).toNat=2 ^ 16 - 1 from rfl,Nat.and_two_pow_sub_one_eq_mod];rw[show IntKind.u16.wrap ((n % 2 ^ 16:Nat):Int)=((n % 2 ^ 16:Nat):Int) % 65536 by simp[IntKind.wrap,IntKind.bits,IntKind.signed]];omega
def JX(R:List Ke)(i:Nat):Ke:=R.getD i default
def QaZ(p:Ke->Bool):∀(R:List Ke) (i:Nat),i<R.length->p (JX R i)=true->(∀j,j<i->p (JX R j)=false)->R.find? p=some (JX R i)
 | [],i,b,_,_=>by simp at b
 | r::R,0,b,a,_=>by
  have a:p r=true:=a;rw[vg,a];rfl
 | r::R,i+1,b,a,c=>by
  have d:p r=false:=c 0 ω;rw[vg,d];exact QaZ p R i (by simpa using b) a λj e=>c (j+1) ω
def QkG(p:Ke->Bool):∀(R:List Ke),(∀j,j<R.length->p (JX R j)=false)->R.find? p=none
 | [],_=>rfl
 | r::R,a=>by
  have c:p r=false:=a 0 σ;rw[vg,c];exact QkG p R λj b=>a (j+1) (by simpa using b)
structure qi (R:List Ke) (n:Nat) (es:List XX) (ms:List Nat):Prop where
 yes:∀k d,Xt es k=some d->∃i:Nat,d=Qb i/\i<n/\zB (JX R i)=true/\(JX R i).want=k/\∀j,j<i->¬(zB (JX R j)=true/\(JX R j).want=k)
 no:∀k,Xt es k=none->∀j,j<n->¬(zB (JX R j)=true/\(JX R j).want=k)
 mem:∀j,j∈ms↔j<n/\zB (JX R j)=false
 inc:ms.Pairwise (·<·)
 four:∀e∈es,e.k.length=4
def qi.nil(R:List Ke):qi R 0 [] []:=⟨λk d h=>(by cases h),λk h j a=>absurd a (Xc j),λj=>σ,.nil,λe h=>(by cases h)⟩
def Qa0:∀(a:List XX) (e:XX) (k:List Int),Xt (a++[e]) k=match Xt a k with
  | some d=>some d
  | none=>if e.k=k then some e.v else none
 | [],e,k=>by simp[Xt]
 | x::a,e,k=>by
  simp only[YG,Xt];split
  .rfl
  .exact Qa0 a e k
def qi.mask{R}{n}{l}{g}(T:qi R n l g)(h:zB (JX R n)=false):qi R (n+1) l (g++[n]) where
 yes:=λk d p=>by
  obtain⟨i,c,e,f⟩:=T.yes k d p;exact⟨i,c,ω,f⟩
 no:=λk m j o=>by
  rcases AR.1 o with c|rfl
  .exact T.no k m j c
  .exact λe=>by rw[h]at e;cases e.1
 mem:=λj=>by
  rw[QX,T.mem j,Xq];constructor
  .rintro (c|rfl)
   .exact⟨ω,c.2⟩
   .exact⟨ω,h⟩
  .rintro⟨c,e⟩;rcases AR.1 c with f|rfl
   .exact .inl ⟨f,e⟩
   .exact .inr rfl
 inc:=by
  rw[bM];exact⟨T.inc,List.pairwise_singleton _ _,λa r b q=>by
   simp only[Xq]at q;have:=((T.mem a).1 r).1;omega⟩
 four:=T.four
def qi.QkH{R}{n}{e}{b}(T:qi R n e b)(h:zB (JX R n)=true):∀j,j∈b↔j<n+1/\zB (JX R j)=false:=λj=>by
 rw[T.mem j];constructor
 .rintro⟨c,a⟩;exact⟨ω,a⟩
 .rintro⟨c,a⟩;rcases AR.1 c with d|rfl
  .exact⟨d,a⟩
  .rw[h]at a;cases a
def qi.there{R}{n:Nat}{e}{f}(T:qi R n e f)(h:zB (JX R n)=true)(b:(Xt e (JX R n).want).isSome=true):qi R (n+1) e f where
 yes:=λk d m=>by
  obtain⟨i,c,b,a⟩:=T.yes k d m;exact⟨i,c,ω,a⟩
 no:=λk g j l=>by
  rcases AR.1 l with c|rfl
  .exact T.no k g j c
  .exact λa=>by rw[a.2,g]at b;cases b
 mem:=T.QkH h
 inc:=T.inc
 four:=T.four
def qi.new{R}{n:Nat}{f}{o}(T:qi R n f o)(h:zB (JX R n)=true)(q:Xt f (JX R n).want=none)(c):qi R (n+1) (f++[⟨(JX R n).want,Qb n,c⟩]) o where
 yes:=λk d b=>by
  rw[Qa0]at b;cases a:Xt f k with
  | some d2=>
   rw[a]at b;cases b;obtain⟨i,h1,q,l⟩:=T.yes k d a;exact⟨i,h1,ω,l⟩
  | none=>
   rw[a]at b;dsimp only at b;split at b
   .rename_i e;cases b;exact⟨n,rfl,ω,h,e,λj g=>T.no k a j g⟩
   .cases b
 no:=λk a j g=>by
  rw[Qa0]at a;cases m:Xt f k with
  | some d2=>rw[m]at a;cases a
  | none=>
   rw[m]at a;dsimp only at a;split at a
   .cases a
   .rename_i e;rcases AR.1 g with h1|rfl
    .exact T.no k m j h1
    .exact λl=>e l.2
 mem:=(T.QkH h)
 inc:=T.inc
 four:=λe p=>by
  rcases QX.1 p with h1|h1
  .exact T.four e h1
  .simp only[Xq]at h1;subst h1;rfl
def aM(x:Pk):Prop:=aL x.xZ/\aL x.x5/\aL x.x6/\aL x.x7
def mz{r:Ke}{x}(a:aM x)(h:zB r=true):jg r (ZZ x)=(r.want==ZZ x):=by
 unfold zB at h;simp only[ZX,jr]at h;obtain⟨e,d,c,b⟩:=h;unfold jg aJ ZZ Ke.mask;rw[e,d,c,b];simp only[List.zipWith_cons_cons,List.zipWith_nil_right,mw a.1,mw a.2.1,mw a.2.2.1,mw a.2.2.2];rw[wx];simp only[jr];exact eq_comm
section
variable {R:List Ke}{es:List XX}{ms:List Nat}(T:qi R R.length es ms){x:Pk}(hx:aM x)
include T hx
theorem qi.XW{i}(h:i<R.length)(n:zB (JX R i)=false)(f:jg (JX R i) (ZZ x)=true)(m:∀j∈ms,j<i->jg (JX R j) (ZZ x)=false)
  (l:∀a:Nat,Xt es (ZZ x)=some (Qb a)->¬a<i):R.find? (λr=>jg r (ZZ x))=some (JX R i):=
 QaZ _ R i h f λj g=>by
  cases b:zB (JX R j) with
  | false=>exact m j ((T.mem j).2 ⟨ω,b⟩) g
  | true=>
   rw[mz hx b,j5];intro e;cases c:Xt es (ZZ x) with
   | none=>exact T.no _ c j ω ⟨b,e⟩
   | some d=>
    obtain⟨a,rfl,q,p,o,k⟩:=T.yes _ _ c;have:=l a c;exact k j ω ⟨b,e⟩
theorem qi.whole{a:Nat}(f:Xt es (ZZ x)=some (Qb a))(l:∀j∈ms,j<a->jg (JX R j) (ZZ x)=false):a<R.length/\R.find? (λr=>jg r (ZZ x))=some (JX R a):=by
 obtain⟨i,e,d,k,h,g⟩:=T.yes _ _ f;have e:a=i:=by
  unfold Qb at e;simp only[D.raw.injEq,Value.int.injEq,AT]at e;omega
 subst e;refine⟨d,QaZ _ R a d (by rw[mz hx k,h];simp) λj c=>?_⟩;cases b:zB (JX R j) with
 | false=>exact l j ((T.mem j).2 ⟨ω,b⟩) c
 | true=>
  rw[mz hx b,j5];exact λe=>g j c ⟨b,e⟩
theorem qi.none(c:Xt es (ZZ x)=Option.none)(d:∀j∈ms,jg (JX R j) (ZZ x)=false):R.find? (λr=>jg r (ZZ x))=Option.none:=
 QkG _ R λj b=>by
  cases a:zB (JX R j) with
  | false=>exact d j ((T.mem j).2 ⟨b,a⟩)
  | true=>
   rw[mz hx a,j5];exact λe=>T.no _ c j b ⟨a,e⟩
end
end Go.Fg.X
