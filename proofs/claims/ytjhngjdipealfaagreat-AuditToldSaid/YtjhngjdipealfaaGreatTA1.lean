/- Contracts and laws on the way to the statement. No conditions. -/
import Derived.Test.YtjhngjdipealfaaGreatSC7
import Derived.Test.YtjhngjdipealfaaGreatFgHx
import Derived.Test.YtjhngjdipealfaaGreatFgFork
set_option maxRecDepth 100000
set_option maxHeartbeats 16000000
set_option linter.unusedVariables false
set_option linter.unusedSimpArgs false
set_option linter.unusedSectionVars false
set_option linter.defProp false
namespace Go.Fg.X
open Go.Proofs Go.Fg
open Go.Proofs.Tryz
def QxA{S}{h}{p}{T}{A}(O:qM S h p T A)(leaf)(c:Qn)(hc:Qy T leaf=some c)(qg:¬ 1<QZ c.ls):
  MFn prog 231 h [.ptr p 0 0 0,Qb leaf] (λd h'=>d=.tup [.nil,Qb 6]/\h'=h):=by
 obtain⟨b1,b2,b3,c1,c2,c3,Zw,ZQ,Ke,kl,O⟩:=O;have ho:=O.o;have m1:=O.m1;have k1:=O.f1.at_ leaf;rw[kb,hc]at k1;simp only[Qd qg]at k1;refine QU Qh 200 func231 rfl ntmps231 results231 rfl λbase w pl hb=>?_;have Qe:=Qc ho;have kf:=Qc m1;simp only[go_sem,Qa,ho,Qe,m1,kf,k1,Go.undef]
def yl:Sh:=⟨false,⟨⟨0,0,0⟩,⟨0,0,0⟩,false⟩,0⟩
def Qg1:yl.Ok:=⟨⟨Ln.jz,Ln.jz⟩,by decide⟩
def Xz(M:Qk)(c:Int):Qk:={ M with N:=VG M.N c λn=>{ n with sh:=yl } }
def VP(M:Qk)(j:Int):Qk:={ M with KT:=λi=>if i=(QE M j).c.parent then KF j (M.KT (QE M j).c.parent) else M.KT i }
def Jx(M:Qk)(j:Int):Qk:=
 if KF j (M.KT (QE M j).c.parent)=[] then (Wh M.T (QE M j).c.parent).foldl Xz (VP M j) else VP M j
def WZ(M:Qk)(id:Int):Qk:=
 if 1<QZ (QE M id).c.ls then (WL M.T (JP M.A id) id).foldl Jx { M with A:=JP M.A id } else M
def Qx.Xz{M}(I:Qx M)(c):Qx (Xz M c):=I.VG c (λn=>{ n with sh:=yl }) λ_=>rfl
def ba:∀(l:List Int) (M:Qk),(l.foldl Xz M).T=M.T/\(l.foldl Xz M).A=M.A/\(l.foldl Xz M).KT=M.KT/\(l.foldl Xz M).lk=M.lk/\(l.foldl Xz M).Ql=M.Ql/\(l.foldl Xz M).acc=M.acc/\(l.foldl Xz M).Lv=M.Lv
 | [],M=>⟨rfl,rfl,rfl,rfl,rfl,rfl,rfl⟩
 | j::l,M=>ba l (Xz M j)
def Qx.ni:∀(l:List Int) {M:Qk},Qx M->Qx (l.foldl X.Xz M)
 | [],M,I=>I
 | j::l,M,I=>Qx.ni l (I.Xz j)
def Qx.VP{M}(I:Qx M)(j):Qx (VP M j):=by
 refine⟨I.tree,I.yi,I.to,I.nodes,I.Yf,I.ks,I.yj,λi x hx=>?_,λi x hx=>?_,I.Ql,I.acc⟩
 ·unfold X.VP at hx;dsimp only at hx;split at hx
  ·rename_i hj;subst hj;exact I.jD _ x (JE.1 hx).1
  ·exact I.jD _ x hx
 ·unfold X.VP at hx;dsimp only at hx;split at hx
  ·exact I.kp _ x (JE.1 hx).1
  ·exact I.kp _ x hx
def Qx.Jx{M}(I:Qx M)(j):Qx (Jx M j):=by
 unfold X.Jx;split
 ·exact Qx.ni _ (I.VP j)
 ·exact I.VP j
def Qx.Rb:∀(l:List Int) {M:Qk},Qx M->Qx (l.foldl X.Jx M)
 | [],M,I=>I
 | j::l,M,I=>Qx.Rb l (I.Jx j)
def Qg2(M:Qk)(j:Int):(Jx M j).T=M.T/\(Jx M j).A=M.A/\(Jx M j).lk=M.lk/\(Jx M j).Ql=M.Ql/\(Jx M j).acc=M.acc/\(Jx M j).Lv=M.Lv:=by
 unfold Jx;split
 ·obtain⟨a1,a2,a3,a4,a5,a6,a7⟩:=ba (Wh M.T (QE M j).c.parent) (VP M j);exact⟨a1,a2,a4,a5,a6,a7⟩
 ·exact⟨rfl,rfl,rfl,rfl,rfl,rfl⟩
def FJ:∀(l:List Int) (M:Qk),(l.foldl Jx M).T=M.T/\(l.foldl Jx M).A=M.A/\(l.foldl Jx M).lk=M.lk/\(l.foldl Jx M).Ql=M.Ql/\(l.foldl Jx M).acc=M.acc/\(l.foldl Jx M).Lv=M.Lv
 | [],M=>⟨rfl,rfl,rfl,rfl,rfl,rfl⟩
 | j::l,M=>by
  obtain⟨a1,a2,a3,a4,a5,a6⟩:=FJ l (Jx M j);obtain⟨b1,b2,b3,b4,b5,b6⟩:=Qg2 M j;exact⟨a1.trans b1,a2.trans b2,a3.trans b3,a4.trans b4,a5.trans b5,a6.trans b6⟩
def Qx.WZ{M}(I:Qx M)(id):Qx (WZ M id):=by
 unfold X.WZ;split
 ·exact Qx.Rb _ (I.act (I.Yf.off id))
 ·exact I
structure MJ (own:Nat->Tag) (h:List Ob) (p:Nat) (L:Loc) (M:Qk) (lo g:Nat) (row:Nat->List D) (U:List Int) (k:Nat) (s:St):Prop where
 ex:∃own' H,Zs own' H p L ((U.take k).foldl Jx M)/\Zn own h own' H/\own' lo=.on/\H[lo]? = some ⟨.arr,g,1,U.length,row⟩ /\
  s=⟨[(0,.ptr p 0 0 0),(22,.ref lo g 0 U.length),(23,Qb U.length),(24,Qb k)],H⟩
def MJ.of{own}{h}{p}{L}{M}{lo g}{row}{U:List Int}{k:Nat}{own'}{H:List Ob}(C:Zs own' H p L ((U.take k).foldl Jx M))(D:Zn own h own' H)(h1:own' lo=.on)(h2:H[lo]? = some ⟨.arr,g,1,U.length,row⟩):
  MJ own h p L M lo g row U k ⟨[(0,.ptr p 0 0 0),(22,.ref lo g 0 U.length),(23,Qb U.length),(24,Qb k)],H⟩:=⟨⟨own',H,C,D,h1,h2,rfl⟩⟩
structure Rc (own:Nat->Tag) (h:List Ob) (p:Nat) (L:Loc) (M:Qk) (lo g:Nat) (row:Nat->List D) (U V:List Int) (k:Nat) (i:Nat) (s:St):Prop where
 ex:∃own' H,Zs own' H p L ((V.take i).foldl Xz M)/\Zn own h own' H/\own' lo=.on/\H[lo]? = some ⟨.arr,g,1,U.length,row⟩ /\
  s=⟨[(0,.ptr p 0 0 0),(22,.ref lo g 0 U.length),(23,Qb U.length),(24,Qb k),(59,ints V),(60,Qb V.length),(61,Qb i)],H⟩
def Rc.of{own}{h}{p}{L}{M}{lo g}{row}{U V:List Int}{k i:Nat}{own'}{H:List Ob}(C:Zs own' H p L ((V.take i).foldl Xz M))(D:Zn own h own' H)(h1:own' lo=.on)(h2:H[lo]? = some ⟨.arr,g,1,U.length,row⟩):
  Rc own h p L M lo g row U V k i ⟨[(0,.ptr p 0 0 0),(22,.ref lo g 0 U.length),(23,Qb U.length),(24,Qb k),(59,ints V),(60,Qb V.length),(61,Qb i)],H⟩:=⟨⟨own',H,C,D,h1,h2,rfl⟩⟩
def QxB{own}{h}{p}{L}{M:Qk}(C:Zs own h p L M)(I:Qx M){id}{n:Nd}(hn:Qm M.N id=some n)(hl:n.c.leaf=true)(XI:1<QZ n.c.ls->id∈M.A)(Jw:Z4 M.T (JP M.A id) id=false):
  MFn prog 178 h [.ptr p 0 0 0,Qb id] (λd h'=>∃own',Zs own' h' p L (WZ M id)/\Qx (WZ M id)/\Zn own h own' h'):=by
 have ho:=C.ob;have Z2:QE M id=n:=by unfold QE;rw[hn];rfl
 have V8:Qy M.T id=some n.c:=I.some hn;have hO:=C.YI;have hlen:=I.tree.len;rw[I.to]at hO;by_cases hs:1<QZ n.c.ls;case neg=>
  have hM:WZ M id=M:=by unfold WZ;rw[Z2,Qd hs]
  refine QU Qh 200 func178 rfl ntmps178 results178 rfl λbase w pl hb=>?_;have Qe:=Qc ho;simp only[go_sem,Qa,ho,Qe];refine Jl hb QdZ (QxA hO id n.c V8 hs) λd h9 hR=>?_;obtain⟨rfl,rfl⟩:=hR;apply Q1 hb;rw[hM];exact⟨own,C,I,Zn.refl own h9⟩
 have hM:WZ M id=(WL M.T (JP M.A id) id).foldl Jx { M with A:=JP M.A id }:=by unfold WZ;rw[Z2,Qg hs]
 have I9:Qx { M with A:=JP M.A id }:=I.act (I.Yf.off id);have nj:=Qx.Rb (WL M.T (JP M.A id) id) I9;rw[hM];refine QU Qh 200 func178 rfl ntmps178 results178 rfl λbase w pl hb=>?_;have Qe:=Qc ho;simp only[go_sem,Qa,ho,Qe];refine Jl hb QdZ (Que hO I.tree I.Yf id n.c V8 hl hs (XI hs) Jw) λd h9 hR=>?_;obtain⟨d1,rfl,Ac,O9,s9⟩:=hR;rw[<- I.to]at O9;have C9:=C.act O9 s9;have D9:=Zn.of (own:=own) (t:=.on) (by simp) s9;obtain⟨U,hU⟩:∃U,U=WL M.T (JP M.A id) id:=⟨_,rfl⟩;rw[<- hU]at Ac nj ⊢;have aV:U.length<=16:=by
  rw[hU];exact Kz (Ss _).length_le Ar
 have m9:∀j∈U,j∈up M.T id:=λj hj=>by rw[hU]at hj;exact(Ss _).subset hj
 obtain⟨M9,P7⟩:∃M9,M9={ M with A:=JP M.A id }:=⟨_,rfl⟩;have aX:M9.T=M.T:=by rw[P7]
 rw[<- P7]at C9 I9 nj ⊢;rcases Ac with ⟨rfl,P8⟩|⟨lo,g,off,row,rfl,⟨ZE,rfl⟩,HP,Zx⟩
 ·exfalso;rw[hU,WL,K8 I.tree V8,Sr,Jw]at P8;cases P8
 have Qxy:=Qc HP;rw[JG]at HP;apply Q1 hb;refine ZZ (MJ own h p L M9 lo g row U) U.length QO (MJ.of (k:=0) C9 D9 (by unfold QS;rw[Qg ZE]) HP) ?_;rintro k _ hk ⟨own',H,Ck,Dk,CN,JR,rfl⟩;have P9:=Qc JR;by_cases Qs:k<U.length;case neg=>
  have ZW:k=U.length:=by omega
  have dk:=QQ Qs;rw[ZW,zW]at Ck;refine Qf hb ?_;simp only[go_sem,Qa,dk];exact⟨own',Ck,nj,Dk⟩
 have dk:=Q7 Qs;obtain⟨j,hj⟩:∃j,j=U.getD k 0:=⟨_,rfl⟩;have DJ:j∈up M.T id:=m9 j (by rw[hj];exact jq U 0 k Qs);have Ra:row k=[Qb j]:=by have:=Zx k Qs;rw[JG]at this;rw[this,hj]
 have Z1:(U.take (k+1)).foldl Jx M9=Jx ((U.take k).foldl Jx M9) j:=by
  rw[getD_take U 0 k Qs,Gf,<- hj];rfl
 have Ik:=Qx.Rb (U.take k) I9;have HQ:=(FJ (U.take k) M9).1;obtain⟨Mk,DH⟩:∃Mk,Mk=(U.take k).foldl Jx M9:=⟨_,rfl⟩;rw[<- DH]at Ck Ik HQ Z1;obtain⟨y,hy⟩:∃y,Qm Mk.N j=some y:=by
  have XE:=Fj DJ;rw[<- aX,<- HQ,Ik.find]at XE;cases hq:Qm Mk.N j with
  | none=>rw[hq]at XE;cases XE
  | some y=>exact⟨y,rfl⟩
 have PL:QE Mk j=y:=by unfold QE;rw[hy];rfl
 have ql:=Ck.look hy;have WC:=Ck.ob;have qS:=Qc WC;have YK:=Ck.Vf;have AR:=Qc YK;have vJ:=(Ck.Jd j y hy).1;have ku:=Qc vJ;have CV:=Ck.Vx;have UP:=Qc CV;have zK:=mU Ik hy;have qQ:=Ck.Xm.at_ y.c.parent;rw[Qg zK]at qQ;have zL:=Ck.kids _ zK;have Zq:=Vp (show k<4611686018427387904 by omega);have Ha:=P3 Ik.tree zL.nd (Ik.mS _);refine Qf hb ?_;simp only[go_sem,Qa,dk,Qs,Ra,WC,qS,YK,AR,JR,P9,ql,vJ,ku,CV,UP,qQ];refine Jl hb Qse (Qus zL j (by omega)) λd YW hR=>?_;obtain⟨rfl,T10,ns⟩:=hR;have wQ:=Ck.Xk _ zK T10 ns;have FI:=Dk.trans (Zn.of (t:=.Xk y.c.parent) (by simp) ns);have Jc:{ Mk with KT:=λi=>if i=y.c.parent then KF j (Mk.KT y.c.parent) else Mk.KT i }=VP Mk j:=by unfold VP;rw[PL]
 rw[Jc]at wQ;have aZ:=Ik.VP j;have aY:QS own' H (.Xk y.c.parent) lo=.on:=by rw[JY P9];exact CN
 have Qg4:YW[lo]? = some ⟨.arr,g,1,U.length,row⟩:=(ns.keep lo P9 (by rw[CN];simp)).trans JR;have Re:Jx Mk j=if KF j (Mk.KT y.c.parent)=[] then (Wh Mk.T y.c.parent).foldl Xz (VP Mk j) else VP Mk j:=by unfold Jx;rw[PL]
 have FK:=wQ.ob;have MK:=Qc FK;have hm4:=wQ.Vx;have QxC:=Qc hm4;have Qg6:=wQ.Xm.at_ y.c.parent;rw[Qg (show (VP Mk j).ks y.c.parent=true from zK)]at Qg6;have FL:Dp YW (L.lk y.c.parent) (KF j (Mk.KT y.c.parent)):=T10.toR;refine Qf hb ?_;simp only[go_sem,Qa,FK,MK,hm4,QxC,Qg6];refine JJ hb fM (iT FL) λd hR=>?_;subst hR;refine Qf hb ?_;simp only[go_sem,Qa,FK,MK];by_cases hz:KF j (Mk.KT y.c.parent)=[];case neg=>
  have yR:0<(KF j (Mk.KT y.c.parent)).length:=QkI.2 hz;have dz:decide ((0:Int)<((KF j (Mk.KT y.c.parent)).length:Int))=true:=Q7 (by omega);rw[Qd hz]at Re;simp only[go_sem,Qa,dz];exact⟨Qs,_,QI.frame (by simp only[go_sem,Zq]),MJ.of (by rw[Z1,Re];exact wQ) FI aY Qg4⟩
 rw[Qg hz]at Re;have dz:decide ((0:Int)<((KF j (Mk.KT y.c.parent)).length:Int))=false:=QQ (by rw[hz];simp);simp only[go_sem,Qa,dz,FK,MK];refine JJ hb fR (Qt9 wQ.tr.toR (by have:=aZ.tree.len;omega) y.c.parent) λd hR=>?_;subst hR;refine Qf hb ?_;simp only[go_sem,Qa,FK,MK];obtain⟨V,hV⟩:∃V,V=Wh Mk.T y.c.parent:=⟨_,rfl⟩;have hVl:V.length<=64:=by
  rw[hV];unfold Wh;rw[J6];exact Kz (Yo _ _) Ik.tree.len
 have hVm:∀c∈V,(Qy Mk.T c).isSome=true:=λc hc=>by
  rw[hV]at hc;obtain⟨x,hx,rfl⟩:=Jn.1 hc;rw[(Wy Ik.tree.rising).2 ⟨(JE.1 hx).1,rfl⟩];rfl
 rw[show Wh (VP Mk j).T y.c.parent=V from hV.symm];rw[<- hV]at Re;refine ZZ (Rc own h p L (VP Mk j) lo g row U V k) V.length QO (Rc.of (i:=0) wQ FI aY Qg4) ?_;rintro i _ hi ⟨wS,H5,C5,D5,DK,Qg7,rfl⟩;by_cases xw:i<V.length;case neg=>
  have Ys:i=V.length:=by omega
  have di:=QQ xw;rw[Ys,zW]at C5;refine Qf hb ?_;simp only[go_sem,Qa,di];apply Q1 hb;exact⟨Qs,_,QI.frame (by simp only[go_sem,Zq]),MJ.of (by rw[Z1,Re];exact C5) D5 DK Qg7⟩
 have di:=Q7 xw;have hwi:=Vp (show i<4611686018427387904 by omega);obtain⟨c,hc⟩:∃c,c=V.getD i 0:=⟨_,rfl⟩;have hcV:c∈V:=by rw[hc];exact jq V 0 i xw
 have Qg8:(V.take (i+1)).foldl Xz (VP Mk j)=Xz ((V.take i).foldl Xz (VP Mk j)) c:=by
  rw[getD_take V 0 i xw,Gf,<- hc];rfl
 have I5:=Qx.ni (V.take i) aZ;have kT5:=(ba (V.take i) (VP Mk j)).1;obtain⟨M5,ML⟩:∃M5,M5=(V.take i).foldl Xz (VP Mk j):=⟨_,rfl⟩;rw[<- ML]at C5 I5 kT5 Qg8;obtain⟨x,hx⟩:∃x,Qm M5.N c=some x:=by
  have XE:=hVm c hcV;rw[show Mk.T=M5.T from kT5.symm,I5.find]at XE;cases hq:Qm M5.N c with
  | none=>rw[hq]at XE;cases XE
  | some x=>exact⟨x,rfl⟩
 have wP:=C5.Ye c x hx;have bc:=C5.look hx;have BV:=C5.ob;have MM:=Qc BV;have BS:=C5.Vf;have be:=Qc BS;have HS:=(C5.Jd c x hx).1;have AS:=Qc HS;have QB:L.le c≠lo:=λe=>by have h1:=(C5.Jd c x hx).2;rw[e,DK]at h1;cases h1
 refine Qf hb ?_;simp only[go_sem,Qa,di,xw,<- hc,BV,MM,BS,be,bc,HS,AS];have C6:=C5.vk hx (λn=>{ n with sh:=yl }) (λ_=>rfl) (λ_=>rfl) ⟨wP.Jb,wP.du,Qg1,wP.cp,wP.c⟩;have D6:=Zn.set (own:=wS) (h:=H5) (XS (qD L.lq x) { x with sh:=yl }) (l:=L.le c) (by rw[(C5.Jd c x hx).2];simp);have Bn:(⟨.one,0,60,1,λ_=>List.take 38 (Kg (qD L.lq x) x)++.raw (.bool false)::.raw (.int .u64 0)::.raw (.int .u64 0)::.raw (.int .u64 0)::.raw (.int .u64 0)::.raw (.int .u64 0)::.raw (.int .u64 0)::.raw (.int .u64 0)::.raw (.int .u64 0)::.raw (.bool false)::.raw (.int .u64 0)::List.drop 49 (Kg (qD L.lq x) x)⟩:Ob)=XS (qD L.lq x) { x with sh:=yl }:=by
  unfold XS;rw[<- Qxo (qD L.lq x) x yl];rfl
 rw[Bn];refine⟨_,QI.frame (by simp only[go_sem,hwi]),Rc.of (by rw[Qg8];exact C6) (D5.trans D6) DK (by rw[Qi QB];exact Qg7)⟩
def firstM(M:Qk)(now:Nat)(id:Int):Option It:=(M.KT id).find? λx=>decide (x.va<=min now 9223372036854775807)
def ym(M:Qk)(now:Nat):Nat->Int->Option Int
 | 0,_=>none
 | n+1,id=>match firstM M now id with
  | none=>none
  | some x=>if (QE M x.ki).c.leaf=true then some x.ki else ym M now n x.ki
def Qha(o:Option Int):D:=.tup [Qb (o.getD 0),QY false,QY o.isSome]
def vK(M:Qk)(now:Nat)(o:Option It):Prop:=wz o (M.Lv.filter λx=>decide (x.ka<=min now 9223372036854775807))
def MN(M:Qk)(now:Nat)(o:Option It):D:=match o with
 | some x=>.tup [Qb x.ki,QY true,QY true]
 | none=>Qha (ym M now 17 0)
section
variable {own:Nat->Tag}{h:List Ob}{p:Nat}{L:Loc}{M:Qk}(C:Zs own h p L M)(I:Qx M)
include C I
theorem QxG(now):Zg prog 173 h [.ptr p 0 0 0,u64 now] (λd=>∃o,vK M now o/\d=MN M now o):=by
 have ho:=ZM C.ob;have hm:=ZM C.Vx;have Zo:=ZM C.Vf;have hv:=C.Xl.toR;refine Zt Qh 200 func173 rfl ntmps173 results173 rfl λbase w pl F hF Za hb=>?_;rw[<- hF]at ho hm Zo;have Qe:=Qc ho;have QK:=Qc hm;have wv:=Qc Zo;simp only[go_sem,Qa,ho,Qe,hm,QK,Zo,wv];refine JJ hb Qr9 (Qut (hv.more (KM hF)) now) λd hR=>?_;obtain⟨o,nu,rfl⟩:=hR;refine Qf hb ?_;simp only[go_sem,Qa,ho,Qe];cases o with
 | some x=>
  simp only[go_sem,Qa,jP,KS];exact⟨[],(Zd F).symm,some x,nu,rfl⟩
 | none=>
  simp only[go_sem,Qa,kP];have QFq:(up M.T 0).length=0:=by rw[Hb I.tree];rfl
  refine IZ (λn st=>∃id,M.ks id=true/\(up M.T id).length+n=16/\ym M now 17 0=ym M now (n+1) id/\st=⟨[(0,.ptr p 0 0 0),(1,u64 now),(9,Qb id)],F⟩) 16 QO ⟨0,(I.ks 0).2 (.inl rfl),by omega,rfl,rfl⟩ ?_;rintro n _ ⟨id,zK,hlen,yn,rfl⟩;have qQ:=C.Xm.at_ id;rw[Qg zK]at qQ;have hT:=(C.kids id zK).toR
  conv at yn=>rhs;rw[ym]
  refine Qf hb ?_;simp only[go_sem,Qa,ho,Qe,hm,QK,qQ];refine JJ hb Qsa (Qup (hT.more (KM hF)) now) λd hR=>?_;subst hR;refine Qf hb ?_;simp only[go_sem,Qa,ho,Qe];have hfm:(M.KT id).find? (λx=>decide (x.va<=min now 9223372036854775807))=firstM M now id:=rfl;rw[hfm];cases hq:firstM M now id with
  | none=>
   rw[hq]at yn;simp only[go_sem,Qa,kP];exact⟨[],(Zd F).symm,none,nu,by unfold MN;rw[yn];rfl⟩
  | some x=>
   rw[hq]at yn;have nv:x∈M.KT id:=xk hq;obtain⟨c,hc,Yd⟩:=I.jD id x nv;obtain⟨y,hy,hyc⟩:=I.QlF hc;have PL:QE M x.ki=y:=by unfold QE;rw[hy];rfl
   have Rf:(up M.T x.ki).length=(up M.T id).length+1:=by rw[K8 I.tree hc,Yd];rfl
   have h16:(up M.T x.ki).length<=16:=Ar;have ql:=C.look hy;have he:=ZM (C.Jd x.ki y hy).1;rw[<- hF]at he;have Z5:=Qc he;dsimp only at yn;rw[PL]at yn;simp only[go_sem,Qa,jP,KS,ho,Qe,Zo,wv,ql,he,Z5];cases hl:y.c.leaf with
   | true=>
    rw[hl,Qg rfl]at yn;simp only[go_sem,Qa];exact⟨[],(Zd F).symm,none,nu,by unfold MN;rw[yn];rfl⟩
   | false=>
    rw[hl,Qd (by decide)]at yn;obtain⟨n,rfl⟩:∃n',n=n'+1:=⟨n - 1,by omega⟩;simp only[go_sem,Qa];exact⟨n,_,by omega,QO,x.ki,(I.ks _).2 (.inr ⟨y,hy,hl⟩),by omega,yn,rfl⟩
end
def QxI{T}(I:K0 T){id a}{c:Qn}(hc:Qy T id=some c)(hl:c.leaf=true)(h:id∈up T a):a=id:=by
 refine vQ λQB=>?_;obtain⟨i,d,h1,h2,h3⟩:=UT I h QB;have h0:d.parent≠0:=λe=>by rw[<- h3,e,CY I]at hc;cases hc
 obtain⟨e,h4,h5⟩:=I.X9 d (wx I h2) h0;rw[h3,hc]at h4;cases h4;rw[hl]at h5;cases h5
def bg{T}(I:K0 T){id}{c:Qn}(hc:Qy T id=some c)(hl:c.leaf=true)(A):Z4 T A id=true↔id∈A:=by
 rw[Yy];constructor
 ·rintro⟨a,ha,h⟩;rw[<- QxI I hc hl h];exact ha
 ·exact λh=>⟨id,h,Xe I hc⟩
def QxJ{T}(I:K0 T){id}{c:Qn}(hc:Qy T id=some c)(hl:c.leaf=true)(A):Z4 T (JP A id) id=false:=by
 rw[zT];intro h;have:=(bg I hc hl _).1 h;simp[JP]at this
def BW(len:Nat)(n:Nd):Nd:={ n with Jb:=WY (n.Jb+len),sh:=FA n.sh (WY (n.Jb+len)),cp:=BJ n.cp (WY (n.Jb+len)) }
def Vr(len:Nat)(M:Qk)(j:Int):Qk:={ M with N:=VG M.N j (BW len) }
def Qhb{n:Nd}(h:n.Ok)(len):(BW len n).Ok:=⟨Hx _,h.du,Qvj h.sh _,Qvn h.cp _,h.c⟩
def Qx.Vr{M}(I:Qx M)(len)(j):Qx (Vr len M j):=I.VG j (BW len) λ_=>rfl
def Qx.bj{len}:∀(l:List Int) {M:Qk},Qx M->Qx (l.foldl (X.Vr len) M)
 | [],M,I=>I
 | j::l,M,I=>Qx.bj l (I.Vr len j)
def HT(len):∀(l:List Int) (M:Qk),(l.foldl (Vr len) M).T=M.T/\(l.foldl (Vr len) M).A=M.A/\(l.foldl (Vr len) M).KT=M.KT/\(l.foldl (Vr len) M).lk=M.lk/\(l.foldl (Vr len) M).Ql=M.Ql/\(l.foldl (Vr len) M).acc=M.acc/\(l.foldl (Vr len) M).Lv=M.Lv
 | [],M=>⟨rfl,rfl,rfl,rfl,rfl,rfl,rfl⟩
 | j::l,M=>HT len l (Vr len M j)
def Qhc{N}{j}{f}(hc:∀n,(f n).c=n.c)(i){n:Nd}(h:Qm N i=some n):∃m,Qm (VG N j f) i=some m/\m.c=n.c/\(m=n\/(i=j/\m=f n)):=by
 rw[zJ (λn=>by rw[hc])];by_cases e:i=j
 ·rw[Qg e,h];exact⟨f n,rfl,hc n,.inr ⟨e,rfl⟩⟩
 ·rw[Qd e];exact⟨n,h,rfl,.inl rfl⟩
def Qhd(len):∀(l:List Int) (M:Qk) (i:Int) {n:Nd},Qm M.N i=some n->∃m,Qm (l.foldl (Vr len) M).N i=some m/\m.c=n.c/\m.q=n.q/\m.du=n.du
 | [],M,i,n,h=>⟨n,h,rfl,rfl,rfl⟩
 | j::l,M,i,n,h=>by
  obtain⟨m,h1,h2,h3⟩:=Qhc (f:=BW len) (j:=j) (λ_=>rfl) i h;obtain⟨m2,h4,h5,h6,h7⟩:=Qhd len l (Vr len M j) i h1;refine⟨m2,h4,h5.trans h2,?_,?_⟩
  ·rw[h6];rcases h3 with rfl|⟨_,rfl⟩<;>rfl
  ·rw[h7];rcases h3 with rfl|⟨_,rfl⟩<;>rfl
def WQ(M:Qk)(id:Int):Qk:={ M with N:=VG M.N id λn=>{ n with q:=Wz (QE M id).q } }
def Qx.WQ{M}(I:Qx M)(id:Int):Qx (WQ M id):=I.VG id (λn=>{ n with q:=Wz (QE M id).q }) λ_=>rfl
def Qx.VH{M:Qk}(I:Qx M){id}{n}(hn:Qm M.N id=Option.some n)(Ju)(r):Qx (VH M id Ju r):=by
 unfold X.VH;split
 ·refine(I.VG id (λn=>{ n with du:=YJ (QE M id) Ju r }) λ_=>rfl).lv λx hx=>?_;have Wr:x.ki=id\/x∈M.Lv:=by
   split at hx
   ·exact mZ (JE.1 hx).1
   ·exact mZ hx
  rcases Wr with h|h
  ·rw[h];show (Qy M.T id).isSome=true;rw[I.some hn];rfl
  ·exact I.yj x h
 ·exact I
def MO(M:Qk)(id)(Ju)(r:Bool):(VH M id Ju r).T=M.T/\(VH M id Ju r).A=M.A/\(VH M id Ju r).KT=M.KT/\(VH M id Ju r).lk=M.lk/\(VH M id Ju r).Ql=M.Ql/\(VH M id Ju r).acc=M.acc:=by
 unfold VH;split<;>exact⟨rfl,rfl,rfl,rfl,rfl,rfl⟩
def QxK(M:Qk)(id)(Ju)(r:Bool)(i){n:Nd}(h:Qm M.N i=some n):∃m,Qm (VH M id Ju r).N i=some m/\m.c=n.c/\m.q=n.q:=by
 unfold VH;split
 ·obtain⟨m,h1,h2,h3⟩:=Qhc (f:=λn=>{ n with du:=YJ (QE M id) Ju r }) (j:=id) (λ_=>rfl) i h;exact⟨m,h1,h2,by rcases h3 with rfl|⟨_,rfl⟩<;>rfl⟩
 ·exact⟨n,h,rfl,rfl⟩
def KV(M:Qk)(now:Nat)(o:Option It):Option (Int × Bool):=match o with
 | some x=>some (x.ki,true)
 | none=>(ym M now 17 0).map λid=>(id,false)
def Xn(M:Qk)(id:Int)(r:Bool):Qk:=
 let len:=((QE M id).q.l.headD default).len;let M3:=VH ((up M.T id).foldl (Vr len.toNat) (WQ M id)) id len r;let M4:=if (Wz (QE M id).q).l=[] then WZ M3 id else M3
 Vy M4 (up M.T id)
@[go_sem] def YL(id:Int)(x:Pk)(r:Bool):List D:=[Qb id,.raw (.int .u64 x.iD),.raw (.int .i64 x.len),.raw (.int .u16 x.xP),.raw (.int .u16 x.xQ),.raw (.int .u16 x.xR),.raw (.int .u16 x.xS),QY r]
@[go_sem] def jE:Ob:=⟨.one,0,8,1,λ_=>YL 0 default false⟩
@[go_sem] def YM(x:Pk):Ob:=⟨.one,0,6,1,λ_=>x.cells⟩
def FM(M:Qk)(now:Nat):(ZI M now).N=M.N/\(ZI M now).T=M.T/\(ZI M now).A=M.A:=by unfold ZI;split<;>exact⟨rfl,rfl,rfl⟩
def yo{M}(I:Qx M)(now):Qx (ZI M now):=by
 unfold ZI;split
 ·rename_i h;unfold kr at h;simp only[qy,Ea,NP]at h;exact⟨I.tree,I.yi,I.to,I.nodes,I.Yf,I.ks,I.yj,I.jD,I.kp,by show now<=_;omega,I.acc⟩
 ·exact I
structure Rg (own:Nat->Tag) (h:List Ob) (p:Nat) (L:Loc) (M:Qk) (id:Int) (r:Bool) (lb:Nat) (x:Pk) (U:List Int) (k:Nat) (s:St):Prop where
 ex:∃own' H,Zs own' H p L ((U.take k).foldl (Vr x.len.toNat) M)/\Zn own h own' H/\own' h.length=.no/\H[h.length]? = some jE/\own' lb=.no/\H[lb]? = some (YM x) /\
  s=⟨[(0,.ptr p 0 0 0),(4,.ptr h.length 0 0 0),(6,Qb id),(7,QY r),(9,.ptr (L.le id) 0 0 0),(10,.ptr lb 0 0 0),(53,ints U),(54,Qb U.length),(55,Qb k)],H⟩
def Rg.of{own}{h:List Ob}{p}{L}{M}{id}{r}{lb}{x:Pk}{U:List Int}{k:Nat}{own'}{H:List Ob}(C:Zs own' H p L ((U.take k).foldl (Vr x.len.toNat) M))(D:Zn own h own' H)(h1:own' h.length=.no)(h2:H[h.length]? = some jE)(h3:own' lb=.no)(h4:H[lb]? = some (YM x)):
  Rg own h p L M id r lb x U k ⟨[(0,.ptr p 0 0 0),(4,.ptr h.length 0 0 0),(6,Qb id),(7,QY r),(9,.ptr (L.le id) 0 0 0),(10,.ptr lb 0 0 0),(53,ints U),(54,Qb U.length),(55,Qb k)],H⟩:=⟨⟨own',H,C,D,h1,h2,h3,h4,rfl⟩⟩
def Rh(M:Qk)(now:Nat)(d:D)(M':Qk):Prop:=
 (kr M now=false/\d=.tup [.agg (YL 0 default false),QY false]/\M'=M) \/
 (kr M now=true/\∃o,vK (ZI M now) now o/\match KV (ZI M now) now o with
  | none=>d=.tup [.agg (YL 0 default false),QY false]/\M'=ZI M now
  | some (id,r)=>d=.tup [.agg (YL id ((QE M id).q.l.headD default) r),QY true]/\M'=Xn (ZI M now) id r)
def QxL{own}{h}{p}{L}{M}(C:Zs own h p L M)(I:Qx M)(now)
  (nw:∀o id r,vK (ZI M now) now o->KV (ZI M now) now o=some (id,r)->∃n,Qm M.N id=some n/\n.c.leaf=true/\n.q.l≠[]/\(1<QZ n.c.ls->id∈M.A)) :
  MFn prog 139 h [.ptr p 0 0 0,u64 now] (λd h'=>∃own' M',Zs own' h' p L M'/\Qx M'/\Zn own h own' h'/\Rh M now d M'):=by
 have ho:=C.ob;have C0:=C.QjH [jE];have D0:=Zn.app own h [jE] .no;have wK:QS own h .no h.length=.no:=by unfold QS;rw[Qg (QD _)]
 have Zo:(h++[jE])[h.length]? = some jE:=by rw[Ko rfl];rfl
 refine QU Qh 200 func139 rfl ntmps139 results139 rfl λbase w pl hb=>?_;have Qe:=Qc ho;simp only[go_sem,Qa,ho,Qe,Go.undef];refine Jl hb QdG (QgX C0 now) λd h1 hR=>?_;obtain⟨rfl,C1,D1⟩:=hR;have I1:=yo I now;obtain⟨t1,t2,t3⟩:=FM M now;have wT:=D0.trans D1;have J3:h1[h.length]? = some jE:=(D1.keep h.length (by simp) wK).trans Zo;have zM:=Qc J3;obtain⟨Z7,HU⟩:∃o,o=QS own h .no:=⟨_,rfl⟩;have qC:∀o,(h1.set h.length o)[h.length]? = some o:=λo=>Qv zM;rw[<- HU]at wT C1 wK;refine Qf hb ?_;cases ht:kr M now with
 | false=>
  simp only[go_sem,Qa,ht,Go.undef,J3,zM,qC];have hM:ZI M now=M:=by unfold ZI;rw[ht];rfl
  rw[hM]at C1;exact⟨Z7,M,C1.loc wK _,I,wT.BT (QD _) _,.inl ⟨ht,rfl,rfl⟩⟩
 | true=>
  simp only[go_sem,Qa,ht,Go.undef,J3,zM];refine JJ hb QrT (QxG C1 I1 now) λd hR=>?_;obtain⟨o,ny,rfl⟩:=hR;refine Qf hb ?_;have nz:KV (ZI M now) now o=none->∃own' M',Zs own' (h1.set h.length jE) p L M'/\Qx M'/\Zn own h own' (h1.set h.length jE)/\Rh M now (.tup [.agg (YL 0 default false),QY false]) M':=λhp=>
   ⟨Z7,ZI M now,C1.loc wK _,I1,wT.BT (QD _) _,.inr ⟨ht,o,ny,by rw[hp];exact⟨rfl,rfl⟩⟩⟩
  have wU:∀id r own' H,KV (ZI M now) now o=some (id,r)->Zs own' H p L (Xn (ZI M now) id r)->Qx (Xn (ZI M now) id r)->Zn own h own' H->Rh M now (.tup [.agg (YL id ((QE M id).q.l.headD default) r),QY true]) (Xn (ZI M now) id r):=λid r own' H hp _ _ _=>
   .inr ⟨ht,o,ny,by rw[hp];exact⟨rfl,rfl⟩⟩
  obtain⟨id,r,Zk,hp⟩|hp:(∃id r,MN (ZI M now) now o=.tup [Qb id,QY r,QY true]/\KV (ZI M now) now o=some (id,r))\/(MN (ZI M now) now o=.tup [Qb 0,QY false,QY false]/\KV (ZI M now) now o=none):=by
   cases o with
   | some x=>exact .inl ⟨x.ki,true,rfl,rfl⟩
   | none=>
    unfold MN Qha KV;dsimp only;cases ym (ZI M now) now 17 0 with
    | none=>exact .inr ⟨rfl,rfl⟩
    | some i=>exact .inl ⟨i,false,rfl,rfl⟩
  case inr=>
   obtain⟨hd,hp⟩:=hp;rw[hd];simp only[go_sem,Qa,J3,zM,qC];exact nz hp
  rw[Zk];obtain⟨n,hn,hl,hq,XI⟩:=nw o id r ny hp;have Ka:Qm (ZI M now).N id=some n:=by rw[t1];exact hn
  have Z2:QE M id=n:=by unfold QE;rw[hn];rfl
  have nA:QE (ZI M now) id=n:=by unfold QE;rw[Ka];rfl
  obtain⟨x,q,MP⟩:∃x q,n.q.l=x::q:=by
   cases yc:n.q.l with
   | nil=>exact absurd yc hq
   | cons x q=>exact⟨x,q,rfl⟩
  have ql:=C1.look Ka;have Zp:=C1.ob;have Kh:=Qc Zp;have qE:=C1.Vf;have bk:=Qc qE;have AQ:=(C1.Jd id n Ka).1;have MH:=Qc AQ;obtain⟨kq,HM,hQ⟩:=C1.WO id n Ka hl;have ME:=Qx.id hn;have DI:qD L.lq n=.ptr (L.lq id) 0 0 0:=by unfold qD;rw[Qg hl,ME]
  rw[DI]at AQ;simp only[go_sem,Qa,Zp,Kh,qE,bk,ql,AQ,MH];refine Jl hb QrU (Qvc hQ MP) λd h2 hR=>?_;obtain⟨rfl,Q2,s2⟩:=hR;have C2:=C1.YG Ka hl HM Q2 s2;have nB:{ ZI M now with N:=VG (ZI M now).N id λm=>{ m with q:=Wz n.q } }=WQ (ZI M now) id:=by unfold WQ;rw[nA]
  rw[nB]at C2;have D2:=wT.trans (Zn.of (t:=.YG id) (by simp) s2);have ZB:h2[h.length]? = some jE:=(s2.keep h.length zM (by rw[wK];simp)).trans J3;have VC:QS Z7 h1 (.YG id) h.length=.no:=by rw[JY zM];exact wK
  have JA:=s2.len;have C3:=C2.QjH [YM x];have D3:=D2.trans (Zn.app _ h2 [YM x] .no);have YK:(h2++[YM x])[h.length]? = some jE:=(QC (Qc ZB)).trans ZB;have xZ:QS (QS Z7 h1 (.YG id)) h2 .no h.length=.no:=by rw[JY (Qc ZB)];exact VC
  have Hu:(h2++[YM x])[h2.length]? = some (YM x):=by rw[Ko rfl];rfl
  have yp:QS (QS Z7 h1 (.YG id)) h2 .no h2.length=.no:=by unfold QS;rw[Qg (QD _)]
  have I3:=I1.WQ id;have WC:=C3.ob;have qS:=Qc WC;generalize nC:h2++[YM x]=H3 at C3 D3 YK Hu WC qS;generalize QS (QS Z7 h1 (.YG id)) h2 .no=yq at C3 D3 xZ yp;apply Q1 hb;have nD:h2++[(⟨.one,0,6,1,λ_=>[.raw (.int .u64 x.iD),.raw (.int .i64 x.len),.raw (.int .u16 x.xP),.raw (.int .u16 x.xQ),.raw (.int .u16 x.xR),.raw (.int .u16 x.xS)]⟩:Ob)]=H3:=nC;simp only[nD];simp only[go_sem,Qa,WC,qS];refine JJ hb Uu (iF C3.tr.toR I3.tree.toTreeInv id) λd hR=>?_;subst hR;refine Qf hb ?_;simp only[go_sem,Qa,WC,qS];obtain⟨U,hU⟩:∃U,U=up M.T id:=⟨_,rfl⟩;have hU3:Jq (WQ (ZI M now) id).T 16 id=U:=by rw[hU];show up (ZI M now).T id=_;rw[t2]
  rw[hU3];have aV:U.length<=16:=by rw[hU];exact Ar
  obtain⟨M3,qn⟩:∃M3,M3=WQ (ZI M now) id:=⟨_,rfl⟩;have Qhe:M3.T=M.T:=by rw[qn];exact t2
  have QxN:M3.A=M.A:=by rw[qn];exact t3
  rw[<- qn]at C3 I3;have Wr:Mh x:=by
   obtain⟨r2,Q⟩:=hQ;exact Q.lens x (by rw[MP];simp)
  have ex:IntKind.u64.wrap x.len=((x.len.toNat:Nat):Int):=Hy (by have:=Wr.1;omega) (by have:=Wr.2;omega);obtain⟨n3,QxO,Qhf,QxP⟩:∃m,Qm M3.N id=some m/\m.c=n.c/\m.q=Wz n.q:=by
   rw[qn];unfold WQ;rw[nA];refine⟨{ n with q:=Wz n.q },?_,rfl,rfl⟩;rw[zJ (f:=λm=>{ m with q:=Wz n.q }) (λ_=>rfl),Qg rfl,Ka];rfl
  refine ZZ (Rg own h p L M3 id r h2.length x U) U.length QO (Rg.of (k:=0) C3 D3 xZ YK yp Hu) ?_;rintro k _ hk ⟨wS,H5,C5,D5,bn,BS,br,MQ,rfl⟩;have be:=Qc BS;have bt:=Qc MQ;have I5:=Qx.bj (len:=x.len.toNat) (U.take k) I3;obtain⟨kT,kA,kK,klk,kc,ka,kL⟩:=HT x.len.toNat (U.take k) M3;by_cases Qs:k<U.length;case pos=>
   have dk:=Q7 Qs;obtain⟨j,hj⟩:∃j,j=U.getD k 0:=⟨_,rfl⟩;have DJ:j∈up M.T id:=by rw[hj,<- hU];exact jq U 0 k Qs
   have Z1:(U.take (k+1)).foldl (Vr x.len.toNat) M3=Vr x.len.toNat ((U.take k).foldl (Vr x.len.toNat) M3) j:=by
    rw[getD_take U 0 k Qs,Gf,<- hj];rfl
   obtain⟨M5,ML⟩:∃M5,M5=(U.take k).foldl (Vr x.len.toNat) M3:=⟨_,rfl⟩;rw[<- ML]at C5 I5 kT Z1;obtain⟨y,hy⟩:∃y,Qm M5.N j=some y:=by
    have XE:=Fj DJ;rw[<- Qhe,<- kT,I5.find]at XE;cases hq:Qm M5.N j with
    | none=>rw[hq]at XE;cases XE
    | some y=>exact⟨y,rfl⟩
   have wR:=C5.Ye j y hy;have bc:=C5.look hy;have BV:=C5.ob;have MM:=Qc BV;have Ri:=C5.Vf;have bu:=Qc Ri;have HS:=(C5.Jd j y hy).1;have AS:=Qc HS;have DK:=(C5.Jd j y hy).2;have Zq:=Vp (show k<4611686018427387904 by omega);have nb:L.le j≠h.length:=λe=>by rw[e,bn]at DK;cases DK
   have nx:L.le j≠h2.length:=λe=>by rw[e,br]at DK;cases DK
   have yr:∀s,(H5.set (L.le j) ⟨.one,0,60,1,λ_=>Kg (qD L.lq y) s⟩)[L.le j]? = some ⟨.one,0,60,1,λ_=>Kg (qD L.lq y) s⟩:=λs=>Qv AS;have Fw:∀s,(H5.set (L.le j) s)[h2.length]? = some (YM x):=λs=>(Qi nx).trans MQ;refine Qf hb ?_;simp only[go_sem,Qa,dk,Qs,<- hj,BV,MM,Ri,bu,bc];apply QH hb [0,1,2,3,4,5,6,7,8,9,1010];simp only[go_sem,Qa,HS,AS,MQ,bt,ex,Hz];have hT1:=Qvl y.sh wR.sh (WY (y.Jb+x.len.toNat)) (Hx _);have BX:=lO y.cp wR.cp (WY (y.Jb+x.len.toNat)) (Hx _);apply QH hb [0,1,2,3,4,5,6,7,8,1009,10,11,1012];simp only[go_sem,Qa,yr,AS];refine KB hb QrV rfl ?_ hT1 (Qo.flat rfl) rfl λd h hR=>?_
   ·simp only[go_sem,Qa,yr,AS]
   obtain⟨rfl,rfl⟩:=hR;refine Zb hb ?_;simp only[go_sem,Qa,yr,AS];apply QH hb [0,1,2,3,4,5,6,7,8,1009,10,11,1012];simp only[go_sem,Qa,yr,AS];refine KB hb fO rfl ?_ BX (Qo.flat rfl) rfl λd h hR=>?_
   ·simp only[go_sem,Qa,yr,AS]
   obtain⟨rfl,rfl⟩:=hR;refine Zb hb ?_;simp only[go_sem,Qa,yr,AS];have C6:=C5.vk hy (BW x.len.toNat) (λ_=>rfl) (λ_=>rfl) (Qhb wR _);have D6:=Zn.set (own:=wS) (h:=H5) (XS (qD L.lq y) (BW x.len.toNat y)) (l:=L.le j) (by rw[DK];simp);refine⟨Qs,_,QI.frame (by simp only[go_sem,Zq]),Rg.of (by rw[Z1];exact C6) (D5.trans D6) bn (by rw[Qi nb];exact BS) br (by rw[Qi nx];exact MQ)⟩
  have ZW:k=U.length:=by omega
  have dk:=QQ Qs;rw[ZW,zW]at C5 I5 kT kA;obtain⟨M5,ML⟩:∃M5,M5=U.foldl (Vr x.len.toNat) M3:=⟨_,rfl⟩;obtain⟨n5,MS,Qhg,QxR,_⟩:=Qhd x.len.toNat U M3 id QxO;rw[<- ML]at C5 I5 kT kA MS;have hl5:n5.c.leaf=true:=by rw[Qhg,Qhf];exact hl
  have bc:=C5.look MS;have BV:=C5.ob;have MM:=Qc BV;have HS:=(C5.Jd id n5 MS).1;have AS:=Qc HS;refine Qf hb ?_;simp only[go_sem,Qa,dk];refine Qf hb ?_;simp only[go_sem,Qa,MQ,bt];refine Jl hb QrW (Qxt C5 I5 MS hl5 x.len (by have:=Wr.1;omega) (by have:=Wr.2;omega) r) λd H6 hR=>?_;obtain⟨Qhi,C6,D6⟩:=hR;have I6:=I5.VH MS x.len r;obtain⟨kT6,kA6,_⟩:=MO M5 id x.len r;obtain⟨n6,Rj,Qhl,QxS⟩:=QxK M5 id x.len r id MS;obtain⟨M6,hM6⟩:∃M6,M6=VH M5 id x.len r:=⟨_,rfl⟩;rw[<- hM6]at C6 I6 kT6 kA6 Rj;have wH:H6[h.length]? = some jE:=(D6.keep _ be bn).trans BS;have bw:Qhi h.length=.no:=(D6.same _ be).trans bn;have Fw:H6[h2.length]? = some (YM x):=(D6.keep _ bt br).trans MQ;have nE:Qhi h2.length=.no:=(D6.same _ bt).trans br;have bx:=Qc wH;have Md:=Qc Fw;have D06:=D5.trans D6;have AF:n6.c.leaf=true:=by rw[Qhl];exact hl5
  have hq6:n6.q=Wz n.q:=by rw[QxS,QxR,QxP]
  have hc6:n6.c=n.c:=by rw[Qhl,Qhg,Qhf]
  have jB:=C6.ob;have YC:=Qc jB;have yr:=(C6.Jd id n6 Rj).1;have nF:=Qc yr;have QxU:qD L.lq n6=.ptr (L.lq id) 0 0 0:=by unfold qD;rw[Qg AF,hc6,ME]
  rw[QxU]at yr;obtain⟨kq6,QFu,hQ6⟩:=C6.WO id n6 Rj AF;have nG:n6.q.l.length=q.length:=by rw[hq6];unfold Wz;rw[MP];rfl
  have V8:Qy M6.T id=some n6.c:=I6.some Rj;have kS:Xn (ZI M now) id r=Vy (if (Wz n.q).l=[] then WZ M6 id else M6) (up (ZI M now).T id):=by
   unfold Xn;simp only[nA,MP,List.headD_cons];rw[show up (ZI M now).T id=U by rw[t2];exact hU.symm,<- qn,<- ML,<- hM6]
  have nH:M6.T=M.T:=by rw[kT6,kT,Qhe]
  have hA6:M6.A=M.A:=by rw[kA6,kA,QxN]
  refine Qf hb ?_;simp only[go_sem,Qa,jB,YC,yr,nF];refine ZT hb Lz rfl ?_ (Ml hQ6.toR) rfl λd hR=>?_
  ·simp only[go_sem,Qa,jB,YC,yr,nF,nG]
  subst hR;refine Qf hb ?_;simp only[go_sem,Qa,jB,YC,yr,nF,nG];have U4:∀yu H8,Zs yu H8 p L (Xn (ZI M now) id r)->Qx (Xn (ZI M now) id r)->Zn own h yu H8->H8[h.length]? = some jE->yu h.length=.no ->
    ∃own' M',Zs own' (H8.set h.length ⟨.one,0,8,1,λ_=>YL id x r⟩) p L M'/\Qx M'/\Zn own h own' (H8.set h.length ⟨.one,0,8,1,λ_=>YL id x r⟩)/\Rh M now (.tup [.agg (YL id x r),QY true]) M':=λyu H8 C8 I8 D8 FN Rl=>
   ⟨yu,_,C8.loc Rl _,I8,D8.BT (QD _) _,by
    have:=wU id r yu H8 hp C8 I8 D8;rwa [Z2,MP,List.headD_cons]at this⟩
  have hqz:(Wz n.q).l=q:=by unfold Wz;rw[MP];rfl
  rw[hqz]at kS;cases bz:q with
  | cons z q2=>
   have dz:(((q2.length+1:Nat):Int)==0)=false:=Xt (by omega);rw[bz,Qd (by simp)]at kS;have Jg:=mV C6 I6 id;rw[nH,<- t2,<- kS]at Jg;simp only[go_sem,Qa,bz,dz];refine Jl hb fN Jg λd H8 hR=>?_;obtain⟨yu,C8,I8,D8⟩:=hR;have FN:H8[h.length]? = some jE:=(D8.keep _ bx bw).trans wH;have Rm:H8[h2.length]? = some (YM x):=(D8.keep _ Md nE).trans Fw;have Rl:yu h.length=.no:=(D8.same _ bx).trans bw;have Ro:=Qc FN;have nI:=Qc Rm;have nJ:∀o,(H8.set h.length o)[h.length]? = some o:=λo=>Qv Ro;refine Qf hb ?_;simp only[go_sem,Qa,FN,Ro,Rm,nI,nJ];exact U4 yu H8 C8 I8 (D06.trans D8) FN Rl
  | nil=>
   rw[bz,Qg rfl]at kS;simp only[go_sem,Qa,bz];refine Jl hb QrX (QxB C6 I6 Rj AF (by rw[hc6,hA6];exact XI) (QxJ I6.tree V8 AF _)) λd H7 hR=>?_;obtain⟨qT,C7,I7,D7⟩:=hR;have hb7:H7[h.length]? = some jE:=(D7.keep _ bx bw).trans wH;have hx7:H7[h2.length]? = some (YM x):=(D7.keep _ Md nE).trans Fw;have hn7:qT h.length=.no:=(D7.same _ bx).trans bw;have QxY:qT h2.length=.no:=(D7.same _ Md).trans nE;have Qhs:=Qc hb7;have QxZ:=Qc hx7;have Jg:=mV C7 I7 id;have hT7:(WZ M6 id).T=M.T:=by
    unfold WZ;split
    ·rw[(FJ _ _).1];exact nH
    ·exact nH
   rw[hT7,<- t2,<- kS]at Jg;apply Q1 hb;refine Jl hb fN Jg λd H8 hR=>?_;obtain⟨yu,C8,I8,D8⟩:=hR;have FN:H8[h.length]? = some jE:=(D8.keep _ Qhs hn7).trans hb7;have Rm:H8[h2.length]? = some (YM x):=(D8.keep _ QxZ QxY).trans hx7;have Rl:yu h.length=.no:=(D8.same _ Qhs).trans hn7;have Ro:=Qc FN;have nI:=Qc Rm;have nJ:∀o,(H8.set h.length o)[h.length]? = some o:=λo=>Qv Ro;refine Qf hb ?_;simp only[go_sem,Qa,FN,Ro,Rm,nI,nJ];exact U4 yu H8 C8 I8 ((D06.trans D7).trans D8) FN Rl
structure jF (c:Cf):Prop where
 t1:1<=c.t
 t2:c.t<=65536
 l1:1<=c.Vc
 l2:c.Vc<=16384
def Vg(M:Qk)(id:Int)(x:Pk):Qk:={ M with N:=VG M.N id λm=>{ m with q:=Xj (QE M id).c.ZF (QE M id).c.bytes (QE M id).q x } }
def kv(M:Qk)(a:Nat):Qk:={ M with acc:=a }
def Vh(M:Qk)(cls:Int)(x:Pk):Int:=
 match Qm M.N cls with
 | none=>23
 | some n=>if n.c.leaf=false then 29 else if x.len<1\/M.lk.Vc<x.len then 26 else if 1099511627776<M.acc+x.len.toNat then 28
  else if jA n.c.ZF n.c.bytes n.q x=true then 30 else 0
def Vs(M:Qk)(now:Nat)(cls:Int)(x:Pk):Qk:=
 if Vh M cls x=30 then Vg M cls x
 else if Vh M cls x=0 then (if (QE M cls).q.l=[] then qR (kv (Vg M cls x) (M.acc+x.len.toNat)) now cls x.len else kv (Vg M cls x) (M.acc+x.len.toNat))
 else M
def Qx.Vg{M}(I:Qx M)(id:Int)(x):Qx (Vg M id x):=I.VG id (λm=>{ m with q:=Xj (QE M id).c.ZF (QE M id).c.bytes (QE M id).q x }) λ_=>rfl
def Qx.kv{M}(I:Qx M){a}(h:a<=1099511627776):Qx (kv M a):=⟨I.tree,I.yi,I.to,I.nodes,I.Yf,I.ks,I.yj,I.jD,I.kp,I.Ql,h⟩
def Qht(M:Qk)(now:Nat):(ZI M now).lk=M.lk/\(ZI M now).acc=M.acc:=by unfold ZI;split<;>exact⟨rfl,rfl⟩
def vL(M:Qk)(now:Nat)(cls:Int)(x:Pk):Int:=if kr M now=true then Vh (ZI M now) cls x else 27
def KO(M:Qk)(now:Nat)(cls:Int)(x:Pk):Qk:=if kr M now=true then Vs (ZI M now) now cls x else M
def Qx1{own}{h}{p}{L}{M:Qk}(C:Zs own h p L M)(I:Qx M)(K:jF M.lk)(now)(VO:now<18446744073709551616)(cls)(x)
  (hA:∀n,Qm M.N cls=some n->n.c.leaf=true->n.q.l=[]->cls ∉ M.A) :
  MFn prog 84 h [.ptr p 0 0 0,u64 now,Qb cls,.agg x.cells] (λd h'=>∃own' M',Zs own' h' p L M'/\Qx M'/\Zn own h own' h' /\
   d=Qb (vL M now cls x)/\M'=KO M now cls x):=by
 have ho:=C.ob;have C0:=C.QjH [YM x];have D0:=Zn.app own h [YM x] .no;have wK:QS own h .no h.length=.no:=by unfold QS;rw[Qg (QD _)]
 have Zo:(h++[YM x])[h.length]? = some (YM x):=by rw[Ko rfl];rfl
 refine QU Qh 200 func84 rfl ntmps84 results84 rfl λbase w pl hb=>?_;have Qe:=Qc ho;simp only[go_sem,Qa,ho,Qe];refine Jl hb QdG (QgX C0 now) λd h1 hR=>?_;obtain⟨rfl,C1,D1⟩:=hR;have I1:=yo I now;obtain⟨t1,t2,t3⟩:=FM M now;obtain⟨t4,t5⟩:=Qht M now;have wT:=D0.trans D1;have J3:h1[h.length]? = some (YM x):=(D1.keep h.length (by simp) wK).trans Zo;have zM:=Qc J3;obtain⟨Z7,HU⟩:∃o,o=QS own h .no:=⟨_,rfl⟩;rw[<- HU]at wT C1 wK;have Zp:=C1.ob;have Kh:=Qc Zp;have qE:=C1.Vf;have bk:=Qc qE;refine Qf hb ?_;cases ht:kr M now with
 | false=>
  have hM:ZI M now=M:=by unfold ZI;rw[ht];rfl
  rw[hM]at C1;simp only[go_sem,Qa,ht];exact⟨Z7,M,C1,I,wT,by rw[show vL M now cls x=27 from Qd (by rw[ht];exact Qhn)],(Qd (by rw[ht];exact Qhn)).symm⟩
 | true=>
  have wu:∀own' H M',Zs own' H p L M'->Qx M'->Zn own h own' H->M'=Vs (ZI M now) now cls x->∀e,Vh (ZI M now) cls x=e->∃own' M',Zs own' H p L M'/\Qx M'/\Zn own h own' H/\Qb e=Qb (vL M now cls x)/\M'=KO M now cls x:=
   λown' H M' h1 h2 h3 h4 e he=>⟨own',M',h1,h2,h3,by rw[<- he];unfold vL;rw[Qg ht],by unfold KO;rw[Qg ht];exact h4⟩
  obtain⟨M1,hM1⟩:∃M1,M1=ZI M now:=⟨_,rfl⟩;rw[<- hM1]at C1 I1 t1 t2 t3 t4 t5 wu Zp;cases hf:Qm M1.N cls with
  | none=>
   have hk:=C1.YH.at_ cls;rw[hf,YU]at hk;have hE:Vh M1 cls x=23:=by unfold Vh;rw[hf]
   have hP:Vs M1 now cls x=M1:=by unfold Vs;rw[hE];rfl
   simp only[go_sem,Qa,ht,Zp,Kh,qE,bk,hk];exact wu Z7 h1 M1 C1 I1 wT hP.symm 23 hE
  | some n=>
   have hk:=C1.look hf;have AQ:=(C1.Jd cls n hf).1;have MH:=Qc AQ;have ME:=Qx.id hf;simp only[go_sem,Qa,ht,Zp,Kh,qE,bk,hk,AQ,MH];cases hl:n.c.leaf with
   | false=>
    have hE:Vh M1 cls x=29:=by unfold Vh;rw[hf];simp[hl]
    have hP:Vs M1 now cls x=M1:=by unfold Vs;rw[hE];rfl
    simp only[go_sem,Qa];exact wu Z7 h1 M1 C1 I1 wT hP.symm 29 hE
   | true=>
    have Rp:=J3;have qC:∀o,(h1.set h.length o)[h.length]? = some o:=λo=>Qv zM;obtain⟨kq,HM,hQ⟩:=C1.WO cls n hf hl;have DI:qD L.lq n=.ptr (L.lq cls) 0 0 0:=by unfold qD;rw[Qg hl,ME]
    rw[DI]at AQ;have Z2:QE M1 cls=n:=by unfold QE;rw[hf];rfl
    have K1:jF M1.lk:=by rw[t4];exact K
    have Zu:=K1.l1;have JA:=K1.l2;have Qx2:=I1.acc;have fE:(x.len<1\/M1.lk.Vc<x.len)->Vh M1 cls x=26:=λh=>by unfold Vh;rw[hf];simp only[hl];rw[Qd (by simp),Qg h]
    have fP:(x.len<1\/M1.lk.Vc<x.len)->Vs M1 now cls x=M1:=λh=>by unfold Vs;rw[fE h];rfl
    cases d1:decide (x.len<1) with
    | true=>
     have:=YV d1;simp only[go_sem,Qa];apply QH hb [0,1,2,3,4,5,6,7,8,9,10,11,12,13];simp only[go_sem,Qa,J3,zM,Zp,Kh,d1];exact wu Z7 h1 M1 C1 I1 wT (fP (.inl this)).symm 26 (fE (.inl this))
    | false=>
     have x1:1<=x.len:=by have:=A4 d1;omega
     cases d2:decide (M1.lk.Vc<x.len) with
     | true=>
      have:=YV d2;simp only[go_sem,Qa];apply QH hb [0,1,2,3,4,5,6,7,8,9,10,11,12,13];simp only[go_sem,Qa,J3,zM,Zp,Kh,d1,d2];exact wu Z7 h1 M1 C1 I1 wT (fP (.inr this)).symm 26 (fE (.inr this))
     | false=>
      have x2:x.len<=M1.lk.Vc:=by have:=A4 d2;omega
      have hx:Mh x:=⟨x1,by omega⟩;have gy:(x.len.toNat:Int)=x.len:=Gc (by omega);obtain⟨a,ha⟩:∃a,a=x.len.toNat:=⟨_,rfl⟩;rw[<- ha]at gy;have ex:IntKind.u64.wrap x.len=(a:Int):=by rw[ha];exact Hy (by omega) (by omega)
      have ew:IntKind.u64.wrap ((M1.acc:Int)+(a:Int))=((M1.acc+a:Nat):Int):=by rw[Hy (by omega) (by omega)];omega
      have ge:¬ (x.len<1\/M1.lk.Vc<x.len):=by omega
      cases d3:decide ((1099511627776:Int)<((M1.acc+a:Nat):Int)) with
      | true=>
       have d3':=YV d3;have hE:Vh M1 cls x=28:=by unfold Vh;rw[hf];simp only[hl];rw[Qd (by simp),Qd ge,Qg (by rw[<- ha];omega)]
       have hP:Vs M1 now cls x=M1:=by unfold Vs;rw[hE];rfl
       simp only[go_sem,Qa];apply QH hb [0,1,2,3,4,5,6,7,8,9,10,11,12,13];simp only[go_sem,Qa,J3,zM,Zp,Kh,d1,d2];apply QH hb [0,1,2,3,4,5,6,7,8,9];simp only[go_sem,Qa,J3,zM,Zp,Kh,ex,ew,d3];exact wu Z7 h1 M1 C1 I1 wT hP.symm 28 hE
      | false=>
       have d3':=A4 d3;simp only[go_sem,Qa];apply QH hb [0,1,2,3,4,5,6,7,8,9,10,11,12,13];simp only[go_sem,Qa,J3,zM,Zp,Kh,d1,d2];apply QH hb [0,1,2,3,4,5,6,7,8,9];simp only[go_sem,Qa,J3,zM,Zp,Kh,ex,ew,d3];apply KL [5] hb [0,1,2,3,4,1005,6] [];simp only[go_sem,Qa,J3,zM,AQ,MH];refine j9 hb Qry (Qvb hQ x hx) λd h2 hR=>?_;obtain⟨rfl,Q2,s2⟩:=hR;have VC:QS Z7 h1 (.YG cls) h.length=.no:=by rw[JY zM];exact wK
       have ZB:h2[h.length]? = some (YM x):=(s2.keep h.length zM (by rw[wK];simp)).trans J3;have jG:=Qc ZB;have C2:=C1.YG hf hl HM Q2 s2;have D2:=wT.trans (Zn.of (t:=.YG cls) (by simp) s2);have nB:{ M1 with N:=VG M1.N cls λm=>{ m with q:=Xj kq n.c.bytes n.q x } }=Vg M1 cls x:=by unfold Vg;rw[Z2,HM]
       rw[nB]at C2;have I2:=I1.Vg cls x;have js:∀b,jA kq n.c.bytes n.q x=b->Vh M1 cls x=if b=true then 30 else 0:=λb hb=>by
        unfold Vh;rw[hf];simp only[hl];rw[Qd (by simp),Qd ge,Qd (by rw[<- ha];omega),HM,hb]
       generalize QS Z7 h1 (.YG cls)=JK at C2 D2 VC;refine Zb hb ?_;cases nK:jA kq n.c.bytes n.q x with
       | true=>
        have hE:Vh M1 cls x=30:=js _ nK;have hP:Vs M1 now cls x=Vg M1 cls x:=by unfold Vs;rw[hE];rfl
        simp only[go_sem,Qa];exact wu JK h2 _ C2 I2 D2 hP.symm 30 hE
       | false=>
        have hE:Vh M1 cls x=0:=js _ nK;have KU:=C2.ob;have qm:=Qc KU;have Qx4:(Vg M1 cls x).acc=M1.acc:=rfl;have Qx5:(Vg M1 cls x).lk=M1.lk:=rfl;have Qx6:(Vg M1 cls x).Ql=M1.Ql:=rfl;have C3:Zs JK (h2.set p (zI M1.lk L.t L.b L.o L.v L.m M1.Ql (M1.acc+a))) p L (kv (Vg M1 cls x) (M1.acc+a)):=C2.Ql M1.Ql (M1.acc+a);have I3:Qx (kv (Vg M1 cls x) (M1.acc+a)):=I2.kv (by omega);have D3:=D2.trans (Zn.set (own:=JK) (h:=h2) (l:=p) (zI M1.lk L.t L.b L.o L.v L.m M1.Ql (M1.acc+a)) (by rw[C2.op];decide));have hnp:p≠h.length:=λe=>by have:=C2.op;rw[e,VC]at this;cases this
        have YK:(h2.set p (zI M1.lk L.t L.b L.o L.v L.m M1.Ql (M1.acc+a)))[h.length]? = some (YM x):=(Qi hnp).trans ZB;have AR:=Qc YK;generalize nC:h2.set p (zI M1.lk L.t L.b L.o L.v L.m M1.Ql (M1.acc+a))=H3 at C3 D3 YK AR;have nD:h2.set p ⟨.one,0,9,1,λ_=>[.raw (.int .i64 M1.lk.t),.raw (.int .i64 M1.lk.Vc),.ptr L.t 0 0 0,.mref L.b 0,.ptr L.o 0 0 0,.ptr L.v 0 0 0,.mref L.m 0,.raw (.int .u64 (M1.Ql:Nat)),.raw (.int .u64 ((M1.acc+a:Nat):Int))]⟩=H3:=nC;have xZ:Qm (kv (Vg M1 cls x) (M1.acc+a)).N cls=some { n with q:=Xj kq n.c.bytes n.q x }:=by
         show Qm (Vg M1 cls x).N cls=_;unfold Vg;dsimp only;rw[Z2,HM,zJ (f:=λm:Nd=>{ m with q:=Xj kq n.c.bytes n.q x }) (λ_=>rfl) cls,Qg rfl,hf,Kt]
        have vJ:=(C3.Jd cls _ xZ).1;have Qx8:qD L.lq { n with q:=Xj kq n.c.bytes n.q x }=.ptr (L.lq cls) 0 0 0:=by unfold qD;rw[Qg hl,ME]
        rw[Qx8]at vJ;have ku:=Qc vJ;obtain⟨kq3,QFw,hQ3⟩:=C3.WO cls _ xZ hl;simp only[go_sem,Qa];apply QH hb [0,1,2,3,4,5,6,7,8,9,1010];simp only[go_sem,Qa,ZB,jG,KU,qm,ex,ew,Qx4,Qx5,Qx6,nD,vJ,ku];have Zf:(Xj kq n.c.bytes n.q x).l.length=n.q.l.length+1:=by unfold Xj;rw[Qd (by rw[nK];exact Qhn)];simp
        have nG:({ n with q:=Xj kq n.c.bytes n.q x }:Nd).q.l.length=n.q.l.length+1:=Zf;have WC:=C3.ob;have qS:=Qc WC;refine ZT hb Lz rfl ?_ (Ml hQ3.toR) rfl λd hR=>?_
        ·simp only[go_sem,Qa,YK,AR,WC,qS,vJ,ku,Zf]
        subst hR;refine Qf hb ?_;simp only[go_sem,Qa,YK,AR,WC,qS,vJ,ku,Zf];cases hq:n.q.l with
        | cons y q=>
         have dz:(((q.length+1+1:Nat):Int)==1)=false:=Xt (by omega);have hP:Vs M1 now cls x=kv (Vg M1 cls x) (M1.acc+a):=by unfold Vs;rw[hE,Z2,hq,<- ha];rfl
         simp only[go_sem,Qa,Vu,dz];exact wu JK H3 _ C3 I3 D3 hP.symm 0 hE
        | nil=>
         have dz:(((0+1:Nat):Int)==1)=true:=rfl;have Jw:JZ (kv (Vg M1 cls x) (M1.acc+a)) cls=false:=by
          rw[zT];intro h9;have h8:=(bg I1.tree (I1.some hf) hl M1.A).1 h9;rw[t3]at h8;exact hA n (by rw[<- t1];exact hf) hl hq h8
         have hP:Vs M1 now cls x=qR (kv (Vg M1 cls x) (M1.acc+a)) now cls x.len:=by unfold Vs;rw[hE,Z2,hq,<- ha];rfl
         simp only[go_sem,Qa,List.length_nil,dz];simp only[go_sem,Qa,YK,AR];refine Jl hb Qrz (Qxw C3 I3 xZ hl now VO x.len (by omega) Jw) λd h4 hR=>?_;obtain⟨own4,C4,I4,D4⟩:=hR;apply Q1 hb;exact wu own4 h4 _ C4 I4 (D3.trans D4) hP.symm 0 hE
@[go_sem] def bA(c:Cf):Ob:=⟨.one,0,2,1,λ_=>c.cells⟩
def M0(c:Cf):Qk:=⟨c,[],[],[],[],[],λid=>decide (id=0),λ_=>[],0,0⟩
def bB(own:Nat->Tag)(b:Nat)(l:Nat):Tag:=
 if l<b then own l else if l<b+2 then .tree else if l<b+5 then .lv else if l<b+8 then .Xk 0 else if l=b+8 then .mk else if l=b+9 then .mQ else if l=b+10 then .sc else .on
def Qya(h:List Ob):Wf prog 67 h [] (λd g=>d=.ptr (h.length+1) 0 0 0/\g=[QM .i64 0 [],⟨.one,0,1,1,λ_=>[.mref h.length 0]⟩]):=
 MFn.mono (QuY (h.map Ob.ro)) λd h' ⟨h1,h2⟩=>⟨_,h2,by rw[h1,J6],by rw[J6]⟩
def kx(b:Nat):List Ob:=[vA .nil,QM .i64 0 [],Dm b (b+1)]
def Qyb(h:List Ob):Wf prog 68 h [] (λd g=>d=.ptr (h.length+2) 0 0 0/\g=kx h.length):=by
 have:MFn prog 68 (h.map Ob.ro) [] (λd h'=>d=.ptr ((h.map Ob.ro).length+2) 0 0 0/\h'=h.map Ob.ro++kx (h.map Ob.ro).length):=by
  generalize h.map Ob.ro=h;refine QU Qh 200 func68 rfl ntmps68 results68 rfl λbase w pl hb=>?_;simp only[go_sem,Qa];refine BD hb QdD (Qfq h) λd h hR=>?_;obtain⟨rfl,rfl⟩:=hR;apply Q1 hb;rfl
 exact MFn.mono this λd h' ⟨h1,h2⟩=>⟨_,h2,by rw[h1,J6],by rw[J6]⟩
def Qhu(h:List Ob):Wf prog 69 h [] (λd g=>d=.ptr (h.length+2) 0 0 0/\g=kx h.length):=by
 have:MFn prog 69 (h.map Ob.ro) [] (λd h'=>d=.ptr ((h.map Ob.ro).length+2) 0 0 0/\h'=h.map Ob.ro++kx (h.map Ob.ro).length):=by
  generalize h.map Ob.ro=h;refine QU Qh 200 func69 rfl ntmps69 results69 rfl λbase w pl hb=>?_;simp only[go_sem,Qa];refine BD hb QdD (Qfq h) λd h hR=>?_;obtain⟨rfl,rfl⟩:=hR;apply Q1 hb;rfl
 exact MFn.mono this λd h' ⟨h1,h2⟩=>⟨_,h2,by rw[h1,J6],by rw[J6]⟩
def nN{H:List Ob}{S}{b}(h0:H[b]? = some (vA .nil))(h1:H[b+1]? = some (QM .i64 0 []))(h2:H[b+2]? = some (Dm b (b+1)))(s0:S b)(s1:S (b+1))(s2:S (b+2)):V7 S H (b+2) []:=
 ⟨b,b+1,.nil,0,[],h2,⟨h0,trivial,rfl,by simp[Tr.QJ],by simp[Tr.QJ],by simp[KD]⟩,h1,Xv.nil,by simp,by omega,by omega,by omega,by simp[Tr.QJ],by simp[Tr.QJ],s2,s0,s1,by simp[Tr.QJ]⟩
def Qhv:K0 []:=⟨TreeInv.nil,by simp,by simp,by simp,by simp⟩
def Qyc(c):Qx (M0 c):=
 ⟨Qhv,λc hc=>by simp[M0]at hc,rfl,rfl,λa ha=>by simp[M0]at ha,λid=>by simp[M0,Qm],λx hx=>by simp[M0]at hx,λid x hx=>by simp[M0]at hx,λid x hx=>by simp[M0]at hx,by simp[M0],by simp[M0]⟩
def Qyd{own}{h}(c):
  MFn prog 36 h [.agg c.cells] (λd h'=>(jF c/\∃own' L p,d=.tup [.ptr p 0 0 0,Qb 0]/\Zs own' h' p L (M0 c)/\Qx (M0 c)/\Zn own h own' h')\/(¬ jF c/\d=.tup [.raw (.pointer none),Qb 1]/\∃g,h'=h++g)):=by
 have Zo:∀g,(h++bA c::g)[h.length]? = some (bA c):=λg=>Ko rfl;by_cases K:jF c
 ·have d1:decide (c.t<1)=false:=QQ (by have:=K.t1;omega);have d2:decide (65536<c.t)=false:=QQ (by have:=K.t2;omega);have d3:decide (c.Vc<1)=false:=QQ (by have:=K.l1;omega);have d4:decide (16384<c.Vc)=false:=QQ (by have:=K.l2;omega);refine QU Qh 200 func36 rfl ntmps36 results36 rfl λbase w pl hb=>?_;simp only[go_sem,Qa,Qa,d1,d2,d3,d4];apply QH hb [0,1001,1003,1005,1004,1006,7,1002,8,1009,10];simp only[go_sem,Qa];refine OJ hb Qq9 rfl ?_ (Qya _) rfl λd h hR=>?_
  ·simp only[go_sem,Qa]
  obtain⟨rfl,rfl⟩:=hR;apply XN hb;refine OJ hb Qra rfl ?_ (Qyb _) rfl λd h hR=>?_
  ·simp only[go_sem,Qa,kx]
  obtain⟨rfl,rfl⟩:=hR;refine Zb hb ?_;simp only[go_sem,Qa,kx];refine OJ hb Qdw rfl ?_ (Qhu _) rfl λd h hR=>?_
  ·simp only[go_sem,Qa,kx]
  obtain⟨rfl,rfl⟩:=hR;refine Zb hb ?_;simp only[go_sem,Qa,kx];refine QvE Aj hb rfl rfl rfl rfl (KX (k:=9) rfl) ?_;apply XN hb;obtain⟨cm,em,PU,Wg⟩:=Kq.nil.set .i64 0 0 (.ptr (h.length+6+2) 0 0 0);obtain⟨G,hG⟩:∃G:List Ob,G=[bA c,QM .i64 0 [],⟨.one,0,1,1,λ_=>[.mref (h.length+1) 0]⟩,vA .nil,QM .i64 0 [],Dm (h.length+3) (h.length+3+1),vA .nil,QM .i64 0 [],Dm (h.length+6) (h.length+6+1),JI .i64 0 [] 0 (.ptr (h.length+6+2) 0 0 0),QM .i64 0 [],⟨.one,0,9,1,λ_=>[Qb c.t,Qb c.Vc,.ptr (h.length+1+1) 0 0 0,.mref (h.length+10) 0,.raw (.pointer none),.ptr (h.length+3+2) 0 0 0,.mref (h.length+9) 0,u64 0,u64 0]⟩]:=⟨_,rfl⟩;have My:G.length=12:=by rw[hG];rfl
  have gk:∀k o,G[k]? = some o->(h++G)[h.length+k]? = some o:=λk o e=>by rw[JT (by omega),Su];exact e
  have ht:=gk 2 _ (by rw[hG];rfl);have hm:=gk 1 _ (by rw[hG];rfl);have hs:=gk 11 _ (by rw[hG];rfl);have FO:=Qc hs;have R:WN (h++G) (h.length+2) []:=VN.toR (S:=λ_=>True) ⟨h.length+1,0,[],ht,hm,K7.nil,trivial,trivial⟩;have ha:=Qfj R Qhv;rw[hG]at ha;refine KW hb Qdx rfl ?_ ha rfl λd h' hR=>?_
  ·simp only[go_sem,Qa]
  rw[<- hG]at hR;obtain⟨rfl,hO,g,rfl⟩:=hR;refine Qf hb ?_;have Jk:((h++G)++g)[h.length+11]? = _:=(QC FO).trans hs;have yv:=Qc Jk;have hGL:(h++G).length=h.length+12:=by rw[ZX,My]
  simp only[go_sem,Jk,yv];obtain⟨Qye,af⟩:∃o,o=QS own h .no:=⟨_,rfl⟩;obtain⟨Z7,nO⟩:∃o,o=bB Qye (h.length+1):=⟨_,rfl⟩;have tg:∀k,k<12->Z7 (h.length+k)=if k<1 then .no else if k<3 then .tree else if k<6 then .lv else if k<9 then .Xk 0 else if k=9 then .mk else if k=10 then .mQ else .sc:=λk hk=>by
   rw[nO];unfold bB;by_cases k1:k<1
   ·rw[Qg (by omega),Qg k1,af];unfold QS;rw[Qg (by omega)]
   ·rw[Qd (by omega),Qd k1];by_cases k2:k<3
    ·rw[Qg (by omega),Qg k2]
    ·rw[Qd (by omega),Qd k2];by_cases k3:k<6
     ·rw[Qg (by omega),Qg k3]
     ·rw[Qd (by omega),Qd k3];by_cases k4:k<9
      ·rw[Qg (by omega),Qg k4]
      ·rw[Qd (by omega),Qd k4];by_cases k5:k=9
       ·rw[Qg (by omega),Qg k5]
       ·rw[Qd (by omega),Qd k5];by_cases k6:k=10
        ·rw[Qg (by omega),Qg k6]
        ·rw[Qd (by omega),Qd k6,Qg (by omega)]
  have tgo:∀l,h.length+12<=l->Z7 l=.on:=λl hl=>by
   rw[nO];unfold bB;rw[Qd (by omega),Qd (by omega),Qd (by omega),Qd (by omega),Qd (by omega),Qd (by omega),Qd (by omega)]
  have tgn:∀l,l<h.length->Z7 l=own l:=λl hl=>by
   rw[nO];unfold bB;rw[Qg (by omega),af];exact JY hl
  generalize hS:(⟨.one,0,9,1,_⟩:Ob)=S0;have BY:∀k o,k<11->G[k]? = some o->((h++G++g).set (h.length+11) S0)[h.length+k]? = some o:=λk o hk e=>(Qi (by omega)).trans ((QC (by omega)).trans (gk k o e));have g1:=BY 1 _ (by omega) (by rw[hG];rfl);have g2:=BY 2 _ (by omega) (by rw[hG];rfl);have g3:=BY 3 _ (by omega) (by rw[hG];rfl);have g4:=BY 4 _ (by omega) (by rw[hG];rfl);have g5:=BY 5 _ (by omega) (by rw[hG];rfl);have g6:=BY 6 _ (by omega) (by rw[hG];rfl);have g7:=BY 7 _ (by omega) (by rw[hG];rfl);have g8:=BY 8 _ (by omega) (by rw[hG];rfl);have g9:=BY 9 _ (by omega) (by rw[hG];rfl);have g10:=BY 10 _ (by omega) (by rw[hG];rfl);have g11:((h++G++g).set (h.length+11) S0)[h.length+11]? = some S0:=Qv yv;rw[PU]at g9;have nP:∀id n,Qm (M0 c).N id=some n->False:=by intro id n hn;cases hn
  refine .inl ⟨K,Z7,⟨h.length+2,h.length+10,(h++G).length+3,h.length+5,h.length+9,0,cm,[],em,λ_=>0,λ_=>0,λ_=>h.length+8⟩,h.length+11,rfl,⟨?_,(tg 11 (by omega)).trans rfl,⟨h.length+1,0,[],g2,g1,K7.nil,(tg 2 (by omega)).trans rfl,(tg 1 (by omega)).trans rfl⟩,g10,Kq.nil.to λk=>rfl,(tg 10 (by omega)).trans rfl,λid n hn=>(nP id n hn).elim,λid n hn=>(nP id n hn).elim,?_,nN (S:=λl=>Z7 l=.lv) g3 g4 g5 ((tg 3 (by omega)).trans rfl) ((tg 4 (by omega)).trans rfl) ((tg 5 (by omega)).trans rfl),g9,Wg.to λk=>?_,(tg 9 (by omega)).trans rfl,λid Zk=>?_,λid n hn=>(nP id n hn).elim⟩,Qyc c,⟨tgn,?_,?_⟩⟩
  ·rw[g11,<- hS];rfl
  ·exact hO.step λl hl ho=>⟨tgo l (by omega),Qi (by omega)⟩
  ·by_cases hk:k=0
   ·subst hk;rfl
   ·show (if k=0 then _ else _)=if decide (k=0)=true then _ else _;rw[Qd hk,Qd (by simpa using hk)]
  ·have:id=0:=by simpa[M0] using Zk
   subst this;exact nN (S:=λl=>Z7 l=.Xk 0) g6 g7 g8 ((tg 6 (by omega)).trans rfl) ((tg 7 (by omega)).trans rfl) ((tg 8 (by omega)).trans rfl)
  ·intro l hl Jw;exact(Qi (by omega)).trans ((QC (by omega)).trans (QC hl))
  ·simp only[Ki,ZX];omega
 ·have fin:∀d,d=D.tup [.raw (.pointer none),Qb 1]->∃g,h++[bA c]=h++g:=λ_ _=>⟨_,rfl⟩;cases d1:decide (c.t<1) with
  | true=>
   refine QU Qh 200 func36 rfl ntmps36 results36 rfl λbase w pl hb=>?_;simp only[go_sem,Qa,Qa,d1];exact .inr ⟨K,_,rfl⟩
  | false=>
   cases d2:decide (65536<c.t) with
   | true=>
    refine QU Qh 200 func36 rfl ntmps36 results36 rfl λbase w pl hb=>?_;simp only[go_sem,Qa,Qa,d1,d2];exact .inr ⟨K,_,rfl⟩
   | false=>
    cases d3:decide (c.Vc<1) with
    | true=>
     refine QU Qh 200 func36 rfl ntmps36 results36 rfl λbase w pl hb=>?_;simp only[go_sem,Qa,Qa,d1,d2,d3];exact .inr ⟨K,_,rfl⟩
    | false=>
     have d4:decide (16384<c.Vc)=true:=by
      have e1:=A4 d1;have e2:=A4 d2;have e3:=A4 d3;refine Q7 (vQ λe4=>K ⟨by omega,by omega,by omega,by omega⟩)
     refine QU Qh 200 func36 rfl ntmps36 results36 rfl λbase w pl hb=>?_;simp only[go_sem,Qa,Qa,d1,d2,d3,d4];exact .inr ⟨K,_,rfl⟩
def bC{l:List Int}{k}(h:k<l.length):l.getD k 0∈l:=by
 rw[Q8,QP h];exact qz h
def nQ(l:List Int)(F:List Ob)(f nf:Nat)(Qz:List D)(g:Int->Bool):Prop:=∀(h:List Ob) (n:Int),n∈l->KZ F h->Zg prog f h (Jj nf Qz [Qb n]) (λd=>d=QY (g n))
def Rq(l:List Int)(F:List Ob)(lo:Nat)(f nf:Nat)(Qz:List D)(g:Int->Bool):Prop:=∀(h:List Ob) (n:Int),n∈l->F.length<=h.length->(∀l,l<F.length->l≠lo->h[l]? = F[l]?)->Zg prog f h (Jj nf Qz [Qb n]) (λd=>d=QY (g n))
section
variable (h:List Ob)(l:List Int)(lo gn off:Nat)(row:Nat->List D)(hlen:l.length<1000000)(ho:(h.map Ob.ro)[lo]? = some ⟨.xm,gn,1,off+l.length,row⟩)(hr:∀i,i<l.length->row (off+i)=[Qb (l.getD i 0)])
include hlen ho hr
theorem Qyh(so:D)(f nf:Nat)(Qz:List D)(hf:Qq prog f)(Vd:J4 so=some (f,nf,Qz))(gk:Int->Bool)(hg:nQ l (h.map Ob.ro) f nf Qz gk):
  Zg prog 125 h [.ref lo gn off l.length,so] (λd=>d=Qb (vm gk l)):=by
 refine Zt Qh 200 func125 rfl ntmps125 results125 rfl λbase w pl F hF Za hb=>?_;rw[<- hF]at ho;have Qe:=Qc ho;simp only[go_sem,Qa,ho,Qe];refine ZZ (λk s=>(∀i,i<k->gk (l.getD i 0)=false)/\s=⟨[(0,.ref lo gn off l.length),(1,so),(7,Qb l.length),(8,Qb k)],F⟩) l.length QO ⟨λi hi=>absurd hi (by omega),rfl⟩ ?_;rintro k s hk ⟨hn,rfl⟩;apply Q1 hb;have Qe:=Qc ho;have Zq:=Vp (show k<4611686018427387904 by omega);first|refine Ad hk (λQs=>?_) (λQs=>?_)|refine Ae hk (λQs=>?_) (λQs=>?_)
 ·have vn:=hr k Qs;have qH:off+k<off+l.length:=by omega
  simp only[go_sem,Qa,ho,Qe,Qs,vn,qH];refine ZT hb hf Vd ?_ (hg F (l.getD k 0) (bC Qs) (by rw[<- hF];exact KZ.refl F)) rfl λd2 hR=>?_
  ·simp only[go_sem];exact Bz _
  subst hR;refine Qf hb ?_;cases zn:gk (l.getD k 0)
  ·simp only[go_sem,Qa];refine⟨Qs,_,QI.frame (by simp only[go_sem,Zq]),λi hi=>?_,rfl⟩;by_cases h1:i<k
   ·exact hn i h1
   ·have:i=k:=by omega
    subst this;exact zn
  ·rw[gH Qs hn zn];simp only[go_sem,Qa];exact⟨[],(Zd F).symm⟩
 ·have Qs:k=l.length:=by omega
  subst Qs;simp only[go_sem,Gj];rw[gI hn];apply Q1 hb;exact⟨[],(Zd F).symm⟩
end
section
variable (h:List Ob)(l:List Int)(lo gn off:Nat)(row:Nat->List D)(hlen:l.length<1000000)(ho:h[lo]? = some ⟨.arr,gn,1,off+l.length,row⟩)(hr:∀i,i<l.length->row (off+i)=[Qb (l.getD i 0)])
include hlen ho hr
theorem Qyi(so:D)(f nf:Nat)(Qz:List D)(hf:Qq prog f)(Vd:J4 so=some (f,nf,Qz))(gk:Int->Bool)(hg:Rq l h lo f nf Qz gk)(nR:Rq l (h.map Ob.ro) lo f nf Qz gk):
  MFn prog 131 h [.ref lo gn off l.length,so] (λd h'=>d=.ref lo gn off (ko gk l).length/\∃Kx,h'=h.set lo ⟨.arr,gn,1,off+l.length,Kx⟩/\∀i,i<(ko gk l).length->Kx (off+i)=[Qb ((ko gk l).getD i 0)]):=by
 refine QU Qh 200 func131 rfl ntmps131 results131 rfl λbase w pl hb=>?_;have Qe:=Qc ho;simp only[go_sem,Qa,ho,Qe];refine ZT hb OM rfl ?_ (Qyh h l lo gn off row hlen (ZM ho) hr so f nf Qz hf Vd gk (λh' n hm hx=>?_)) rfl λd2 hR=>?_
 ·simp only[go_sem];exact G9 so
 ·obtain⟨g,rfl⟩:=hx;exact nR _ n hm (by simp) λl hl _=>QC hl
 subst hR;have qC:h.set lo ⟨.arr,gn,1,off+l.length,row⟩=h:=xh λi=>by
  by_cases h1:lo=i
  ·subst h1;rw[WE Qe,ho]
  ·rw[JL h1]
 rcases QwT (g:=gk) (l:=l) with ⟨h1,h2⟩|⟨i,hi,h1,h2,h3⟩
 ·rw[h1,h2];refine Qf hb ?_;simp only[go_sem,Qa,ho,Qe];exact⟨row,qC.symm,hr⟩
 ·rw[h1];have QB:(((i:Nat):Int)==-1)=false:=by simp
  have Zq:=Vp (show i<4611686018427387904 by omega);refine Qf hb ?_;simp only[go_sem,Qa,ho,Qe,QB,Zq];refine ZZ (λk s=>∃r2:Nat->List D,(∀x,x<l.length->(r2 (off+x)).length=1)/\(∀j,j<((l.take (i+1+k)).filter λx=>!gk x).length->r2 (off+j)=[Qb (((l.take (i+1+k)).filter λx=>!gk x).getD j 0)])/\(∀j,i+1+k<=j->j<l.length->r2 (off+j)=[Qb (l.getD j 0)]) /\
   s=⟨[(0,.ref lo gn off l.length),(1,so),(5,Qb ((l.take (i+1+k)).filter λx=>!gk x).length),(6,Qb (i+1+k:Nat))],h.set lo ⟨.arr,gn,1,off+l.length,r2⟩⟩) (l.length - (i+1))
   (s0:=⟨[(0,.ref lo gn off l.length),(1,so),(5,Qb i),(6,Qb (i+1:Nat))],h⟩) QO ⟨row,λx hx=>by rw[hr x hx];rfl,?_,λj _ hj=>hr j hj,?_⟩ ?_
  ·rw[Gh,h3];intro j hj;simp at hj;rw[hr j (by omega)];simp[Q8,hj,show j<l.length by omega]
  ·rw[Gh,h3,qC];simp[Nat.min_eq_left (Nat.le_of_lt hi)]
  rintro k s hk ⟨r2,Vm,Jr,wN,rfl⟩;have Rf:=QwS l (λx=>!gk x) (i+1+k);obtain⟨M,hM⟩:∃M,M=(l.take (i+1+k)).filter λx=>!gk x:=⟨_,rfl⟩;obtain⟨j,hj⟩:∃j,j=i+1+k:=⟨_,rfl⟩;have Zu:lo<(h.set lo ⟨.arr,gn,1,off+l.length,r2⟩).length:=by simpa using Qe
  have X2:(h.set lo ⟨.arr,gn,1,off+l.length,r2⟩)[lo]? = some ⟨.arr,gn,1,off+l.length,r2⟩:=Qv Qe;rw[<- hj]at hM Jr wN Rf ⊢;rw[<- hM]at Jr Rf ⊢;have BZ:j<=l.length:=by omega
  have Zq:=Vp (show j<4611686018427387904 by omega);have Qyj:=Vp (show M.length<4611686018427387904 by omega);have Qyk:∀x,x<h.length->x≠lo->(h.set lo ⟨.arr,gn,1,off+l.length,r2⟩)[x]? = h[x]? := λx _ hx=>Qi (Q3 hx);refine Qf hb ?_;simp only[go_sem,Qa,X2,Zu];first|refine Ad BZ (λQs=>?_) (λQs=>?_)|refine Ae BZ (λQs=>?_) (λQs=>?_)
  ·have Ra:=wN j (QD _) Qs;have J3:off+j<off+l.length:=by omega
   simp only[go_sem,Qa,Qs,X2,Zu,Ra,J3];refine ZT hb hf Vd ?_ (hg _ (l.getD j 0) (bC Qs) (by simp) Qyk) rfl λd2 hR=>?_
   ·simp only[go_sem];exact Bz _
   subst hR;have Jg:=QgK l (λx=>!gk x) j Qs;rw[<- hM,show l.getD j default=l.getD j 0 from rfl]at Jg;cases zn:gk (l.getD j 0)
   ·rw[Qg (by simp only[zn,Gb])]at Jg;have ZB:M.length<l.length:=by omega
    have YK:off+M.length<off+l.length:=by omega
    have Qyl:List.drop 1 (r2 (off+M.length))=[]:=Sg (by rw[Vm _ ZB];exact QD _);refine Qf hb ?_;simp only[go_sem,Qa,X2,Zu,Zq,Qyj,ZB,YK,Qyl,Vm M.length ZB];have ej:i+1+(k+1)=j+1:=by omega
    have BS:(M++[l.getD j 0]).length=M.length+1:=by simp
    refine⟨by omega,_,QI.frame (fr':=[(0,.ref lo gn off l.length),(1,so),(5,Qb (M.length+1:Nat)),(6,Qb (j+1:Nat))]) (by simp only[go_sem]),λx=>bif x==off+M.length then [Qb (l.getD j 0)] else r2 x,?_,?_,?_,?_⟩
    ·intro x hx;show (bif off+x==off+M.length then [Qb (l.getD j 0)] else r2 (off+x)).length=1;cases (off+x==off+M.length)
     ·exact Vm x hx
     ·rfl
    ·rw[ej,Jg];intro x hx;simp at hx;by_cases nv:x=M.length
     ·subst nv;simp only[ID,jQ];simp;rfl
     ·have e1:(off+x==off+M.length)=false:=by simp;omega
      have:=Jr x (by omega);simp only[e1,qB,this];rw[Q8,Q8,Jy (by omega)];rfl
    ·intro x VK Wr;have e1:(off+x==off+M.length)=false:=by simp;omega
     simp only[e1,qB];exact wN x (by omega) Wr
    ·rw[ej,Jg,BS];rfl
   ·rw[Qd (by simp only[zn,Ca];decide)]at Jg;refine Qf hb ?_;simp only[go_sem,Qa,X2,Zu,Zq];refine⟨by omega,_,QI.frame (fr':=[(0,.ref lo gn off l.length),(1,so),(5,Qb M.length),(6,Qb (j+1:Nat))]) (by simp only[go_sem]),r2,Vm,?_,?_,?_⟩
    ·rw[show i+1+(k+1)=j+1 by omega,Jg];exact Jr
    ·intro x VK Wr;exact wN x (by omega) Wr
    ·rw[show i+1+(k+1)=j+1 by omega,Jg];rfl
  ·subst Qs;rw[zW]at hM;have qp:M=ko gk l:=hM;rw[<- qp];have J3:M.length<=l.length:=by omega
   refine Qf hb ?_;simp only[go_sem,Qa,X2,Zu,J3];refine gV Aj hb rfl X2 rfl rfl rfl rfl (by simp;omega) rfl rfl rfl rfl ?_;have hgS:∀r:Ob,(h.set lo r)[lo]? = some r:=λr=>Qv Qe;refine Qf hb ?_;simp only[go_sem,Qa,hgS,Qe,J3];refine⟨by simp,_,rfl,λx hx=>by rw[gT (by omega)];exact Jr x hx⟩
theorem Qyn(so:D)(f nf:Nat)(Qz:List D)(hf:Qq prog f)(Vd:J4 so=some (f,nf,Qz))(gk:Int->Bool)(hg:Rq l h lo f nf Qz gk)(nR:Rq l (h.map Ob.ro) lo f nf Qz gk):
  MFn prog 131 h [.ref lo gn off l.length,so] (λd h'=>d=.ref lo gn off (ko gk l).length/\∃Kx,h'=h.set lo ⟨.arr,gn,1,off+(ko gk l).length,Kx⟩/\∀i,i<(ko gk l).length->Kx (off+i)=[Qb ((ko gk l).getD i 0)]):=by
 refine MFn.cut (Qyi h l lo gn off row hlen ho hr so f nf Qz hf Vd gk hg nR) ?_;rintro d h' ⟨rfl,Kx,rfl,PX⟩;have:=Yo (λx=>!gk x) l;refine⟨lo,⟨.arr,gn,1,off+l.length,Kx⟩,off+(ko gk l).length,Qv (Qc ho),rfl,by simp only[ko];omega,rfl,Kx,by rw[Ji],PX⟩
end
section
variable (h:List Ob)(l:List Int)(hlen:l.length<1000000)
include hlen
theorem Qyo(so:D)(f nf:Nat)(Qz:List D)(hf:Qq prog f)(Vd:J4 so=some (f,nf,Qz))(gk:Int->Bool)(hg:nQ l (h.map Ob.ro) f nf Qz gk):
  Zg prog 125 h [ints l,so] (λd=>d=Qb (vm gk l)):=by
 refine Zt Qh 200 func125 rfl ntmps125 results125 rfl λbase w pl F hF Za hb=>?_;simp only[go_sem,Qa];refine ZZ (λk s=>(∀i,i<k->gk (l.getD i 0)=false)/\s=⟨[(0,ints l),(1,so),(7,Qb l.length),(8,Qb k)],F⟩) l.length QO ⟨λi hi=>absurd hi (by omega),rfl⟩ ?_;rintro k s hk ⟨hn,rfl⟩;apply Q1 hb;have Zq:=Vp (show k<4611686018427387904 by omega);first|refine Ad hk (λQs=>?_) (λQs=>?_)|refine Ae hk (λQs=>?_) (λQs=>?_)
 ·simp only[go_sem,Qa,Qs];refine ZT hb hf Vd ?_ (hg F (l.getD k 0) (bC Qs) (by rw[<- hF];exact KZ.refl F)) rfl λd2 hR=>?_
  ·simp only[go_sem];exact Bz _
  subst hR;refine Qf hb ?_;cases zn:gk (l.getD k 0)
  ·simp only[go_sem,Qa];refine⟨Qs,_,QI.frame (by simp only[go_sem,Zq]),λi hi=>?_,rfl⟩;by_cases h1:i<k
   ·exact hn i h1
   ·have:i=k:=by omega
    subst this;exact zn
  ·rw[gH Qs hn zn];simp only[go_sem,Qa];exact⟨[],(Zd F).symm⟩
 ·have Qs:k=l.length:=by omega
  subst Qs;simp only[go_sem,Gj];rw[gI hn];apply Q1 hb;exact⟨[],(Zd F).symm⟩
theorem nS(so:D)(f nf:Nat)(Qz:List D)(hf:Qq prog f)(Vd:J4 so=some (f,nf,Qz))(gk:Int->Bool)(hg:nQ l (h.map Ob.ro) f nf Qz gk):
  Zg prog 76 h [ints l,so] (λd=>d=QY (decide (0<=vm gk l))):=by
 refine Zt Qh 200 func76 rfl ntmps76 results76 rfl λbase w pl F hF Za hb=>?_;simp only[go_sem,Qa];refine ZT hb OM rfl ?_ (Qyo F l hlen so f nf Qz hf Vd gk (λh' n hm hx=>?_)) rfl λd2 hR=>?_
 ·simp only[go_sem];exact G9 so
 ·rw[hF,gG]at hx;exact hg h' n hm hx
 subst hR;apply Q1 hb;exact⟨[],(Zd F).symm⟩
end
structure ky (h:List Ob) (p:Nat) (L:Loc) (M:Qk):Prop where
 ob:(h.map Ob.ro)[p]? = some (zI M.lk L.t L.b L.o L.v L.m M.Ql M.acc).ro
 tr:WN h L.t M.T
 Vf:(h.map Ob.ro)[L.b]? = some (QM .i64 L.cb L.eb).ro
 YH:Kq L.eb (λid=>(Qm M.N id).map λ_=>.ptr (L.le id) 0 0 0)
 Jd:∀id n,Qm M.N id=some n->(h.map Ob.ro)[L.le id]? = some (XS (qD L.lq n) n).ro
 WO:∀id n,Qm M.N id=some n->n.c.leaf=true->∃k:Nat,n.c.ZF=k/\Mj h (L.lq id) k n.c.bytes n.q
 YI:Hl h L.o M.To M.A
 Xl:Dp h L.v M.Lv
 Vx:(h.map Ob.ro)[L.m]? = some (QM .i64 L.cm L.em).ro
 Xm:Kq L.em (λid=>if M.ks id=true then some (.ptr (L.lk id) 0 0 0) else none)
 kids:∀id,M.ks id=true->Dp h (L.lk id) (M.KT id)
def Zs.ro{own}{h}{p}{L}{M}(C:Zs own h p L M):ky h p L M:=
 ⟨ZM C.ob,C.tr.toR,ZM C.Vf,C.YH,λid n hn=>ZM (C.Jd id n hn).1,λid n hn hl=>by
  obtain⟨k,h1,h2⟩:=C.WO id n hn hl;exact⟨k,h1,h2.toR⟩,C.YI.toR,C.Xl.toR,ZM C.Vx,C.Xm,λid hk=>(C.kids id hk).toR⟩
def ky.more{h h':List Ob}{p}{L}{M}(e:∀(l:Nat) (o:Ob),(h.map Ob.ro)[l]? = some o->(h'.map Ob.ro)[l]? = some o)(C:ky h p L M):ky h' p L M:=
 ⟨e _ _ C.ob,C.tr.more e,e _ _ C.Vf,C.YH,λid n hn=>e _ _ (C.Jd id n hn),λid n hn hl=>by
  obtain⟨k,h1,h2⟩:=C.WO id n hn hl;exact⟨k,h1,h2.more e⟩,C.YI.more e,C.Xl.more e,e _ _ C.Vx,C.Xm,λid hk=>(C.kids id hk).more e⟩
def ky.look{h}{p}{L:Loc}{M:Qk}(C:ky h p L M){id}{n}(hn:Qm M.N id=some n):ZP L.eb id=some (.ptr (L.le id) 0 0 0):=by
 rw[C.YH.at_,hn];rfl
def Qyp{h:List Ob}{p bl}{L}{M:Qk}(C:ky h p L M){id}{n:Nd}(hn:Qm M.N id=some n)(hl:n.c.leaf=true)(Zk:n.c.iD=id)(Zo:(h.map Ob.ro)[bl]? = some ⟨.Wd,0,1,1,λ_=>[.ptr p 0 0 0]⟩):
  Zg prog 133 h [Qb id,.ptr bl 0 0 0] (λd=>d=QY (n.q.l.isEmpty)):=by
 have ho:=C.ob;have hy:=C.Vf;have he:=C.Jd id n hn;have ql:=C.look hn;obtain⟨k,hk,hQ⟩:=C.WO id n hn hl;have DI:qD L.lq n=.ptr (L.lq id) 0 0 0:=by unfold qD;rw[Qg hl,Zk]
 rw[DI]at he;have e:((n.q.l.length:Int)==0)=(n.q.l.isEmpty):=by
  cases n.q.l with
  | nil=>rfl
  | cons x l=>simp;omega
 refine Zt Qh 200 func133 rfl ntmps133 results133 rfl λbase w pl F hF Za hb=>?_;rw[<- hF]at Zo ho hy he;have wv:=Qc Zo;have Qe:=Qc ho;have Yc:=Qc hy;have Z5:=Qc he;simp only[go_sem,Qa,Zo,wv,ho,Qe,hy,Yc,he,Z5,ql];refine ZT hb Lz rfl ?_ (Ml (hQ.more (KM hF))) rfl λd hR=>?_
 ·simp only[go_sem,Qa,e]
 subst hR;refine Qf hb ?_;simp only[go_sem,Qa,e];exact⟨[],(Zd F).symm⟩
def Qyq(h)(so):Zg prog 131 h [.nil,so] (λd=>d=.nil):=by
 refine Zt Qh 200 func131 rfl ntmps131 results131 rfl λbase w pl F hF Za hb=>?_;simp only[go_sem,Qa];refine ZT hb OM rfl ?_ (Qey F so) rfl λd2 hR=>?_
 ·simp only[go_sem];exact G9 so
 subst hR;apply Q1 hb;exact⟨[],(Zd F).symm⟩
def jH(T:List Qn):List Int:=(T.filter (·.leaf)).map (·.iD)
def DL(M:Qk)(id:Int):Bool:=(QE M id).q.l.isEmpty
def Vi(M:Qk):List Int:=ko (DL M) (jH M.T)
def bD{M:Qk}(I:Qx M){id}(h:id∈jH M.T):∃n,Qm M.N id=some n/\n.c.leaf=true/\n.c.iD=id:=by
 obtain⟨c,hc,rfl⟩:=Jn.1 h;obtain⟨Ey,xB⟩:=JE.1 hc;have hf:=(Wy I.tree.rising).2 ⟨Ey,rfl⟩;rw[I.nodes,mR]at hf;cases hn:Qm M.N c.iD with
 | none=>rw[hn]at hf;cases hf
 | some n=>
  rw[hn,Kt,QV]at hf;exact⟨n,rfl,by rw[hf];exact xB,by rw[hf]⟩
section
variable {h:List Ob}{p:Nat}{L:Loc}{M:Qk}(C:ky h p L M)(I:Qx M)
include C I
theorem Qyr:Wf prog 79 h [.ptr p 0 0 0] (λd g=>JU h.length (h++g) d (Vi M)):=by
 have XD:(jH M.T).length<1000000:=by
  have:=Yo (λc:Qn=>c.leaf) M.T;have h2:=I.tree.len;simp only[jH,J6];omega
 have ho:=C.ob;refine Ai Qh 200 func79 rfl ntmps79 results79 rfl λbase w pl F hF Za hb=>?_;rw[<- hF]at ho;have Qe:=Qc ho;simp only[go_sem,Qa,ho,Qe];obtain⟨B,hB⟩:∃B:List Ob,B=[⟨.one,0,1,1,λ_=>[.ptr p 0 0 0]⟩]:=⟨_,rfl⟩;have hBl:B.length=1:=by rw[hB];rfl
 have Zo:B[0]? = some ⟨.one,0,1,1,λ_=>[.ptr p 0 0 0]⟩:=by rw[hB];rfl
 have bE:=hB;rw[<- bE];have CF:ky F p L M:=C.more (KM hF);have CB:ky (F++B) p L M:=CF.more Fq;obtain⟨m,c,es,ht,hm,hT⟩:=CB.tr;refine E9 hb Qrv rfl ?_ (Qt6 _ L.t m c hT (by have:=I.tree.len;omega) ht hm) rfl λd g hs=>?_
 ·simp only[go_sem]
 rw[show (M.T.filter (·.leaf)).map (·.iD)=jH M.T from rfl]at hs;rcases hs with ⟨rfl,h3⟩|⟨lo,gn,off,row,rfl,ZE,WC,hr⟩
 ·apply Q1 hb;refine ZT hb QdF rfl ?_ (Qyq _ (.clo 133 0 [.ptr F.length 0 0 0])) rfl λd2 hR=>?_
  ·simp only[go_sem,Qa]
  subst hR;apply Q1 hb;refine⟨_,rfl,.inl ⟨rfl,?_⟩⟩;rw[Vi,h3];rfl
 ·apply Q1 hb;have wD:F.length+1<=lo:=by
   have h4:(F++B).length<=lo:=ZE.1;rw[ZX,hBl]at h4;exact h4
  obtain⟨H,hH⟩:∃H,H=F++(B++g):=⟨_,rfl⟩;have hHF:∀x:Nat,x<F.length->H[x]? = F[x]? := λx hx=>by rw[hH];exact QC hx
  have KU:H[lo]? = some ⟨.arr,gn,1,off+(jH M.T).length,row⟩:=by rw[hH,<- Wb];exact WC
  have hHb:F.length+1<=H.length:=by rw[hH];simp[hBl]
  have Qyt:H[F.length]? = some ⟨.one,0,1,1,λ_=>[.ptr p 0 0 0]⟩:=by rw[hH,Ko rfl,QC (by omega)];exact Zo
  rw[<- hH];have tell:∀H2:List Ob,(∀x:Nat,H[x]? = H2[x]?\/(H2[x]? = (H[x]?).map Ob.ro))->H2.length=H.length->Rq (jH M.T) H2 lo 133 0 [.ptr F.length 0 0 0] (DL M):=by
   intro H2 h2 JA h' n Wl hle hag;have key:∀(x:Nat) (o:Ob),x<F.length+1->(H.map Ob.ro)[x]? = some o->(h'.map Ob.ro)[x]? = some o:=λx o hx e=>by
    have e1:=hag x (by omega) (by omega);rw[Ky]at e ⊢;rw[e1];rcases h2 x with e2|e2
    ·rw[<- e2];exact e
    ·rw[e2,NO,<- e];congr 1;funext o;exact ro_ro o
   obtain⟨nd,hn,hl,Zk⟩:=bD I Wl;have Z2:QE M n=nd:=by unfold QE;rw[hn];rfl
   have:=Qyp (CF.more (h':=h') λx o e=>key x o (by have:=Qc e;rw[J6]at this;omega) (by rw[Ky,hHF x (by have:=Qc e;rw[J6]at this;omega),<- Ky];exact e)) hn hl Zk (key F.length ⟨.Wd,0,1,1,λ_=>[.ptr p 0 0 0]⟩ (by omega) (by rw[Ky,Qyt];rfl));unfold DL;rw[Z2];exact this
  refine BD hb QdF (Qyn H (jH M.T) lo gn off row XD KU hr (.clo 133 0 [.ptr F.length 0 0 0]) 133 0 [.ptr F.length 0 0 0] Qrw rfl (DL M) (tell H (λx=>.inl rfl) rfl) (tell (H.map Ob.ro) (λx=>.inr (by rw[Ky])) (by simp))) λd h2 hR=>?_;obtain⟨rfl,Kx,rfl,PX⟩:=hR;apply Q1 hb;refine JU.done Za ⟨(B++g).set (lo - F.length) ⟨.arr,gn,1,off+(ko (DL M) (jH M.T)).length,Kx⟩,?_⟩ (.inr ⟨lo,gn,off,Kx,rfl,?_,?_,PX⟩)
  ·rw[hH,Ix _ _ (by omega:F.length<=lo)]
  ·exact⟨by have:=ZE.1;omega,ZE.2⟩
  ·exact Qv (Qc KU)
theorem nT:Zg prog 79 h [.ptr p 0 0 0] (λd=>d=ints (Vi M)):=JU.closed (Qyr C I)
end
def Rr(l:List Int)(v:Int):Int:=if l.contains v then (l.idxOf v:Nat) else -1
def Qyv(l:List Int)(id)(hl:l.length<2147483648):Zh prog 163 [ints l,Qb id] (Qo (Qb (Rr l id))):=by
 refine Zy 0 Qh 200 func163 rfl ntmps163 results163 rfl λbase w hb=>?_;simp only[go_sem];refine ZZ (λk s=>(l.take k).contains id=false/\s=⟨[(0,ints l),(1,Qb id),(6,ints l),(7,Qb l.length),(8,Qb k)],[]⟩) l.length (s0:=⟨[(0,ints l),(1,Qb id),(6,ints l),(7,Qb l.length),(8,Qb 0)],[]⟩) QO ⟨by simp,rfl⟩ ?_;rintro k s hk ⟨Jw,rfl⟩;apply ZC hb;refine vg (λh=>?_) (λh=>?_)
 ·have Qs:k<l.length:=by simpa using h
  have e1:=getD_take l 0 k Qs;simp only[go_sem,Qs];refine vg (λh2=>?_) (λh2=>?_)
  ·simp only[go_sem];have h3:l=l.take k++id::l.drop (k+1):=by
    conv=>lhs;rw[<- Ei (k+1) l,e1]
    simp at h2;simp[h2]
   have:Rr l id=k:=by
    have hc:l.contains id=true:=by rw[h3];simp
    have h4:¬ id∈l.take k:=by simpa using Jw
    rw[Rr,hc];simp only[K6];rw[h3,List.idxOf_append,Qd h4];simp;omega
   rw[this]
  ·simp only[go_sem];refine⟨by omega,_,QI.frame (by simp only[go_sem,Vp (show k<4611686018427387904 by omega)]),?_,rfl⟩;rw[e1];simp at Jw h2 ⊢;exact⟨Jw,h2⟩
 ·have Qs:k=l.length:=by simp at h;omega
  simp only[go_sem];apply ZC hb;subst Qs;simp at Jw;simp[Rr,Jw]
def Qyw(l:List Int)(id)(hl:l.length<2147483648):Zh prog 127 [ints l,Qb id] (Qo (QY (l.contains id))):=by
 refine Zy 0 Qh 200 func127 rfl ntmps127 results127 rfl λbase w hb=>?_;simp only[go_sem];refine Wj hb QrL (Qyv l id hl) (Qo.flat rfl) λd h hR=>?_;obtain⟨rfl,rfl⟩:=hR;apply ZC hb;unfold Rr;cases l.contains id<;>simp
def Qyx{h:List Ob}{p b1 b2}{L}{M}(C:ky h p L M)(I:Qx M)(id n)(h1:(h.map Ob.ro)[b1]? = some ⟨.Wd,0,1,1,λ_=>[.ptr p 0 0 0]⟩)(h2:(h.map Ob.ro)[b2]? = some ⟨.Wd,0,1,1,λ_=>[Qb id]⟩):
  Zg prog 126 h [Qb n,.ptr b1 0 0 0,.ptr b2 0 0 0] (λd=>d=QY ((up M.T n).contains id)):=by
 have ho:=C.ob;refine Zt Qh 200 func126 rfl ntmps126 results126 rfl λbase w pl F hF Za hb=>?_;rw[<- hF]at ho h1 h2;have Qe:=Qc ho;have QG:=Qc h1;have KE:=Qc h2;simp only[go_sem,Qa,ho,Qe,h1,QG,h2,KE];apply QH hb [0,1,2,3,4,6,1005,1007,8];simp only[go_sem,Qa,ho,Qe,h1,QG,h2,KE];refine XO hb Uu (iF (C.tr.more (KM hF)) I.tree.toTreeInv n) λd hR=>?_;subst hR;refine Zb hb ?_;simp only[go_sem,Qa,h1,QG,h2,KE];have xF:(Jq M.T 16 n).length<=16:=Ar (L:=M.T) (n:=16) (id:=n);refine Pc hb Qrt (Qyw (Jq M.T 16 n) id (by omega)) (Qo.flat rfl) λd h hR=>?_;obtain⟨rfl,rfl⟩:=hR;apply XN hb;exact⟨[],(Zd F).symm,rfl⟩
def Qyy(g)(l:List Int):(ko g l).length<=l.length:=Yo _ _
def yw(M:Qk)(id:Int):Bool:=(Vi M).any λn=>(up M.T n).contains id
def Qhx{M:Qk}(I:Qx M):(Vi M).length<=64:=by
 have h1:=Qyy (DL M) (jH M.T);have h2:=Yo (λc:Qn=>c.leaf) M.T;have h3:=I.tree.len;simp only[Vi,jH,J6]at h1 ⊢;omega
def Qyz{h}{p}{L}{M}(C:ky h p L M)(I:Qx M)(id):
  Zg prog 77 h [.ptr p 0 0 0,Qb id] (λd=>d=QY (yw M id)):=by
 have XD:=Qhx I;have ho:=C.ob;refine Ai Qh 200 func77 rfl ntmps77 results77 rfl λbase w pl F hF Za hb=>?_;rw[<- hF]at ho;have Qe:=Qc ho;simp only[go_sem,Qa,ho,Qe];have CF:ky F p L M:=C.more (KM hF);obtain⟨B,hB⟩:∃B:List Ob,B=[⟨.one,0,1,1,λ_=>[.ptr p 0 0 0]⟩,⟨.one,0,1,1,λ_=>[Qb id]⟩]:=⟨_,rfl⟩;have Zo:B[0]? = some ⟨.one,0,1,1,λ_=>[.ptr p 0 0 0]⟩:=by rw[hB];rfl
 have J3:B[1]? = some ⟨.one,0,1,1,λ_=>[Qb id]⟩:=by rw[hB];rfl
 have bE:=hB;simp only[go_sem]at bE;rw[<- bE];have CB:ky (F++B) p L M:=CF.more Fq;refine JJ hb fJ (nT CB I) λd hR=>?_;subst hR;apply Q1 hb;refine ZT hb OK rfl ?_ (nS (F++B) (Vi M) (by omega) (.clo 126 0 [.ptr F.length 0 0 0,.ptr (F.length+1) 0 0 0]) 126 0 [.ptr F.length 0 0 0,.ptr (F.length+1) 0 0 0] Qrs rfl (λn=>(up M.T n).contains id) (λh' n hm hx=>?_)) rfl λd2 hR=>?_
 ·simp only[go_sem,Qa]
 ·have key:∀(l:Nat) (o:Ob),((F++B).map Ob.ro)[l]? = some o->(h'.map Ob.ro)[l]? = some o:=λl o e=>by
   obtain⟨g,rfl⟩:=hx;have e2:=ZM ((QC (Qc e)).trans e:((F++B).map Ob.ro++g)[l]? = some o);rw[e2];rw[Ky]at e;obtain⟨o2,h2,rfl⟩:=XA.1 e;rw[ro_ro]
  exact Qyx (CB.more key) I id n (key _ _ (by rw[Ky,Ko rfl,Zo];rfl)) (key _ _ (by rw[Ky,KX rfl,J3];rfl))
 subst hR;apply Q1 hb;refine⟨B,rfl,?_⟩;rw[OT];rfl
def QyA{h:List Ob}{t1 t2 b1 b2}{A B:List Qn}(RA:WN h t1 A)(RB:WN h t2 B)(id)(h1:(h.map Ob.ro)[b1]? = some ⟨.Wd,0,1,1,λ_=>[.ptr t1 0 0 0]⟩)(h2:(h.map Ob.ro)[b2]? = some ⟨.Wd,0,1,1,λ_=>[.ptr t2 0 0 0]⟩)(hA:A.length<100000)(hB:B.length<100000):
  Zg prog 129 h [Qb id,.ptr b1 0 0 0,.ptr b2 0 0 0] (λd=>d=QY (FG A id || FG B id)):=by
 obtain⟨x,hx⟩:∃x,x=(Qy A id).getD default:=⟨_,rfl⟩;obtain⟨y,hy⟩:∃y,y=(Qy B id).getD default:=⟨_,rfl⟩;have e1:FG A id=decide (1<QZ x.rt):=by rw[hx];rfl
 have e2:FG B id=decide (1<QZ y.rt):=by rw[hy];rfl
 rw[e1,e2];refine Zt Qh 200 func129 rfl ntmps129 results129 rfl λbase w pl F hF Za hb=>?_;rw[<- hF]at h1 h2;have QG:=Qc h1;have KE:=Qc h2;simp only[go_sem,Qa,h1,QG,h2,KE];have hgA:=LZ (RA.more (KM hF)) id;have hgB:=λG:List Ob=>LZ ((RB.more (KM hF)).more (Fq (g:=G))) id;rw[<- hx]at hgA;simp only[<- hy]at hgB;refine JJ hb j4 hgA λd hR=>?_;subst hR;refine Qf hb ?_;simp only[go_sem,Qa,h1,QG,h2,KE];refine JJ hb j4 (hgB _) λd hR=>?_;subst hR;refine Qf hb ?_;simp only[go_sem,Qa,h1,QG,h2,KE];cases dr:decide (1<QZ x.rt) with
 | true=>
  refine ZA hb Bu rfl ?_ (CT x) (Qo.flat rfl) rfl λd h hR=>?_
  ·simp only[go_sem,Qa,dr]
  obtain⟨rfl,rfl⟩:=hR;refine Qf hb ?_;simp only[go_sem,Qa,dr];exact⟨_,rfl⟩
 | false=>
  refine ZA hb Bu rfl ?_ (CT x) (Qo.flat rfl) rfl λd h hR=>?_
  ·simp only[go_sem,Qa,dr]
  obtain⟨rfl,rfl⟩:=hR;refine Qf hb ?_;simp only[go_sem,Qa,dr];refine Ax hb Bu (CT y) (Qo.flat rfl) λd h hR=>?_;obtain⟨rfl,rfl⟩:=hR;apply Q1 hb;exact⟨_,rfl⟩
def nU{h}{t1 t2}{A B:List Qn}(RA:WN h t1 A)(RB:WN h t2 B)(hA:A.length<100000)(hB:B.length<100000)(hT:(JX A B).length<1000000):
  Zg prog 78 h [.ptr t1 0 0 0,.ptr t2 0 0 0] (λd=>d=QY (aR A B)):=by
 refine Ai Qh 200 func78 rfl ntmps78 results78 rfl λbase w pl F hF Za hb=>?_;simp only[go_sem,Qa];obtain⟨G,hG⟩:∃G:List Ob,G=[⟨.one,0,1,1,λ_=>[.ptr t1 0 0 0]⟩,⟨.one,0,1,1,λ_=>[.ptr t2 0 0 0]⟩]:=⟨_,rfl⟩;have Zo:G[0]? = some ⟨.one,0,1,1,λ_=>[.ptr t1 0 0 0]⟩:=by rw[hG];rfl
 have J3:G[1]? = some ⟨.one,0,1,1,λ_=>[.ptr t2 0 0 0]⟩:=by rw[hG];rfl
 rw[<- hG];have PV:WN (F++G) t1 A:=(RA.more (KM hF)).more Fq;have PW:WN (F++G) t2 B:=(RB.more (KM hF)).more Fq;refine JJ hb Qdz (QgS PV PW hA hB) λd hR=>?_;subst hR;apply Q1 hb;refine ZT hb OK rfl ?_ (nS (F++G) (JX A B) hT (.clo 129 0 [.ptr F.length 0 0 0,.ptr (F.length+1) 0 0 0]) 129 0 [.ptr F.length 0 0 0,.ptr (F.length+1) 0 0 0] Qru rfl (λid=>FG A id || FG B id) (λh' n hm hx=>?_)) rfl λd2 hR=>?_
 ·simp only[go_sem,Qa]
 ·have key:∀(l:Nat) (o:Ob),((F++G).map Ob.ro)[l]? = some o->(h'.map Ob.ro)[l]? = some o:=λl o e=>by
   obtain⟨g,rfl⟩:=hx;have e2:=ZM ((QC (Qc e)).trans e:((F++G).map Ob.ro++g)[l]? = some o);rw[e2];rw[Ky]at e;obtain⟨o2,h2,rfl⟩:=XA.1 e;rw[ro_ro]
  exact QyA (PV.more key) (PW.more key) n (key _ _ (by rw[Ky,Ko rfl,Zo];rfl)) (key _ _ (by rw[Ky,KX rfl,J3];rfl)) hA hB
 subst hR;apply Q1 hb;refine⟨G,rfl,?_⟩;rw[OT];rfl
def XT(c:Qn):Nd:=⟨c,0,default,default,default,⟨[],0,0,0,0,0,0⟩⟩
def QhA(h:List Ob)(c:Qn)(d:D)(h':List Ob):Prop:=
 d=.ptr (h.length+1) 0 0 0/\∃g lq,h'=h++g/\2<=g.length/\h'[h.length+1]? = some (XS (if c.leaf=true then .ptr lq 0 0 0 else .raw (.pointer none)) (XT c)) /\
  (c.leaf=true->∃k:Nat,c.ZF=k/\kg (λl=>h.length+2<=l) h' lq k c.bytes ⟨[],0,0,0,0,0,0⟩)
@[go_sem] theorem QFz(d d2)(n):d2::List.drop 1 (Kg d n)=Kg d2 n:=rfl
def QyB(h)(c:Qn)(hl:c.leaf=true->1<=c.ZF/\c.ZF<=64/\1<=c.bytes/\c.bytes<=1048576):
  MFn prog 81 h [Xd c] (λd h'=>QhA h c d h'):=by
 obtain⟨i0,p0,lf,r1,r2,r3,k0,b0⟩:=c;cases lf with
 | false=>
  refine QU Qh 200 func81 rfl ntmps81 results81 rfl λbase w pl hb=>?_;simp only[go_sem,Qa,Qa];refine⟨rfl,_,0,rfl,by simp,?_,λe=>by cases e⟩;rw[KX (k:=1) rfl];show some (_:Ob)=some (XS (.raw (.pointer none)) _);refine congrArg some ?_;unfold XS Kg XT;refine congrArg (Ob.mk .one 0 60 1) ?_;funext _;dsimp only;simp only[Qn.cells,XW,YT];rfl
 | true=>
  obtain⟨l1,l2,l3,l4⟩:=hl rfl;dsimp only at l1 l2 l3 l4;obtain⟨k,rfl⟩:∃k:Nat,k0=k:=⟨k0.toNat,by omega⟩;refine QU Qh 200 func81 rfl ntmps81 results81 rfl λbase w pl hb=>?_;simp only[go_sem,Qa,Qa];generalize hE1:(⟨.one,0,14,1,_⟩:Ob)=E1;generalize hE2:(⟨.one,0,60,1,_⟩:Ob)=E2;have hE:E2=XS (.raw (.pointer none)) (XT ⟨i0,p0,true,r1,r2,r3,(k:Int),b0⟩):=by
   rw[<- hE2];unfold XS Kg XT;refine congrArg (Ob.mk .one 0 60 1) ?_;funext _;dsimp only;simp only[Qn.cells,XW,YT];rfl
  obtain⟨G,hG⟩:∃G:List Ob,G=[E1,E2]:=⟨_,rfl⟩;have My:G.length=2:=by rw[hG];rfl
  have hq:=Qva (h++G) k b0 (by omega) (by omega) l3 l4;have g1:(h++G)[h.length+1]? = some (XS (.raw (.pointer none)) (XT ⟨i0,p0,true,r1,r2,r3,(k:Int),b0⟩)):=by rw[hG,<- hE];exact KX (k:=1) rfl
  have yc:=hq;rw[hG]at yc;refine Jl hb Qrx yc λd h2 hR=>?_;rw[<- hG]at hR;obtain⟨rfl,Q,g,rfl,hg⟩:=hR;have gg:(G++g)[1]? = some (XS (.raw (.pointer none)) (XT ⟨i0,p0,true,r1,r2,r3,(k:Int),b0⟩)):=by rw[hG,<- hE];rfl
  have QhB:=Qc gg;refine Qf hb ?_;simp only[go_sem,Qa,gg,QhB];have hgl:(h++G).length=h.length+2:=by rw[ZX,My]
  refine⟨rfl,_,h.length+G.length+2,rfl,by simp[My],?_,λ_=>⟨k,rfl,?_⟩⟩
  ·rw[KX (k:=1) rfl];rw[Qv QhB];rfl
  ·rw[hgl]at Q;rw[My];refine(Q.step (S':=λl=>h.length+2<=l) λl Zu JA=>⟨JA,?_⟩);have Dj:h.length+2<=l:=JA;have e:∀X:Ob,h++(G++g).set 1 X=(h++G++g).set (h.length+1) X:=λX=>by
    rw[Wb,Ix (s:=h) (h.length+1) X (by omega),Su]
   rw[e];exact Qi (by omega)
def HV{own:Nat->Tag}{h:List Ob}{l:Nat}{t0:Tag}(hl:own l=t0)(o:Ob):∀t,t≠t0->∀j,j<h.length->own j=t->own j=t/\(h.set l o)[j]? = h[j]? :=
 λt ht j _ h1=>⟨h1,Qi (λe=>ht (by rw[<- h1,<- e,hl]))⟩
def qq{own:Nat->Tag}{h:List Ob}{l:Nat}{t0:Tag}(hl:own l=t0)(o:Ob){j:Nat}{x:Ob}{t:Tag}(h1:own j=t)(ht:t≠t0)(h2:h[j]? = some x):(h.set l o)[j]? = some x:=
 ((HV hl o t ht j (Qc h2) h1).2).trans h2
section
variable {own:Nat->Tag}{h:List Ob}{p:Nat}{L:Loc}{M:Qk}(C:Zs own h p L M)
include C
theorem Zs.congrN{N}(e:∀id,Qm N id=Qm M.N id):Zs own h p L { M with N:=N }:=
 ⟨C.ob,C.op,C.tr,C.Vf,C.YH.to λid=>by dsimp only;rw[e],C.ow,λid n hn=>C.Jd id n (by rw[<- e];exact hn),λid n hn=>C.WO id n (by rw[<- e];exact hn),C.YI,C.Xl,C.Vx,C.Xm,C.om,C.kids,λid n hn=>C.Ye id n (by rw[<- e];exact hn)⟩
theorem Zs.QyE{t2}{T2}(R:VN (λl=>own l=.tree) h t2 T2):Zs own (h.set p (zI M.lk t2 L.b L.o L.v L.m M.Ql M.acc)) p { L with t:=t2 } { M with T:=T2 }:=by
 have r:=HV (h:=h) C.op (zI M.lk t2 L.b L.o L.v L.m M.Ql M.acc);exact⟨Qv (Qc C.ob),C.op,R.step (r _ (by simp)),qq C.op _ C.ow (by simp) C.Vf,C.YH,C.ow,λj m hm=>⟨qq C.op _ (C.Jd j m hm).2 (by simp) (C.Jd j m hm).1,(C.Jd j m hm).2⟩,λj m hm hl=>by
  obtain⟨k,h1,h2⟩:=C.WO j m hm hl;exact⟨k,h1,h2.step (r _ (by simp))⟩,C.YI.step (r _ (by simp)),C.Xl.step (r _ (by simp)),qq C.op _ C.om (by simp) C.Vx,C.Xm,C.om,λj hj=>(C.kids j hj).step (r _ (by simp)),C.Ye⟩
theorem Zs.QyF{o2}{T2}{A2}(R:qM (λl=>own l=.on) h o2 T2 A2):Zs own (h.set p (zI M.lk L.t L.b o2 L.v L.m M.Ql M.acc)) p { L with o:=o2 } { M with To:=T2,A:=A2 }:=by
 have r:=HV (h:=h) C.op (zI M.lk L.t L.b o2 L.v L.m M.Ql M.acc);exact⟨Qv (Qc C.ob),C.op,C.tr.step (r _ (by simp)),qq C.op _ C.ow (by simp) C.Vf,C.YH,C.ow,λj m hm=>⟨qq C.op _ (C.Jd j m hm).2 (by simp) (C.Jd j m hm).1,(C.Jd j m hm).2⟩,λj m hm hl=>by
  obtain⟨k,h1,h2⟩:=C.WO j m hm hl;exact⟨k,h1,h2.step (r _ (by simp))⟩,R.step (r _ (by simp)),C.Xl.step (r _ (by simp)),qq C.op _ C.om (by simp) C.Vx,C.Xm,C.om,λj hj=>(C.kids j hj).step (r _ (by simp)),C.Ye⟩
end
def vM(N:List Nd)(id:Int):List Nd:=N.filter λn=>n.c.iD != id
def HW(N)(id j):Qm (vM N id) j=if j=id then none else Qm N j:=by
 unfold Qm vM;rw[List.find?_filter];split
 ·rename_i e;subst e;rw[zU];intro x _;simp
 ·rename_i e;congr 1;funext x;cases h1:x.c.iD==j with
  | false=>simp[h1]
  | true=>
   have:x.c.iD=j:=by simpa using h1
   simp[this,e]
section
variable {own:Nat->Tag}{h:List Ob}{p:Nat}{L:Loc}{M:Qk}(C:Zs own h p L M)
include C
theorem Zs.QyG(id):Zs own (h.set L.b (QM .i64 L.cb (JB L.eb id))) p { L with eb:=JB L.eb id } { M with N:=vM M.N id }:=by
 have r:=HV (h:=h) C.ow (QM .i64 L.cb (JB L.eb id));have f:∀j m,Qm (vM M.N id) j=some m->Qm M.N j=some m:=λj m hm=>by
  rw[HW]at hm;split at hm
  ·cases hm
  ·exact hm
 refine⟨qq C.ow _ C.op (by simp) C.ob,C.op,C.tr.step (r _ (by simp)),Qv (Qc C.Vf),(C.YH.del id).to λj=>?_,C.ow,λj m hm=>⟨qq C.ow _ (C.Jd j m (f j m hm)).2 (by simp) (C.Jd j m (f j m hm)).1,(C.Jd j m (f j m hm)).2⟩,λj m hm hl=>?_,C.YI.step (r _ (by simp)),C.Xl.step (r _ (by simp)),qq C.ow _ C.om (by simp) C.Vx,C.Xm,C.om,λj hj=>(C.kids j hj).step (r _ (by simp)),λj m hm=>C.Ye j m (f j m hm)⟩
 ·dsimp only;rw[HW];split
  ·rfl
  ·rfl
 ·obtain⟨k,h1,h2⟩:=C.WO j m (f j m hm) hl;exact⟨k,h1,h2.step (r _ (by simp))⟩
theorem Zs.QyH(id):Zs own (h.set L.m (QM .i64 L.cm (JB L.em id))) p { L with em:=JB L.em id } { M with ks:=λj=>if j=id then false else M.ks j }:=by
 have r:=HV (h:=h) C.om (QM .i64 L.cm (JB L.em id));refine⟨qq C.om _ C.op (by simp) C.ob,C.op,C.tr.step (r _ (by simp)),qq C.om _ C.ow (by simp) C.Vf,C.YH,C.ow,λj m hm=>⟨qq C.om _ (C.Jd j m hm).2 (by simp) (C.Jd j m hm).1,(C.Jd j m hm).2⟩,λj m hm hl=>?_,C.YI.step (r _ (by simp)),C.Xl.step (r _ (by simp)),Qv (Qc C.Vx),(C.Xm.del id).to λj=>?_,C.om,λj hj=>?_,C.Ye⟩
 ·obtain⟨k,h1,h2⟩:=C.WO j m hm hl;exact⟨k,h1,h2.step (r _ (by simp))⟩
 ·dsimp only;by_cases e:j=id<;>simp[e]
 ·dsimp only at hj;by_cases e:j=id
  ·rw[Qg e]at hj;cases hj
  ·rw[Qd e]at hj;exact(C.kids j hj).step (r _ (by simp))
theorem Zs.QyI(id){k}(T:V7 (λl=>own l=.Xk id) h k []):∃c es,JI .i64 L.cm L.em id (.ptr k 0 0 0)=QM .i64 c es /\
  Zs own (h.set L.m (JI .i64 L.cm L.em id (.ptr k 0 0 0))) p { L with cm:=c,em:=es,lk:=λj=>if j=id then k else L.lk j } { M with ks:=λj=>if j=id then true else M.ks j,KT:=λj=>if j=id then [] else M.KT j }:=by
 obtain⟨c,es,h1,h2⟩:=C.Xm.set .i64 L.cm id (.ptr k 0 0 0);refine⟨c,es,h1,?_⟩;rw[h1];have r:=HV (h:=h) C.om (QM .i64 c es);refine⟨qq C.om _ C.op (by simp) C.ob,C.op,C.tr.step (r _ (by simp)),qq C.om _ C.ow (by simp) C.Vf,C.YH,C.ow,λj m hm=>⟨qq C.om _ (C.Jd j m hm).2 (by simp) (C.Jd j m hm).1,(C.Jd j m hm).2⟩,λj m hm hl=>?_,C.YI.step (r _ (by simp)),C.Xl.step (r _ (by simp)),Qv (Qc C.Vx),h2.to λj=>?_,C.om,λj hj=>?_,C.Ye⟩
 ·obtain⟨k,h1,h2⟩:=C.WO j m hm hl;exact⟨k,h1,h2.step (r _ (by simp))⟩
 ·dsimp only;by_cases e:j=id<;>simp[e]
 ·dsimp only at hj ⊢;by_cases e:j=id
  ·subst e;rw[Qg rfl,Qg rfl];exact T.step (r _ (by simp))
  ·rw[Qd e]at hj;rw[Qd e,Qd e];exact(C.kids j hj).step (r _ (by simp))
theorem Zs.QyJ{n:Nd}{e q}(Lc:Qm M.N n.c.iD=none)(he:h[e]? = some (XS (if n.c.leaf=true then .ptr q 0 0 0 else .raw (.pointer none)) n))(ho:own e=.vk n.c.iD)
  (hq:n.c.leaf=true->∃k:Nat,n.c.ZF=k/\kg (λl=>own l=.YG n.c.iD) h q k n.c.bytes n.q) (Js:n.Ok):∃c es,JI .i64 L.cb L.eb n.c.iD (.ptr e 0 0 0)=QM .i64 c es /\
  Zs own (h.set L.b (JI .i64 L.cb L.eb n.c.iD (.ptr e 0 0 0))) p { L with cb:=c,eb:=es,le:=λj=>if j=n.c.iD then e else L.le j,lq:=λj=>if j=n.c.iD then q else L.lq j } { M with N:=n::M.N }:=by
 obtain⟨c,es,h1,h2⟩:=C.YH.set .i64 L.cb n.c.iD (.ptr e 0 0 0);refine⟨c,es,h1,?_⟩;rw[h1];have r:=HV (h:=h) C.ow (QM .i64 c es);have hf:∀j,Qm (n::M.N) j=if j=n.c.iD then some n else Qm M.N j:=λj=>by
  unfold Qm;rw[kJ];by_cases e:j=n.c.iD
  ·subst e;rw[Qg rfl,ID]
  ·rw[Qd e,Xt (λx=>e x.symm)]
 have Zk:∀j m,Qm M.N j=some m->m.c.iD=j:=λj m hm=>Qx.id hm;have qe:∀j m,j≠n.c.iD->Qm M.N j=some m->qD (λj=>if j=n.c.iD then q else L.lq j) m=qD L.lq m:=λj m hj hm=>by
  unfold qD;simp only[Zk j m hm,Qd hj]
 refine⟨qq C.ow _ C.op (by simp) C.ob,C.op,C.tr.step (r _ (by simp)),Qv (Qc C.Vf),h2.to λj=>?_,C.ow,λj m hm=>?_,λj m hm hl=>?_,C.YI.step (r _ (by simp)),C.Xl.step (r _ (by simp)),qq C.ow _ C.om (by simp) C.Vx,C.Xm,C.om,λj hj=>(C.kids j hj).step (r _ (by simp)),λj m hm=>?_⟩
 ·dsimp only;rw[hf];by_cases e:j=n.c.iD
  ·rw[Qg e,Qg e,Qg e];rfl
  ·rw[Qd e,Qd e,Qd e]
 ·dsimp only at hm ⊢;rw[hf]at hm;by_cases e:j=n.c.iD
  ·rw[Qg e]at hm;cases hm;rw[Qg e,e];refine⟨?_,ho⟩;rw[qq C.ow _ ho (by simp) he];unfold qD;dsimp only;rw[Qg rfl]
  ·rw[Qd e]at hm;rw[Qd e,qe j m e hm];exact⟨qq C.ow _ (C.Jd j m hm).2 (by simp) (C.Jd j m hm).1,(C.Jd j m hm).2⟩
 ·dsimp only at hm ⊢;rw[hf]at hm;by_cases e:j=n.c.iD
  ·rw[Qg e]at hm;cases hm;rw[Qg e,e];obtain⟨k,g1,g2⟩:=hq hl;exact⟨k,g1,g2.step (r _ (by simp))⟩
  ·rw[Qd e]at hm;rw[Qd e];obtain⟨k,g1,g2⟩:=C.WO j m hm hl;exact⟨k,g1,g2.step (r _ (by simp))⟩
 ·dsimp only at hm;rw[hf]at hm;by_cases e:j=n.c.iD
  ·rw[Qg e]at hm;cases hm;exact Js
  ·rw[Qd e]at hm;exact C.Ye j m hm
end
def JS(T2:List Qn)(M:Qk)(id:Int):Qk:=
 match Qy T2 id with
 | none=>{ M with N:=vM M.N id,ks:=λj=>if j=id then false else M.ks j }
 | some c=>if c.leaf=true then { M with N:=XT c::vM M.N id,ks:=λj=>if j=id then false else M.ks j }
  else { M with N:=XT c::vM M.N id,ks:=λj=>if j=id then true else M.ks j,KT:=λj=>if j=id then [] else M.KT j }
def Vt(M:Qk)(T2:List Qn):Qk:=(JX M.T T2).foldl (JS T2) { M with T:=T2 }
def jJ(M:Qk)(T2:List Qn)(b:Bool):Bool:=(JX M.T T2).any (yw M) || (aR M.T T2&&(!b || decide (0<(Vi M).length)))
def Yh(M:Qk)(T2:List Qn):List Nd:=T2.map λc=>QE (Vt M T2) c.iD
def kz(T2:List Qn)(A:List Int)(id:Int):List Int:=if 1<QZ ((Qy T2 id).getD default).ls then id::A else A
def Yi(M:Qk)(T2:List Qn):Qk:={ Vt M T2 with N:=Yh M T2,To:=T2,A:=[] }
def vN(M:Qk)(T2:List Qn):Qk:={ Yi M T2 with A:=(Vi (Yi M T2)).foldl (kz T2) [] }
def zN(M:Qk)(b:Bool)(l:List Z3):Int:=
 if yh M.T M.lk.t l≠0 then yh M.T M.lk.t l else if jJ M (KG M.T l) b=true then 24 else 0
def yx(M:Qk)(l:List Z3):Nat:=if yh M.T M.lk.t l≠0 then MB M.T l else 0
def KP(M:Qk)(b:Bool)(l:List Z3):Qk:=if zN M b l=0 then vN M (KG M.T l) else M
def QyK(h)(c:Qn)(hl:c.leaf=true->1<=c.ZF/\c.ZF<=64/\1<=c.bytes/\c.bytes<=1048576):
  Wf prog 81 h [Xd c] (λd g=>QhA h c d (h++g)):=by
 refine MFn.mono (QyB (h.map Ob.ro) c hl) ?_;rintro d h' ⟨rfl,g,lq,rfl,h1,h2,h3⟩;refine⟨g,rfl,by rw[J6],g,lq,rfl,h1,?_,λjw=>?_⟩
 ·rw[J6]at h2;rw[JT (by rw[J6];omega),J6]at h2;rw[JT (by omega)];exact h2
 ·obtain⟨k,hk,Q⟩:=h3 jw;refine⟨k,hk,Q.step λl _ JA=>?_⟩;have Dj:h.length+2<=l:=by
   have:(h.map Ob.ro).length+2<=l:=JA;rwa [J6]at this
  exact⟨Dj,by rw[JT (by omega),JT (by rw[J6];omega),J6]⟩
def QhC{c:Qn}(h:Qn.Ok c):(XT c).Ok:=
 have z:(0:Nat)<18446744073709551616:=by decide
 ⟨z,⟨⟨Ln.jz,Ln.jz⟩,⟨Ln.jz,Ln.jz⟩,z,JQ _,JQ _⟩,⟨⟨Ln.jz,Ln.jz⟩,z⟩,⟨⟨Ln.jz,Ln.jz⟩,JQ _⟩,h⟩
def QyL(A B:List Qn):(JX A B).length<=A.length+B.length:=by
 have h1:=Mw (λi=>(sorted (wO A B)).getD i 0) (sorted (wO A B)).length;have h2:(sorted (wO A B)).length=(wO A B).length:=Fe _;have h3:(wO A B).length<=(A.map (·.iD)++B.map (·.iD)).length:=Yo _ _;have h4:(JX A B).length<=(sorted (wO A B)).length:=by simpa[JX,qP] using h1
 simp at h3;omega
section
variable {T2:List Qn}(hr:Wx T2)
include hr
theorem QyM(M:Qk)(j id:Int):Qm (JS T2 M j).N id=if id=j then (Qy T2 id).map XT else Qm M.N id:=by
 unfold JS;cases hf:Qy T2 j with
 | none=>
  dsimp only;rw[HW];by_cases e:id=j
  ·subst e;rw[Qg rfl,Qg rfl,hf];rfl
  ·rw[Qd e,Qd e]
 | some c=>
  have bF:=((Wy hr).1 hf).2;have key:Qm (XT c::vM M.N j) id=if id=j then (Qy T2 id).map XT else Qm M.N id:=by
   by_cases e:id=j
   ·subst e;rw[Qg rfl,hf];unfold Qm;rw[kJ,show ((XT c).c.iD==id)=true by rw[show (XT c).c.iD=c.iD from rfl,bF];exact ID _];rfl
   ·rw[Qd e];have:Qm (XT c::vM M.N j) id=Qm (vM M.N j) id:=by
     unfold Qm;rw[kJ,show ((XT c).c.iD==id)=false by rw[show (XT c).c.iD=c.iD from rfl,bF];exact Xt (λx=>e x.symm)]
    rw[this,HW,Qd e]
  dsimp only;split
  ·exact key
  ·exact key
theorem FP(id:Int):∀(l:List Int) (M:Qk),Qm (l.foldl (JS T2) M).N id=if id∈l then (Qy T2 id).map XT else Qm M.N id
 | [],M=>by simp
 | j::l,M=>by
  rw[xj,FP id l,QyM hr];by_cases h1:id∈l
  ·rw[Qg h1,Qg (Ks _ h1)]
  ·rw[Qd h1];by_cases h2:id=j
   ·rw[Qg h2,Qg (by rw[h2];exact Va)]
   ·rw[Qd h2,Qd (by simp[h1,h2])]
omit hr in
theorem QyN(M:Qk)(j id:Int):(JS T2 M j).ks id=if id=j then (match Qy T2 id with|none=>false|some c=>!c.leaf) else M.ks id:=by
 unfold JS;by_cases e:id=j
 ·subst e;rw[Qg rfl];cases hf:Qy T2 id with
  | none=>simp
  | some c=>cases hl:c.leaf<;>simp[hl]
 ·rw[Qd e];cases hf:Qy T2 j with
  | none=>simp[e]
  | some c=>cases hl:c.leaf<;>simp[e,hl]
omit hr in
theorem QhD(id):∀(l:List Int) (M:Qk),(l.foldl (JS T2) M).ks id=if id∈l then (match Qy T2 id with|none=>false|some c=>!c.leaf) else M.ks id
 | [],M=>by simp
 | j::l,M=>by
  rw[xj,QhD id l,QyN];by_cases h1:id∈l
  ·rw[Qg h1,Qg (Ks _ h1)]
  ·rw[Qd h1];by_cases h2:id=j
   ·rw[Qg h2,Qg (by rw[h2];exact Va)]
   ·rw[Qd h2,Qd (by simp[h1,h2])]
omit hr in
theorem QyO(M:Qk)(j id:Int){x}(h:x∈(JS T2 M j).KT id):x∈M.KT id:=by
 unfold JS at h;split at h
 ·exact h
 ·split at h
  ·exact h
  ·dsimp only at h;split at h
   ·cases h
   ·exact h
omit hr in
theorem bG(id){x}:∀(l:List Int) (M:Qk),x∈(l.foldl (JS T2) M).KT id->x∈M.KT id
 | [],M,h=>h
 | j::l,M,h=>QyO M j id (bG id l (JS T2 M j) h)
omit hr in
theorem QhE(M:Qk)(j:Int):(JS T2 M j).T=M.T/\(JS T2 M j).Lv=M.Lv/\(JS T2 M j).lk=M.lk/\(JS T2 M j).Ql=M.Ql/\(JS T2 M j).acc=M.acc:=by
 unfold JS;split
 ·exact⟨rfl,rfl,rfl,rfl,rfl⟩
 ·split<;>exact⟨rfl,rfl,rfl,rfl,rfl⟩
omit hr in
theorem FQ:∀(l:List Int) (M:Qk),(l.foldl (JS T2) M).T=M.T/\(l.foldl (JS T2) M).Lv=M.Lv/\(l.foldl (JS T2) M).lk=M.lk/\(l.foldl (JS T2) M).Ql=M.Ql/\(l.foldl (JS T2) M).acc=M.acc
 | [],M=>⟨rfl,rfl,rfl,rfl,rfl⟩
 | j::l,M=>by
  obtain⟨a1,a2,a3,a4,a5⟩:=FQ l (JS T2 M j);obtain⟨b1,b2,b3,b4,b5⟩:=QhE (T2:=T2) M j;rw[xj];exact⟨a1.trans b1,a2.trans b2,a3.trans b3,a4.trans b4,a5.trans b5⟩
end
section
variable {M:Qk}{T2:List Qn}(I:Qx M)(I2:K0 T2)
include I I2
theorem QhF(id:Int):(Qm (Vt M T2).N id).map (·.c)=Qy T2 id:=by
 unfold Vt;rw[FP I2.rising];by_cases h:id∈JX M.T T2
 ·rw[Qg h];cases Qy T2 id<;>rfl
 ·rw[Qd h];have:=λe=>h (FD.2 e);have e:Qy M.T id=Qy T2 id:=vQ this;rw[<- e,I.find]
theorem QhG{c:Qn}(hc:c∈T2):Qm (Vt M T2).N c.iD=some (QE (Vt M T2) c.iD)/\(QE (Vt M T2) c.iD).c=c:=by
 have h1:=QhF I I2 c.iD;rw[(Wy I2.rising).2 ⟨hc,rfl⟩]at h1;unfold QE;cases hn:Qm (Vt M T2).N c.iD with
 | none=>rw[hn]at h1;cases h1
 | some n=>
  rw[hn,Kt,QV]at h1;exact⟨rfl,h1⟩
theorem QhH:(Yh M T2).map (·.c)=T2:=by
 unfold Yh;rw[Ef]
 conv=>rhs;rw[<- List.map_id T2]
 exact Sk λc hc=>(QhG I I2 hc).2
theorem HX:∀id,Qm (Yh M T2) id=Qm (Vt M T2).N id:=λid=>by
 have h1:=mR (Yh M T2) id;rw[QhH I I2]at h1;have h2:=QhF I I2 id;cases hn:Qm (Yh M T2) id with
 | none=>
  rw[hn]at h1;rw[h1]at h2;cases hm:Qm (Vt M T2).N id with
  | none=>rfl
  | some m=>rw[hm]at h2;cases h2
 | some n=>
  have Wl:n∈Yh M T2:=xk hn;have Zk:=Qx.id (M:=Yi M T2) hn;obtain⟨c,hc,rfl⟩:=Jn.1 Wl;obtain⟨h3,h4⟩:=QhG I I2 hc;rw[h4]at Zk;rw[<- Zk,h3]
theorem Rs(K2:vH T2){b}(hb:jJ M T2 b=false)(yy:∀x∈M.Lv,x.ki∈Vi M)(MT:∀id,∀x∈M.KT id,∃n∈Vi M,x.ki∈up M.T n):Qx (Yi M T2):=by
 obtain⟨s1,s2,s3,s4,s5⟩:=FQ (T2:=T2) (JX M.T T2) { M with T:=T2 };have hT:(Yi M T2).T=T2:=s1;have Ls:∀id,yw M id=true->Qy T2 id=Qy M.T id:=λid Rt=>by
  refine vQ λe=>?_;have hm:=FD.2 (λx=>e x.symm:Qy M.T id≠Qy T2 id);unfold jJ at hb;rw[show (JX M.T T2).any (yw M)=true from Eb.2 ⟨id,hm,Rt⟩]at hb;cases hb
 have Fk:∀x n,n∈Vi M->x∈up M.T n->yw M x=true:=λx n h1 h2=>Eb.2 ⟨n,h1,by simpa using h2⟩;have h0:(0:Int) ∉ JX M.T T2:=λh=>by
  have f0:∀T:List Qn,K0 T->Qy T 0=none:=λT I=>by
   rw[Ff];intro c hc e;have:=I.ids c hc;omega
  exact FD.1 h (by rw[f0 _ I.tree,f0 _ I2])
 refine⟨by rw[hT];exact I2,by rw[hT];exact K2,hT.symm,hT.trans (QhH I I2).symm,λa ha=>(List.not_mem_nil ha).elim,λid=>?_,λx hx=>?_,λid x hx=>?_,λid x hx=>?_,?_,?_⟩
 ·show (Vt M T2).ks id=true↔id=0\/∃n,Qm (Yh M T2) id=some n/\n.c.leaf=false;rw[HX I I2];unfold Vt;rw[QhD,FP I2.rising];by_cases h:id∈JX M.T T2
  ·rw[Qg h,Qg h];have QB:id≠0:=λe=>h0 (e▸h);cases Qy T2 id with
   | none=>simp[QB]
   | some c=>simp[QB,XT]
  ·rw[Qd h,Qd h];exact I.ks id
 ·have Wr:x∈M.Lv:=by rw[<- s2];exact hx
  have hl:=yy x Wr;obtain⟨n,hn,_,_⟩:=bD I (JE.1 (show x.ki∈(jH M.T).filter _ from hl)).1;have hs:x.ki∈up M.T x.ki:=by
   rw[gJ I.tree,I.some hn];exact Va
  rw[hT,Ls _ (Fk _ _ hl hs)];exact I.yj x Wr
 ·have Wr:x∈M.KT id:=bG id (JX M.T T2) { M with T:=T2 } hx;obtain⟨c,h1,h2⟩:=I.jD id x Wr;obtain⟨n,h3,h4⟩:=MT id x Wr;exact⟨c,by rw[hT,Ls _ (Fk _ _ h3 h4)];exact h1,h2⟩
 ·exact I.kp id x (bG id (JX M.T T2) { M with T:=T2 } hx)
 ·show (Vt M T2).Ql<=_;exact s4▸I.Ql
 ·show (Vt M T2).acc<=_;exact s5▸I.acc
end
def QyP{c:Qn}(h:KY c=0):c.leaf=true->1<=c.ZF/\c.ZF<=64/\1<=c.bytes/\c.bytes<=1048576:=by
 intro hl;have h2:j7 c=true:=by
  cases e:j7 c with
  | true=>rfl
  | false=>
   exfalso;unfold KY at h;rw[hl,e]at h;simp only[Gb,Bool.and_true,Bool.true_or,K6]at h;split at h
   ·omega
   ·split at h<;>omega
 unfold j7 xV at h2;simp only[ZJ,Yq]at h2;omega
def QyQ(T2)(M:Qk)(id:Int):(JS T2 M id).T=M.T:=by
 unfold JS;split
 ·rfl
 ·split<;>rfl
def nV(T2):∀(l:List Int) (M:Qk),(l.foldl (JS T2) M).T=M.T
 | [],_=>rfl
 | id::l,M=>by rw[xj,nV T2 l,QyQ]
def QyR{S}{h}{p}{T}{A}(O:qM S h p T A)(leaf)(c:Qn)(hc:Qy T leaf=some c)(qg:¬ 1<QZ c.ls):
  MFn prog 82 h [.ptr p 0 0 0,Qb leaf] (λd h'=>d=.tup [.nil,Qb 6]/\h'=h):=by
 obtain⟨b1,b2,b3,c1,c2,c3,Zw,ZQ,Ke,kl,O⟩:=O;have ho:=O.o;have m1:=O.m1;have k1:=O.f1.at_ leaf;rw[kb,hc]at k1;simp only[Qd qg]at k1;refine QU Qh 200 func82 rfl ntmps82 results82 rfl λbase w pl hb=>?_;have Qe:=Qc ho;have kf:=Qc m1;simp only[go_sem,Qa,ho,Qe,m1,kf,k1,Go.undef]
def QhI{T2}{a}:∀(l A:List Int),a∈l.foldl (kz T2) A->a∈l\/a∈A
 | [],A,h=>.inr h
 | id::l,A,h=>by
  rw[xj]at h;rcases QhI l _ h with h|h
  ·exact .inl (Ks _ h)
  ·unfold kz at h;split at h
   ·rcases QF.1 h with h|h
    ·exact .inl (h▸Va)
    ·exact .inr h
   ·exact .inr h
def QyS{l:List Int}(h:l.Nodup){k}(hk:k<l.length):l.getD k 0 ∉ l.take k:=λh2=>by
 rw[<- Ei k l,JF]at h;refine h.2.2 _ h2 (l.getD k 0) ?_ rfl;rw[Q8,QP hk,Iv hk];exact Va
def QyT{M:Qk}{id}(h:id∈Vi M):id∈jH M.T:=by unfold Vi ko at h;exact(JE.1 h).1
def QyU{T:List Qn}(h:Wx T):(jH T).Nodup:=by
 unfold jH;have h2:(T.filter (·.leaf)).Pairwise (λa b=>a.iD<b.iD):=Is _ h;rw[List.nodup_iff_pairwise_ne,Sn];exact h2.imp λVb=>by omega
def QyV{M:Qk}(I:Qx M):(Vi M).Nodup:=Is _ (QyU I.tree.rising)
def QyW{own}{h}{p}{L}{M:Qk}(C:Zs own h p L M)(I:Qx M)(K:jF M.lk)(b)(l:List Z3)(hc:∀c∈l,Z3.Ok c)(hl:l.length<1000000)
  (yy:∀x∈M.Lv,x.ki∈Vi M) (MT:∀id,∀x∈M.KT id,∃n∈Vi M,x.ki∈up M.T n) :
  MFn prog 41 h [.ptr p 0 0 0,QY b,PY l] (λd h'=>∃own' L' M',Zs own' h' p L' M'/\Qx M'/\Zn own h own' h' /\
   d=.tup [Qb (yx M l),Qb (zN M b l)]/\M'=KP M b l):=by
 have ho:=C.ob;refine QU Qh 200 func41 rfl ntmps41 results41 rfl λbase w pl hb=>?_;have Qe:=Qc ho;simp only[go_sem,Qa,ho,Qe];apply KL [10] hb [0,1,2,3,4,5,6,7,8,9,1010,11,12,13,14,15,16,17] [];simp only[go_sem,Qa,ho,Qe];have hT:=Qc C.ob;refine j9 hb Qrc (Qxn C.tr I.tree I.yi M.lk.t K.t1 K.t2 l hc hl) λd h1 hR=>?_;obtain⟨t2,rfl,nW,g,rfl⟩:=hR;obtain⟨Z7,HU⟩:∃o,o=QS own h .tree:=⟨_,rfl⟩;have C1:Zs Z7 (h++g) p L M:=by rw[HU];exact C.step λl hl _=>⟨JY hl,QC hl⟩
 have D1:Zn own h Z7 (h++g):=by rw[HU];exact Zn.app own h g .tree
 apply XN hb;by_cases hE:yh M.T M.lk.t l=0;case neg=>
  have dE:(yh M.T M.lk.t l != 0)=true:=by simpa using hE
  have e1:zN M b l=yh M.T M.lk.t l:=by unfold zN;rw[Qg hE]
  have e2:yx M l=MB M.T l:=by unfold yx;rw[Qg hE]
  have e3:KP M b l=M:=by unfold KP;rw[e1,Qd hE]
  simp only[go_sem,Qa,dE];exact⟨Z7,L,M,C1,I,D1,by rw[e1,e2],e3.symm⟩
 have dE:(yh M.T M.lk.t l != 0)=false:=by simpa using hE
 have Wo:MB M.T l=0\/True:=.inr trivial;have R2:VN (λl=>Z7 l=.tree) (h++g) t2 (KG M.T l):=(nW hE).step λl _ h1=>⟨by rw[HU];unfold QS;rw[Qg h1],rfl⟩;obtain⟨T2,BX⟩:∃T2,T2=KG M.T l:=⟨_,rfl⟩;rw[<- BX]at R2;obtain⟨I2,K2⟩:=aQ I.tree I.yi hc;rw[<- BX]at I2 K2;have Zp:=C1.ob;have Kh:=Qc Zp;have hlen:=I.tree.len;have Rf:=I2.len;simp only[go_sem,Qa,dE,Zp,Kh,Qg hE];have R1:=C1.tr.toR;have Ru:(JX M.T T2).length<1000000:=by have:=QyL M.T T2;omega
 refine JJ hb Qdz (QgS R1 R2.toR (by omega) (by omega)) λd hR=>?_;subst hR;refine Bp Qh hb 2 ?_;simp only[go_sem,Qa];first|refine Yv ?_|skip
 refine aC (λst=>jJ M T2 b=false/\st=⟨[(0,.ptr p 0 0 0),(1,QY b),(6,Qb 0),(7,Qb 0),(8,.ptr t2 0 0 0),(11,ints (JX M.T T2))],h++g⟩) ?_ ?_
 ·refine Qf hb ?_;simp only[go_sem,Qa,Zp,Kh];refine JJ hb OK (nS (h++g) (JX M.T T2) Ru (.clo 77 1 [.ptr p 0 0 0]) 77 1 [.ptr p 0 0 0] Qrd rfl (yw M) (λh' n hm hx=>?_)) λd hR=>?_
  ·have key:∀(l:Nat) (o:Ob),((h++g).map Ob.ro)[l]? = some o->(h'.map Ob.ro)[l]? = some o:=λl o e=>by
    obtain⟨g2,rfl⟩:=hx;have e2:=ZM ((QC (Qc e)).trans e:((h++g).map Ob.ro++g2)[l]? = some o);rw[e2];rw[Ky]at e;obtain⟨o2,h2,rfl⟩:=XA.1 e;rw[ro_ro]
   exact Qyz (C1.ro.more key) I n
  subst hR;rw[OT];refine Qf hb ?_;obtain⟨own',QFB⟩:∃o,o=Z7:=⟨_,rfl⟩;have nX:jJ M T2 b=true->∃own' L' M',Zs own' (h++g) p L' M'/\Qx M'/\Zn own h own' (h++g)/\D.tup [Qb 0,Qb 24]=.tup [Qb (yx M l),Qb (zN M b l)]/\M'=KP M b l:=λhB=>by
   have e1:zN M b l=24:=by unfold zN;rw[Qd (by rw[hE];simp),<- BX,Qg hB]
   have e2:yx M l=0:=by unfold yx;rw[Qd (by rw[hE];simp)]
   have e3:KP M b l=M:=by unfold KP;rw[e1];rfl
   exact⟨Z7,L,M,C1,I,D1,by rw[e1,e2];rfl,e3.symm⟩
  cases J3:(JX M.T T2).any (yw M) with
  | true=>
   simp only[go_sem,Qa];exact nX (by unfold jJ;rw[J3];rfl)
  | false=>
   simp only[go_sem,Qa,Zp,Kh];cases kZ:aR M.T T2 with
   | false=>
    refine ZT hb fI rfl ?_ (nU R1 R2.toR (by omega) (by omega) Ru) rfl λd hR=>?_
    ·simp only[go_sem,Qa,Zp,Kh,kZ]
    subst hR;refine Qf hb ?_;simp only[go_sem,Qa,Zp,Kh,kZ];refine⟨_,⟨by unfold jJ;rw[J3,kZ];rfl,rfl⟩,?_⟩;exact QO
   | true=>
    cases b with
    | false=>
     refine ZT hb fI rfl ?_ (nU R1 R2.toR (by omega) (by omega) Ru) rfl λd hR=>?_
     ·simp only[go_sem,Qa,Zp,Kh,kZ]
     subst hR;refine Qf hb ?_;simp only[go_sem,Qa,Zp,Kh,kZ];exact nX (by unfold jJ;rw[kZ];simp)
    | true=>
     refine ZT hb fI rfl ?_ (nU R1 R2.toR (by omega) (by omega) Ru) rfl λd hR=>?_
     ·simp only[go_sem,Qa,Zp,Kh,kZ]
     subst hR;refine Qf hb ?_;simp only[go_sem,Qa,Zp,Kh,kZ];refine JJ hb fJ (nT C1.ro I) λd hR=>?_;subst hR;refine Qf hb ?_;simp only[go_sem,Qa,Zp,Kh];cases hd:decide ((0:Int)<((Vi M).length:Int)) with
     | true=>
      simp only[go_sem,Qa,hd];exact nX (by unfold jJ;rw[kZ];simp;right;simpa using hd)
     | false=>
      simp only[go_sem,Qa,hd];refine⟨_,⟨by unfold jJ;rw[J3,kZ];simp;simpa using hd,rfl⟩,?_⟩;exact QO
 rintro st ⟨W8,rfl⟩;have C2:=C1.QyE R2;have D2:=D1.trans (Zn.set (own:=Z7) (h:=h++g) (l:=p) (zI M.lk t2 L.b L.o L.v L.m M.Ql M.acc) (by rw[C1.op];decide));generalize hH2:(h++g).set p (zI M.lk t2 L.b L.o L.v L.m M.Ql M.acc)=H2 at C2 D2;have QyY:(h++g).set p ⟨.one,0,9,1,λ_=>[.raw (.int .i64 M.lk.t),.raw (.int .i64 M.lk.Vc),.ptr t2 0 0 0,.mref L.b 0,.ptr L.o 0 0 0,.ptr L.v 0 0 0,.mref L.m 0,.raw (.int .u64 (M.Ql:Nat)),.raw (.int .u64 (M.acc:Nat))]⟩=H2:=hH2;refine Qf hb ?_;simp only[go_sem,Qa,Zp,Kh,QyY];obtain⟨tl,nY⟩:∃tl,tl=JX M.T T2:=⟨_,rfl⟩;rw[<- nY]at Ru;rw[<- nY];refine ZZ (λk st=>∃JK H L2,Zs JK H p L2 ((tl.take k).foldl (JS T2) { M with T:=T2 })/\L2.t=t2/\Zn own h JK H/\st=⟨[(0,.ptr p 0 0 0),(6,Qb 0),(7,Qb 0),(8,.ptr t2 0 0 0),(71,ints tl),(72,Qb tl.length),(73,Qb k)],H⟩) tl.length (s0:=⟨[(0,.ptr p 0 0 0),(6,Qb 0),(7,Qb 0),(8,.ptr t2 0 0 0),(71,ints tl),(72,Qb tl.length),(73,Qb 0)],H2⟩) QO ⟨Z7,H2,_,C2,rfl,D2,rfl⟩ ?_;rintro k st hk ⟨JK,H,L2,Ck,jr,Dk,rfl⟩;by_cases Qs:k<tl.length
 ·have dk:=Q7 Qs;obtain⟨id,Zk⟩:∃id,id=tl.getD k 0:=⟨_,rfl⟩;obtain⟨Mk,DH⟩:∃Mk,Mk=(tl.take k).foldl (JS T2) { M with T:=T2 }:=⟨_,rfl⟩;have Z1:(tl.take (k+1)).foldl (JS T2) { M with T:=T2 }=JS T2 Mk id:=by
   rw[Eh,QP Qs,Gf,<- DH,Zk,Q8,QP Qs];rfl
  have MU:Mk.T=T2:=by rw[DH];exact nV _ _ _
  rw[<- DH]at Ck;have Zq:=Vp (show k<4611686018427387904 by omega);have RT:WN H t2 T2:=by have:=Ck.tr.toR;rwa [jr,MU]at this
  obtain⟨x,hx⟩:∃x,x=(Qy T2 id).getD default:=⟨_,rfl⟩;have X2:=LZ RT id;rw[<- hx]at X2;have KU:=Ck.ob;have qm:=Qc KU;have jU:=Ck.Vf;have QhJ:=Qc jU;have Wg:=Ck.Vx;have By:=Qc Wg;have GD:L2.b≠L2.m:=λe=>by have:=Ck.ow;rw[e,Ck.om]at this;cases this
  have X7:L2.b≠p:=λe=>by have:=Ck.ow;rw[e,Ck.op]at this;cases this
  have hmp:L2.m≠p:=λe=>by have:=Ck.om;rw[e,Ck.op]at this;cases this
  refine Qf hb ?_;simp only[go_sem,Qa,dk,Qs,<- Zk];refine ZT hb j4 rfl ?_ X2 rfl λd hR=>?_
  ·simp only[go_sem,Qa,KU,qm,jU,QhJ,Wg,By,Qi GD,Qi X7]
  subst hR;refine Qf hb ?_;simp only[go_sem,Qa,KU,qm,jU,QhJ,Wg,By,Qi GD,Qi X7];have C3:=Ck.QyG id;have D3:=Dk.trans (Zn.set (own:=JK) (h:=H) (l:=L2.b) (QM .i64 L2.cb (JB L2.eb id)) (by rw[Ck.ow];decide));have C4:=C3.QyH id;have D4:=D3.trans (Zn.set (own:=JK) (h:=H.set L2.b (QM .i64 L2.cb (JB L2.eb id))) (l:=L2.m) (QM .i64 L2.cm (JB L2.em id)) (by rw[Ck.om];decide));have C5:=C4.QjH [⟨.one,0,14,1,λ_=>x.cells⟩];have D5:=D4.trans (Zn.app JK _ [⟨.one,0,14,1,λ_=>x.cells⟩] .no);have zy:((H.set L2.b (QM .i64 L2.cb (JB L2.eb id))).set L2.m (QM .i64 L2.cm (JB L2.em id))).length=H.length:=by simp
  generalize hH5:(H.set L2.b (QM .i64 L2.cb (JB L2.eb id))).set L2.m (QM .i64 L2.cm (JB L2.em id))++[⟨.one,0,14,1,λ_=>x.cells⟩]=H5 at C5 D5;have nZ:=hH5;simp only[go_sem]at nZ;have n8:H5[H.length]? = some ⟨.one,0,14,1,λ_=>x.cells⟩:=by rw[<- hH5,<- zy,Ko rfl];rfl
  have QhM:=Qc n8;generalize QS JK ((H.set L2.b (QM .i64 L2.cb (JB L2.eb id))).set L2.m (QM .i64 L2.cm (JB L2.em id))) .no=wS at C5 D5;have BV:=C5.ob;have MM:=Qc BV;have Ri:=C5.Vf;have bu:=Qc Ri;have hm5:=C5.Vx;have QFC:=Qc hm5;cases hf:Qy T2 id with
  | none=>
   have e1:JS T2 Mk id={ Mk with N:=vM Mk.N id,ks:=λj=>if j=id then false else Mk.ks j }:=by unfold JS;rw[hf]
   have C5s:Zs wS H5 p { L2 with eb:=JB L2.eb id,em:=JB L2.em id } (JS T2 Mk id):=by rw[e1];exact C5
   rw[hf]at X2;simp only[go_sem,Qa,hf,kP,nZ];exact⟨Qs,_,QI.frame (by simp only[go_sem,Zq]),wS,H5,{ L2 with eb:=JB L2.eb id,em:=JB L2.em id },(by rw[Z1];exact C5s),jr,D5,rfl⟩
  | some c=>
   have UG:x=c:=by rw[hx,hf];rfl
   obtain⟨Wl,bF⟩:=(Wy I2.rising).1 hf;subst UG;have lY:=QyP (I2.right x Wl);have X4:=QyK H5 x lY;simp only[go_sem,Qa,hf,jP,nZ];apply QH hb [0,1,2,3,4,5,1006,1007];simp only[go_sem,Qa,BV,MM,n8,QhM];refine OJ hb Qre rfl ?_ X4 rfl λd g7 hR=>?_
   ·simp only[go_sem]
   obtain⟨rfl,g8,lq,hg8,QFD,Mp,Qy1⟩:=hR;obtain rfl:g7=g8:=List.append_cancel_left hg8;subst bF;obtain⟨qT,n9⟩:∃o:Nat->Tag,o=λl=>if l<H5.length then wS l else if l=H5.length then .no else if l=H5.length+1 then .vk x.iD else .YG x.iD:=⟨_,rfl⟩;have w7:∀l,l<H5.length->qT l=wS l:=λl hl=>by rw[n9];exact Qg hl
   have we:qT (H5.length+1)=.vk x.iD:=by rw[n9];dsimp only;rw[Qd (by omega),Qd (by omega),Qg rfl]
   have wq:∀l,H5.length+2<=l->qT l=.YG x.iD:=λl hl=>by rw[n9];dsimp only;rw[Qd (by omega),Qd (by omega),Qd (by omega)]
   have C7:=C5.step (own':=qT) (h':=H5++g7) λl hl _=>⟨w7 l hl,QC hl⟩;have D7:Zn own h qT (H5++g7):=D5.trans ⟨w7,λl hl _=>QC hl,by simp⟩;obtain⟨c8,es8,hm8,C8⟩:=C7.QyJ (n:=XT x) (e:=H5.length+1) (q:=lq) (by dsimp only;rw[HW];exact Qg rfl) Mp we (λjw=>by
    obtain⟨k8,hk8,mY⟩:=Qy1 jw;exact⟨k8,hk8,mY.step λl _ hl=>⟨wq l hl,rfl⟩⟩) (QhC (K2 x Wl))
   obtain⟨M8,oa⟩:∃M8,M8={ Mk with N:=XT x::vM Mk.N x.iD,ks:=λj=>if j=x.iD then false else Mk.ks j }:=⟨_,rfl⟩;obtain⟨L8,oc⟩:∃L8:Loc,L8={ L2 with em:=JB L2.em x.iD,cb:=c8,eb:=es8,le:=λj=>if j=x.iD then H5.length+1 else L2.le j,lq:=λj=>if j=x.iD then lq else L2.lq j }:=⟨_,rfl⟩;have C8:Zs qT ((H5++g7).set L2.b (JI .i64 L2.cb (JB L2.eb x.iD) x.iD (.ptr (H5.length+1) 0 0 0))) p L8 M8:=by rw[oc,oa];exact C8
   have l8t:L8.t=t2:=by rw[oc];exact jr
   have l8m:L8.m=L2.m:=by rw[oc]
   have D8:=D7.trans (Zn.set (own:=qT) (h:=H5++g7) (l:=L2.b) (JI .i64 L2.cb (JB L2.eb x.iD) x.iD (.ptr (H5.length+1) 0 0 0)) (by rw[C7.ow];decide));have eH:(H5++g7).set L2.b (JI .i64 L2.cb (JB L2.eb x.iD) x.iD (.ptr (H5.length+1) 0 0 0))=H5.set L2.b (JI .i64 L2.cb (JB L2.eb x.iD) x.iD (.ptr (H5.length+1) 0 0 0))++g7:=Sq _ _ bu;have Qy4:L2.b≠H.length:=λe=>by
    have h1:=Qc Ck.Vf;omega
   have Rv:((H5++g7).set L2.b (JI .i64 L2.cb (JB L2.eb x.iD) x.iD (.ptr (H5.length+1) 0 0 0)))[H.length]? = some ⟨.one,0,14,1,λ_=>x.cells⟩:=(Qi Qy4).trans ((QC QhM).trans n8);rw[eH]at Rv C8 D8;generalize hH8:H5.set L2.b (JI .i64 L2.cb (JB L2.eb x.iD) x.iD (.ptr (H5.length+1) 0 0 0))++g7=H8 at Rv C8 D8;have QhO:=Qc Rv;have ho8:=C8.ob;have Qy6:=Qc ho8;have QhQ:=C8.Vx;have QhR:=Qc QhQ;refine Zb hb ?_;simp only[go_sem,Qa,Ri,bu,hH8];cases jw:x.leaf with
   | true=>
    simp only[go_sem,Qa,Rv,QhO,jw];have e1:JS T2 Mk x.iD=M8:=by unfold JS;rw[hf,oa];dsimp only;rw[Qg jw]
    exact⟨Qs,_,QI.frame (by simp only[go_sem,Zq]),qT,H8,L8,(by rw[Z1,e1];exact C8),l8t,D8,rfl⟩
   | false=>
    simp only[go_sem,Qa,Rv,QhO,jw];have C9:=C8.step (own':=QS qT H8 (.Xk x.iD)) (h':=H8++kx H8.length) λl hl _=>⟨JY hl,QC hl⟩;have D9:Zn own h (QS qT H8 (.Xk x.iD)) (H8++kx H8.length):=D8.trans (Zn.app qT H8 (kx H8.length) (.Xk x.iD));have un:∀l,H8.length<=l->QS qT H8 (.Xk x.iD) l=.Xk x.iD:=λl hl=>by unfold QS;rw[Qg hl]
    obtain⟨c10,Qy8,QFG,wQ⟩:=C9.QyI x.iD (k:=H8.length+2) (nN (S:=λl=>QS qT H8 (.Xk x.iD) l=.Xk x.iD) (by rw[Ko rfl];rfl) (by rw[KX (k:=1) rfl];rfl) (by rw[KX (k:=2) rfl];rfl) (un _ (by omega)) (un _ (by omega)) (un _ (by omega)));have FI:=D9.trans (Zn.set (own:=QS qT H8 (.Xk x.iD)) (h:=H8++kx H8.length) (l:=L8.m) (JI .i64 L8.cm L8.em x.iD (.ptr (H8.length+2) 0 0 0)) (by rw[C9.om];decide));have eH2:(H8++kx H8.length).set L8.m (JI .i64 L8.cm L8.em x.iD (.ptr (H8.length+2) 0 0 0))=H8.set L8.m (JI .i64 L8.cm L8.em x.iD (.ptr (H8.length+2) 0 0 0))++kx H8.length:=Sq _ _ QhR;rw[eH2]at wQ FI;generalize Qza:H8.set L8.m (JI .i64 L8.cm L8.em x.iD (.ptr (H8.length+2) 0 0 0))++kx H8.length=H10 at wQ FI;apply QH hb [0,1,2,3,4,1005,1006];simp only[go_sem,Qa,ho8,Qy6];refine OJ hb Qdw rfl ?_ (Qhu H8) rfl λd g9 hR=>?_
    ·simp only[go_sem]
    obtain⟨rfl,rfl⟩:=hR;refine Zb hb ?_;simp only[go_sem,Qa,QhQ,QhR,Qza];have e1:JS T2 Mk x.iD={ M8 with ks:=λj=>if j=x.iD then true else M8.ks j,KT:=λj=>if j=x.iD then [] else M8.KT j }:=by
     unfold JS;rw[hf,oa];dsimp only;rw[Qd (by rw[jw];exact Qhn)];congr 1;funext j;by_cases e:j=x.iD
     ·rw[Qg e,Qg e]
     ·rw[Qd e,Qd e,Qd e]
    exact⟨Qs,_,QI.frame (by simp only[go_sem,Zq]),QS qT H8 (.Xk x.iD),H10,{ L8 with cm:=c10,em:=Qy8,lk:=λj=>if j=x.iD then H8.length+2 else L8.lk j },(by rw[Z1,e1];exact wQ),l8t,FI,rfl⟩
 ·have ZW:k=tl.length:=by omega
  subst ZW;have hTl:(tl.take tl.length).foldl (JS T2) { M with T:=T2 }=Vt M T2:=by rw[zW,nY];rfl
  rw[hTl]at Ck;have MU:(Vt M T2).T=T2:=nV _ _ _;have RT:WN H t2 T2:=by have:=Ck.tr.toR;rwa [jr,MU]at this
  have dk:decide (tl.length<tl.length)=false:=QQ (by omega);refine Qf hb ?_;simp only[go_sem,Qa,dk];apply Q1 hb;refine Jl hb Qdx (Qfj RT I2) λd IJ hR=>?_;obtain⟨rfl,hO,g11,rfl⟩:=hR;have od:=Ck.step (own':=QS JK H .on) (h':=H++g11) λl hl _=>⟨JY hl,QC hl⟩;have D11:=Dk.trans (Zn.app JK H g11 .on);have GI:qM (λl=>QS JK H .on l=.on) (H++g11) (H.length+3) T2 []:=hO.step λl _ hl=>⟨by unfold QS;rw[Qg hl],rfl⟩;have C12:=od.QyF GI;have Rw:=D11.trans (Zn.set (own:=QS JK H .on) (h:=H++g11) (l:=p) (zI (Vt M T2).lk L2.t L2.b (H.length+3) L2.v L2.m (Vt M T2).Ql (Vt M T2).acc) (by rw[od.op];decide));have MV:Zs _ _ p { L2 with o:=H.length+3 } (Yi M T2):=C12.congrN (N:=Yh M T2) (HX I I2);have MW:Qx (Yi M T2):=Rs I I2 K2 W8 yy MT;have Rx:=od.ob;have Qzf:=Qc Rx;generalize ql:(Vt M T2).lk=oe at MV Rw Rx;generalize QFH:(Vt M T2).Ql=QhS at MV Rw Rx;generalize Qx2:(Vt M T2).acc=QhT at MV Rw Rx;generalize Qzg:(H++g11).set p (zI oe L2.t L2.b (H.length+3) L2.v L2.m QhS QhT)=og at MV Rw;have Qzh:(H++g11).set p ⟨.one,0,9,1,λ_=>[.raw (.int .i64 oe.t),.raw (.int .i64 oe.Vc),.ptr L2.t 0 0 0,.mref L2.b 0,.ptr (H.length+3) 0 0 0,.ptr L2.v 0 0 0,.mref L2.m 0,.raw (.int .u64 (QhS:Nat)),.raw (.int .u64 (QhT:Nat))]⟩=og:=Qzg;refine Qf hb ?_;simp only[go_sem,Qa,Rx,Qzf,Qzh];refine JJ hb fJ (nT MV.ro MW) λd hR=>?_;subst hR;apply Q1 hb;obtain⟨ll,XD⟩:∃ll,ll=Vi (Yi M T2):=⟨_,rfl⟩;have QFI:ll.length<=64:=by rw[XD];exact Qhx MW
  rw[<- XD];refine ZZ (λk st=>∃yq H3,Zs yq H3 p { L2 with o:=H.length+3 } { Yi M T2 with A:=(ll.take k).foldl (kz T2) [] }/\Qx { Yi M T2 with A:=(ll.take k).foldl (kz T2) [] }/\Zn own h yq H3/\st=⟨[(0,.ptr p 0 0 0),(6,Qb 0),(7,Qb 0),(122,ints ll),(123,Qb ll.length),(124,Qb k)],H3⟩) ll.length (s0:=⟨[(0,.ptr p 0 0 0),(6,Qb 0),(7,Qb 0),(122,ints ll),(123,Qb ll.length),(124,Qb 0)],og⟩) QO ⟨_,og,MV,MW,Rw,rfl⟩ ?_;rintro k st hk ⟨yq,H3,FR,HY,oh,rfl⟩;by_cases qH:k<ll.length
  ·have oq:=Q7 qH;obtain⟨id,Zk⟩:∃id,id=ll.getD k 0:=⟨_,rfl⟩;have Zq:=Vp (show k<4611686018427387904 by omega);obtain⟨Ak,ot⟩:∃Ak,Ak=(ll.take k).foldl (kz T2) []:=⟨_,rfl⟩;have Z1:(ll.take (k+1)).foldl (kz T2) []=kz T2 Ak id:=by
    rw[Eh,QP qH,Gf,<- ot,Zk,Q8,QP qH];rfl
   rw[<- ot]at FR HY;have Qzi:id∈Vi (Yi M T2):=by rw[<- XD,Zk];exact bC qH
   obtain⟨nd,hn,jw,fk⟩:=bD MW (id:=id) (QyT Qzi);have V8:Qy T2 id=some nd.c:=by have:=MW.some hn;rwa [show (Yi M T2).T=T2 from MU]at this
   have qg:kz T2 Ak id=if 1<QZ nd.c.ls then id::Ak else Ak:=by unfold kz;rw[V8];rfl
   have Jw:Z4 T2 Ak id=false:=by
    rw[zT];intro h9;have h8:=(bg I2 V8 jw Ak).1 h9;rw[ot]at h8;rcases QhI _ _ h8 with h7|h7
    ·have Z2:ll.Nodup:=by rw[XD];exact QyV MW
     rw[Zk]at h7;exact QyS Z2 qH h7
    ·cases h7
   have WC:=FR.ob;have qS:=Qc WC;refine Qf hb ?_;simp only[go_sem,Qa,oq,qH,<- Zk,WC,qS];by_cases hs:1<QZ nd.c.ls
   ·rw[Qg hs]at qg;refine Jl hb fK (Qfe FR.YI I2 (by have:=HY.Yf;rwa [show ({ Yi M T2 with A:=Ak }:Qk).T=T2 from MU]at this) id nd.c V8 jw hs Jw) λd h4 hR=>?_;obtain⟨d1,rfl,Ac,O4,s4⟩:=hR;have C4:=FR.act O4 s4;have I4:Qx { Yi M T2 with A:=id::Ak }:=HY.act (λa ha=>by
     rcases QF.1 ha with e|e
     ·exact⟨nd.c,by rw[e,show ({ Yi M T2 with A:=Ak }:Qk).T=T2 from MU];exact V8,jw,hs⟩
     ·exact HY.Yf a e)
    have D4:=oh.trans (Zn.of (t:=.on) (by simp) s4);apply Q1 hb;exact⟨qH,_,QI.frame (by simp only[go_sem,Zq]),_,h4,by rw[Z1,qg];exact C4,by rw[Z1,qg];exact I4,D4,rfl⟩
   ·rw[Qd hs]at qg;refine Jl hb fK (QyR FR.YI id nd.c V8 hs) λd h4 hR=>?_;obtain⟨rfl,rfl⟩:=hR;apply Q1 hb;exact⟨qH,_,QI.frame (by simp only[go_sem,Zq]),yq,h4,by rw[Z1,qg];exact FR,by rw[Z1,qg];exact HY,oh,rfl⟩
  ·have EI:k=ll.length:=by omega
   subst EI;have oq:decide (ll.length<ll.length)=false:=QQ (by omega);have e1:zN M b l=0:=by unfold zN;rw[Qd (by rw[hE];simp),<- BX,Qd (by rw[W8];exact Qhn)]
   have e2:yx M l=0:=by unfold yx;rw[Qd (by rw[hE];simp)]
   have e3:KP M b l={ Yi M T2 with A:=ll.foldl (kz T2) [] }:=by unfold KP;rw[Qg e1,<- BX,XD];rfl
   rw[zW,<- e3]at FR HY;refine Qf hb ?_;simp only[go_sem,Qa,oq];apply Q1 hb;exact⟨yq,_,_,FR,HY,oh,by rw[e1,e2];rfl,rfl⟩
section
variable {h:List Ob}{p:Nat}{L:Loc}{M:Qk}(C:ky h p L M)
include C
def Ry(L:List It):Nat:=match L.head? with
 | some x=>min x.ka never
 | none=>never
def KQ(M:Qk):Nat:=min (Ry M.Lv) (Az (M.KT 0))
theorem QhU(I:Qx M):Zg prog 47 h [.ptr p 0 0 0] (λd=>d=u64 (KQ M)):=by
 have ho:=C.ob;have hm:=C.Vx;have Bg:M.ks 0=true:=(I.ks 0).2 (.inl rfl);have qQ:=C.Xm.at_ 0;rw[Qg Bg]at qQ;have hK:=C.kids 0 Bg;refine Zt Qh 200 func47 rfl ntmps47 results47 rfl λbase w pl F hF Za hb=>?_;rw[<- hF]at ho hm;have Qe:=Qc ho;have QK:=Qc hm;simp only[go_sem,Qa,ho,Qe,hm,QK,qQ];apply QH hb [0,1,2,3,5,6,7,8,9,1004,1010,11,12];simp only[go_sem,Qa,ho,Qe,hm,QK,qQ];have hN:Zg prog 89 F [.ptr L.v 0 0 0] (λd=>d=u64 (Ry M.Lv)):=Quu (C.Xl.more (KM hF));refine XO hb Qrj hN λd hR=>?_;subst hR;refine Zb hb ?_;simp only[go_sem,Qa,ho,Qe];refine XO hb QdC (Qfo (hK.more (KM hF)) (I.kp 0)) λd hR=>?_;subst hR;refine Zb hb ?_;simp only[go_sem,Qa,ho,Qe];refine⟨[],(Zd F).symm,?_⟩;unfold KQ;rw[Nat.min_def,Int.min_def];congr 2;split<;>split<;>omega
end
end Go.Fg.X
namespace Go.Fg.X
open Go.Proofs Go.Fg
end Go.Fg.X
namespace Go.Fg.X
open Go.Proofs Go.Fg
end Go.Fg.X
namespace Go.Fg.X
open Go.Proofs Go.Fg
open Go.Proofs.Tryz
def pks(l:List Pk):D:=.imm 6 l.length (Pk.rows l)
def QFK(n:Nat)(H:List Ob)(d:D)(L:List Pk):Prop:=(d=.nil/\L=[])\/∃lo g row,d=.ref lo g 0 L.length/\n<=lo/\H[lo]? = some ⟨.arr,g,6,L.length,row⟩/\∀i,i<L.length->row i=(L.getD i default).cells
end Go.Fg.X
namespace Go.Fg.X
open Go.Proofs Go.Fg
end Go.Fg.X
namespace Go.Fg.X
open Go.Proofs Go.Fg
open Go.Proofs.Tryz
def lnI(M:Qk)(id:Int):Nat:=(QE M id).q.l.length
def byI(M:Qk)(id:Int):Nat:=Xi (QE M id).q.l
def QhV(f:Int->Nat)(l:List Int):Nat:=(l.map f).sum
structure QFL (p m c:Nat) (es:List QR) (M:Qk) (F:List Ob) (n:Nat) (s:St):Prop where
 ex:∃seen out H,wo es seen=n/\KZ F H/\out.Perm ((es.filter λe=>seen.contains e.b&&true).map (·.k))/\H[F.length]? = some (Xs m c c seen) /\
  s=⟨[(0,.ptr p 0 0 0),(4,Qb (QhV (lnI M) out)),(5,Qb (QhV (byI M) out)),(14,.mref F.length 0)],H⟩
structure Good (M:Qk):Prop where
 lv:∀x∈M.Lv,∃n,Qm M.N x.ki=some n/\n.c.leaf=true/\n.q.l≠[]
 kt:∀id,∀x∈M.KT id,JZ M x.ki=true
 act:∀id,id∈M.A↔∃n,Qm M.N id=some n/\n.c.leaf=true/\n.q.l≠[]/\1<QZ n.c.ls
section
variable {M:Qk}(I:Qx M)(G:Good M)
include I G
theorem Good.QhW{id}{n:Nd}(hn:Qm M.N id=some n)(hl:n.c.leaf=true)(hq:n.q.l≠[]):id∈Vi M:=by
 have hc:=I.some hn;obtain⟨h1,h2⟩:=(Wy I.tree.rising).1 hc;refine JE.2 ⟨Jn.2 ⟨n.c,JE.2 ⟨h1,hl⟩,h2⟩,?_⟩;unfold DL QE;rw[hn];cases yc:n.q.l with
 | nil=>exact absurd yc hq
 | cons x l=>simp[yc]
theorem Good.hA(cls):∀n,Qm M.N cls=some n->n.c.leaf=true->n.q.l=[]->cls ∉ M.A:=λn hn hl hq ha=>by
 obtain⟨m,hm,_,h3,_⟩:=(G.act cls).1 ha;rw[hn]at hm;cases hm;exact h3 hq
theorem Good.yy:∀x∈M.Lv,x.ki∈Vi M:=λx hx=>by
 obtain⟨n,h1,h2,h3⟩:=G.lv x hx;exact Good.QhW I G h1 h2 h3
theorem Good.MT:∀id,∀x∈M.KT id,∃n∈Vi M,x.ki∈up M.T n:=λid x hx=>by
 obtain⟨a,ha,hu⟩:=Yy.1 (G.kt id x hx);obtain⟨n,h1,h2,h3,_⟩:=(G.act a).1 ha;exact⟨a,Good.QhW I G h1 h2 h3,hu⟩
theorem Good.leaf{id}{n:Nd}(hn:Qm M.N id=some n)(hl:n.c.leaf=true)(ha:JZ M id=true):n.q.l≠[]/\id∈M.A:=by
 have h1:=(bg I.tree (I.some hn) hl M.A).1 ha;obtain⟨m,hm,_,h3,_⟩:=(G.act id).1 h1;rw[hn]at hm;cases hm;exact⟨h3,h1⟩
theorem Good.share(now):∀k p id,ym M now k p=some id->∃n,Qm M.N id=some n/\n.c.leaf=true/\JZ M id=true
 | 0,_,_,h=>by cases h
 | k+1,p,id,h=>by
  unfold ym at h;cases hf:firstM M now p with
  | none=>rw[hf]at h;cases h
  | some x=>
   rw[hf]at h;dsimp only at h;have hm:x∈M.KT p:=xk hf;split at h
   ·rename_i hl;cases h;have hs:=I.mS p x hm;rw[I.find]at hs;cases hn:Qm M.N x.ki with
    | none=>rw[hn]at hs;cases hs
    | some n=>exact⟨n,rfl,by unfold QE at hl;rw[hn]at hl;exact hl,G.kt p x hm⟩
   ·exact Good.share now k x.ki id h
theorem Good.nw(now):∀o id r,vK M now o->KV M now o=some (id,r)->∃n,Qm M.N id=some n/\n.c.leaf=true/\n.q.l≠[]/\(1<QZ n.c.ls->id∈M.A):=λo id r ho hp=>by
 cases o with
 | some x=>
  simp only[KV,QV,Q4]at hp;obtain⟨rfl,rfl⟩:=hp;have hx:x∈M.Lv:=(JE.1 ho.1).1;obtain⟨n,h1,h2,h3⟩:=G.lv x hx;exact⟨n,h1,h2,h3,λh4=>(G.act x.ki).2 ⟨n,h1,h2,h3,h4⟩⟩
 | none=>
  simp only[KV,XA]at hp;obtain⟨i,hi,he⟩:=hp;cases he;obtain⟨n,h1,h2,h3⟩:=Good.share I G now 17 0 _ hi;obtain⟨h4,h5⟩:=Good.leaf I G h1 h2 h3;exact⟨n,h1,h2,h4,λ_=>h5⟩
omit I in
end
end Go.Fg.X
namespace Go.Fg.X
open Go.Proofs Go.Fg
end Go.Fg.X
namespace Go.Fg.X
open Go.Proofs Go.Fg
end Go.Fg.X
namespace Go.Fg.X
open Go.Proofs Go.Fg
end Go.Fg.X
namespace Go.Fg.X
open Go.Proofs Go.Fg
end Go.Fg.X
namespace Go.Fg.X
open Go.Proofs Go.Fg
open Go.Proofs.Tryz
def YN(M:Qk)(p:Int)(x:It):Prop:=∃n,Qm M.N x.ki=some n/\n.c.parent=p/\JZ M x.ki=true/\x=⟨n.sh.time,x.ki,Yg M x.ki n,x.ki⟩
def AT(M:Qk)(x:It):Prop:=∃n,Qm M.N x.ki=some n/\n.c.leaf=true/\n.q.l≠[]/\1<QZ n.c.rt/\x=⟨n.du.Xx,x.ki,n.du.dead,x.ki⟩
def B0(M:Qk):Prop:=∀x,x∈M.Lv↔AT M x
def MX(M:Qk):Prop:=∀p x,x∈M.KT p↔YN M p x
def FT(M:Qk):Prop:=∀id,id∈M.A↔∃n,Qm M.N id=some n/\n.c.leaf=true/\n.q.l≠[]/\1<QZ n.c.ls
def B1(M:Qk):Prop:=∀id n,Qm M.N id=some n->n.c.leaf=false->n.q=⟨[],0,0,0,0,0,0⟩
def Vj(M:Qk):Prop:=∀id n,Qm M.N id=some n->n.Ok
def DM(M:Qk):Prop:=KD M.Lv/\∀p,KD (M.KT p)
structure Inv (M:Qk):Prop where
 lv:B0 M
 kt:MX M
 act:FT M
 B2:B1 M
 YO:DM M
 ok:Vj M
def Inv.MY{M}(V:Inv M):Good M:=
 ⟨λx hx=>by
  obtain⟨n,h1,h2,h3,_⟩:=(V.lv x).1 hx;exact⟨n,h1,h2,h3⟩,λp x hx=>by
  obtain⟨n,_,_,h,_⟩:=(V.kt p x).1 hx;exact h,V.act⟩
def Qzl(c):Inv (M0 c):=by
 refine⟨λx=>?_,λp x=>?_,λid=>by simp[M0,Qm],λid n h=>by simp[M0,Qm]at h,⟨by simp[M0,KD],λp=>by simp[M0,KD]⟩,λid n h=>by simp[M0,Qm]at h⟩
 ·simp[M0,AT,Qm]
 ·simp[M0,YN,Qm]
def Qzm{a}{i}{L}(h:∀x∈L,x.ki≠i):XL a i L=none:=by
 unfold XL;rw[zU];intro x hx hk;exact h x hx (vu.1 hk).2
def ou{id}{L}(h:KD L):KD (KF id L):=Is _ h
def Rz{id}{L}{x:It}:x∈KF id L↔x∈L/\x.ki≠id:=by simp[KF]
def bH{id}{a b}{L}(h:KD L):KD (Xw id a b L):=
 gP (ou h) (Qzm λx hx=>(Rz.1 hx).2)
def FU{id}{a b}{L}{x:It}:x∈Xw id a b L↔x=⟨a,id,b,id⟩\/(x∈L/\x.ki≠id):=by
 unfold Xw;rw[Fp,Rz]
structure Part (M:Qk) (U:List Int):Prop where
 lv:B0 M
 kt:∀p x,x.ki ∉ U->(x∈M.KT p↔YN M p x)
 ka:∀p x,x∈M.KT p->x.ki∈U->JZ M x.ki=true
 act:FT M
 B2:B1 M
 YO:DM M
 ok:Vj M
def Qzn{M}{id j:Int}{m}(h:(QE M id).c.parent≠j):Yg (KN M id) j m=Yg M j m:=by
 have h2:JZ (KN M id) j=JZ M j:=by
  obtain⟨_,s2,_,s4,_⟩:=MC M id;unfold JZ;rw[s2,s4]
 unfold Yg;rw[h2];have h3:(KN M id).KT j=M.KT j:=by
  unfold KN;split
  ·dsimp only;rw[Qd (λe=>h e.symm)]
  ·rfl
 rw[h3]
def Part.step{M:Qk}(I:Qx M){id}{n:Nd}(hn:Qm M.N id=some n)(V:Part M (id::up M.T n.c.parent)):Part (KN M id) (up M.T n.c.parent):=by
 obtain⟨s1,s2,s3,s4,s5,s6,s7,s8,s9⟩:=MC M id;have Z2:QE M id=n:=by unfold QE;rw[hn];rfl
 have hA:∀j,JZ (KN M id) j=JZ M j:=λj=>by unfold JZ;rw[s2,s4]
 have V8:=I.some hn;have Jw:id ∉ up M.T n.c.parent:=by
  have:=OX I.tree id;rw[K8 I.tree V8,ZK]at this;exact this.1
 have IN:∀j m,Qm M.N j=some m->j ∉ up M.T n.c.parent->Yg (KN M id) j m=Yg M j m:=λj m hm hj=>Qzn λe=>by
  rw[Z2]at e;refine hj ?_;rw[e];exact Xe I.tree (I.some hm)
 have ov:∀p x,x.ki ∉ up M.T n.c.parent->(YN (KN M id) p x↔YN M p x):=λp x hx=>by
  unfold YN;rw[s1];constructor
  ·rintro⟨m,h1,h2,h3,h4⟩;exact⟨m,h1,h2,by rw[<- hA];exact h3,by rw[<- IN _ m h1 hx];exact h4⟩
  ·rintro⟨m,h1,h2,h3,h4⟩;exact⟨m,h1,h2,by rw[hA];exact h3,by rw[IN _ m h1 hx];exact h4⟩
 have ox:∀p x,x∈M.KT p->x.ki=id->n.c.parent=p:=λp x hx e=>by
  obtain⟨c,h1,h2⟩:=I.jD p x hx;rw[e,V8]at h1;cases h1;exact h2
 refine⟨?_,λp x hx=>?_,λp x hx DN=>?_,?_,?_,?_,by unfold Vj;rw[s1];exact V.ok⟩
 ·intro x;unfold AT;rw[s1,s5];exact V.lv x
 ·rw[ov p x hx];by_cases e:x.ki=id
  ·cases ha:JZ M id with
   | true=>
    have hK:(KN M id).KT=λj=>if j=n.c.parent then Xw id n.sh.time (Yg M id n) (M.KT n.c.parent) else M.KT j:=by
     unfold KN;rw[Qg ha,Z2]
    rw[hK];dsimp only;split
    ·rename_i hp;subst hp;rw[FU];unfold YN;rw[e,hn];constructor
     ·rintro (h|h)
      ·exact⟨n,rfl,rfl,ha,h⟩
      ·exact absurd rfl h.2
     ·rintro⟨m,h1,_,_,h4⟩;cases h1;exact .inl h4
    ·rename_i hp;constructor
     ·intro h;exact absurd (ox p x h e).symm hp
     ·rintro⟨m,h1,h2,_⟩;rw[e,hn]at h1;cases h1;exact absurd h2.symm hp
   | false=>
    have hK:KN M id=M:=by unfold KN;rw[Qd (by rw[ha];exact Qhn)]
    rw[hK];constructor
    ·intro h;have:=V.ka p x h (by rw[e];exact Va);rw[e,ha]at this;cases this
    ·rintro⟨m,_,_,h3,_⟩;rw[e,ha]at h3;cases h3
  ·have DN:x.ki ∉ id::up M.T n.c.parent:=λh=>(QF.1 h).elim e hx;rw[<- V.kt p x DN];unfold KN;split
   ·dsimp only;split
    ·rename_i hp;rw[FU,hp];constructor
     ·rintro (h|h)
      ·exact absurd (congrArg It.ki h) e
      ·exact h.1
     ·intro h;exact .inr ⟨h,e⟩
    ·exact Iff.rfl
   ·exact Iff.rfl
 ·rw[hA];have QB:x.ki≠id:=λe=>Jw (e▸DN);refine V.ka p x ?_ (Ks _ DN);unfold KN at hx;split at hx
  ·dsimp only at hx;split at hx
   ·rename_i hp;rcases FU.1 hx with h|h
    ·exact absurd (congrArg It.ki h) QB
    ·rw[hp];exact h.1
   ·exact hx
  ·exact hx
 ·intro j;rw[s1,s4];exact V.act j
 ·unfold B1;rw[s1];exact V.B2
 ·refine⟨by rw[s5];exact V.YO.1,λp=>?_⟩;unfold KN;split
  ·dsimp only;split
   ·exact bH (V.YO.2 _)
   ·exact V.YO.2 p
  ·exact V.YO.2 p
def Part.settle:∀(k:Nat) {M:Qk} (id:Int),Qx M->(up M.T id).length=k->Part M (up M.T id)->Inv (Vy M (up M.T id)):=by
 intro k;induction k with
 | zero=>
  intro M id I hk V;have e:=NG.1 hk;rw[e]at V ⊢;exact⟨V.lv,λp x=>V.kt p x (by simp),V.act,V.B2,V.YO,V.ok⟩
 | succ k ih=>
  intro M id I hk V;cases hf:Qy M.T id with
  | none=>rw[OV I.tree hf]at hk;cases hk
  | some c=>
   obtain⟨n,hn,rfl⟩:=I.QlF hf;have e:=K8 I.tree hf;rw[e]at hk V ⊢;obtain⟨s1,s2,_⟩:=MC M id;have V2:=V.step I hn;have I2:=mT I hn (V.ok _ _ hn);show Inv (Vy (KN M id) (up M.T n.c.parent));rw[<- s2]at V2 ⊢;exact ih n.c.parent I2 (by rw[s2];simpa using hk) V2
def B3{α:Type}{key:Nd->α}{N N':List Nd}{id:Int}(e:(Qm N' id).map key=(Qm N id).map key){n:Nd}(h:Qm N id=some n):∃m,Qm N' id=some m/\key m=key n:=by
 rw[h]at e;exact XA.1 e
def wV(n:Nd):Qn × Nat × Nat:=(n.c,n.sh.time,n.cp.fit)
def FV(n:Nd):Qn × Bool × Nat × Nat:=(n.c,n.q.l.isEmpty,n.du.Xx,n.du.dead)
def wW(n:Nd):Qn × Bool:=(n.c,n.q.l.isEmpty)
def MZ{l:List Pk}:l≠[]↔l.isEmpty=false:=by cases l<;>simp
def AT.to{M M':Qk}{x:It}(h:(Qm M'.N x.ki).map FV=(Qm M.N x.ki).map FV):AT M x->AT M' x:=λ⟨n,h1,h2,h3,h4,h5⟩=>by
 obtain⟨m,k1,k2⟩:=B3 h h1;simp only[FV,Q4]at k2;obtain⟨e1,e2,e3,e4⟩:=k2;exact⟨m,k1,by rw[e1];exact h2,MZ.2 (by rw[e2];exact MZ.1 h3),by rw[e1];exact h4,by rw[e3,e4];exact h5⟩
def B0.of{M M':Qk}(V:B0 M)(hL:M'.Lv=M.Lv)(hN:∀id,(Qm M'.N id).map FV=(Qm M.N id).map FV):B0 M':=λx=>by
 rw[hL,V x];exact⟨AT.to (hN _),AT.to (hN _).symm⟩
def B0.at_{M M':Qk}(V:B0 M){id}{m}(hm:Qm M'.N id=some m)(hN:∀j,j≠id->(Qm M'.N j).map FV=(Qm M.N j).map FV)
  (hL:∀y:It,y.ki≠id->(y∈M'.Lv↔y∈M.Lv)) (hI:∀y:It,y.ki=id->(y∈M'.Lv↔(m.c.leaf=true/\m.q.l≠[]/\1<QZ m.c.rt/\y=⟨m.du.Xx,id,m.du.dead,id⟩))):B0 M':=λx=>by
 by_cases e:x.ki=id
 ·rw[hI x e];unfold AT;rw[e,hm];constructor
  ·rintro⟨h1,h2,h3,h4⟩;exact⟨m,rfl,h1,h2,h3,h4⟩
  ·rintro⟨m2,h0,h1,h2,h3,h4⟩;cases h0;exact⟨h1,h2,h3,h4⟩
 ·rw[hL x e,V x];exact⟨AT.to (hN _ e),AT.to (hN _ e).symm⟩
def FT.at_{M M':Qk}(V:FT M){id}{m}(hm:Qm M'.N id=some m)(hN:∀j,j≠id->(Qm M'.N j).map wW=(Qm M.N j).map wW)
  (hA:∀j,j≠id->(j∈M'.A↔j∈M.A)) (hI:id∈M'.A↔(m.c.leaf=true/\m.q.l≠[]/\1<QZ m.c.ls)):FT M':=λj=>by
 by_cases e:j=id
 ·subst e;rw[hI,hm];constructor
  ·rintro⟨h1,h2,h3⟩;exact⟨m,rfl,h1,h2,h3⟩
  ·rintro⟨m2,h0,h1,h2,h3⟩;cases h0;exact⟨h1,h2,h3⟩
 ·rw[hA j e,V j];have go:∀{N N':List Nd},(Qm N' j).map wW=(Qm N j).map wW->(∃n,Qm N j=some n/\n.c.leaf=true/\n.q.l≠[]/\1<QZ n.c.ls)->∃n,Qm N' j=some n/\n.c.leaf=true/\n.q.l≠[]/\1<QZ n.c.ls:=λ{N N'} h ⟨n,h1,h2,h3,h4⟩=>by
   obtain⟨m2,k1,k2⟩:=B3 h h1;simp only[wW,Q4]at k2;obtain⟨e1,e2⟩:=k2;exact⟨m2,k1,by rw[e1];exact h2,MZ.2 (by rw[e2];exact MZ.1 h3),by rw[e1];exact h4⟩
  exact⟨go (hN _ e),go (hN _ e).symm⟩
def FT.of{M M':Qk}(V:FT M)(hA:M'.A=M.A)(hN:∀id,(Qm M'.N id).map wW=(Qm M.N id).map wW):FT M':=λj=>by
 rw[hA,V j];have go:∀{N N':List Nd},(Qm N' j).map wW=(Qm N j).map wW->(∃n,Qm N j=some n/\n.c.leaf=true/\n.q.l≠[]/\1<QZ n.c.ls)->∃n,Qm N' j=some n/\n.c.leaf=true/\n.q.l≠[]/\1<QZ n.c.ls:=λ{N N'} h ⟨n,h1,h2,h3,h4⟩=>by
  obtain⟨m2,k1,k2⟩:=B3 h h1;simp only[wW,Q4]at k2;obtain⟨e1,e2⟩:=k2;exact⟨m2,k1,by rw[e1];exact h2,MZ.2 (by rw[e2];exact MZ.1 h3),by rw[e1];exact h4⟩
 exact⟨go (hN _),go (hN _).symm⟩
def oy{M M':Qk}{j}{n m}(e:wV m=wV n)(ha:JZ M' j=JZ M j)(hK:M'.KT j=M.KT j):Yg M' j m=Yg M j n:=by
 simp only[wV,Q4]at e;unfold Yg;rw[ha,hK,e.1,e.2.2]
def YN.to{M M':Qk}{p}{x:It}(h:(Qm M'.N x.ki).map wV=(Qm M.N x.ki).map wV)(ha:JZ M' x.ki=JZ M x.ki)(hK:M'.KT x.ki=M.KT x.ki):YN M p x->YN M' p x:=λ⟨n,h1,h2,h3,h4⟩=>by
 obtain⟨m,k1,k2⟩:=B3 h h1;have e:=oy k2 ha hK;simp only[wV,Q4]at k2;obtain⟨e1,e2,e3⟩:=k2;exact⟨m,k1,by rw[e1];exact h2,by rw[ha];exact h3,by rw[e,e2];exact h4⟩
def MX.part{M M':Qk}(V:MX M){U:List Int}(hK:M'.KT=M.KT)(vr:∀j,j ∉ U->JZ M' j=JZ M j)(hN:∀j,j ∉ U->(Qm M'.N j).map wV=(Qm M.N j).map wV):
  ∀p x,x.ki ∉ U->(x∈M'.KT p↔YN M' p x):=λp x hx=>by
 rw[hK,V p x];exact⟨YN.to (hN _ hx) (vr _ hx) (by rw[hK]),YN.to (hN _ hx).symm (vr _ hx).symm (by rw[hK])⟩
def MX.of{M M':Qk}(V:MX M)(hK:M'.KT=M.KT)(vr:∀j,JZ M' j=JZ M j)(hN:∀j,(Qm M'.N j).map wV=(Qm M.N j).map wV):MX M':=λp x=>by
 rw[hK,V p x];exact⟨YN.to (hN _) (vr _) (by rw[hK]),YN.to (hN _).symm (vr _).symm (by rw[hK])⟩
def oz(n:Nd):Qn × Bool × Du × Sh × Cp:=(n.c,n.q.l.isEmpty,n.du,n.sh,n.cp)
def FW{α β:Type}{key}(f:α->β){N N'}{id:Int}(e:(Qm N' id).map key=(Qm N id).map key):(Qm N' id).map (λn=>f (key n))=(Qm N id).map λn=>f (key n):=by
 have:=congrArg (Option.map f) e;rwa [NO,NO]at this
def Inv.num{M M':Qk}(V:Inv M)(hL:M'.Lv=M.Lv)(hK:M'.KT=M.KT)(hT:M'.T=M.T)(hA:M'.A=M.A)(hN:∀id,(Qm M'.N id).map oz=(Qm M.N id).map oz)(hq:B1 M')(ho:Vj M'):Inv M':=
 ⟨V.lv.of hL λid=>FW (λk=>(k.1,k.2.1,k.2.2.1.Xx,k.2.2.1.dead)) (hN id),V.kt.of hK (λj=>by unfold JZ;rw[hT,hA]) λid=>FW (λk=>(k.1,k.2.2.2.1.time,k.2.2.2.2.fit)) (hN id),V.act.of hA λid=>FW (λk=>(k.1,k.2.1)) (hN id),hq,⟨by rw[hL];exact V.YO.1,λp=>by rw[hK];exact V.YO.2 p⟩,ho⟩
def Inv.told{M}(V:Inv M)(now):Inv (ZI M now):=by
 unfold ZI;split
 ·exact⟨V.lv,V.kt,V.act,V.B2,V.YO,V.ok⟩
 ·exact V
def Inv.acc{M}(V:Inv M)(a):Inv (kv M a):=⟨V.lv,V.kt,V.act,V.B2,V.YO,V.ok⟩
def wX{α:Type}{key:Nd->α}{step:Qk->Int->Qk}(hs:∀M j id,(Qm (step M j).N id).map key=(Qm M.N id).map key):∀(l:List Int) (M:Qk) (id:Int),(Qm (l.foldl step M).N id).map key=(Qm M.N id).map key
 | [],M,id=>rfl
 | j::l,M,id=>(wX hs l (step M j) id).trans (hs M j id)
def bI{step}(hs:∀M j id,id≠j->Qm (step M j).N id=Qm M.N id):∀(l:List Int) (M:Qk) (id:Int),id ∉ l->Qm (l.foldl step M).N id=Qm M.N id
 | [],M,id,_=>rfl
 | j::l,M,id,h=>by
  rw[QF,Yr]at h;exact(bI hs l (step M j) id h.2).trans (hs M j id h.1)
def oA{α:Type}{key:Nd->α}{N:List Nd}{j:Int}{f:Nd->Nd}(hc:∀n,(f n).c=n.c)(hk:∀n,key (f n)=key n)(id:Int):(Qm (VG N j f) id).map key=(Qm N id).map key:=by
 rw[zJ (λn=>by rw[hc])];split
 ·rw[NO];congr 1;funext n;exact hk n
 ·rfl
def oB{N}{j}{f}(hc:∀n,(f n).c=n.c)(id)(h:id≠j):Qm (VG N j f) id=Qm N id:=by
 rw[zJ (λn=>by rw[hc]),Qd h]
def FX{N}{j}{f}(hc:∀n,(f n).c=n.c)(hf:∀n,Qm N j=some n->n.Ok->(f n).Ok)(h:∀id n,Qm N id=some n->n.Ok):∀id n,Qm (VG N j f) id=some n->n.Ok:=λid n hn=>by
 rw[zJ (λn=>by rw[hc])]at hn;split at hn
 ·rename_i e;subst e;obtain⟨m,h1,rfl⟩:=XA.1 hn;exact hf m h1 (h _ _ h1)
 ·exact h _ _ hn
def QhX{M M':Qk}(V:B1 M)(hN:∀id,(Qm M'.N id).map (λn=>(n.c,n.q))=(Qm M.N id).map λn=>(n.c,n.q)):B1 M':=λid n hn hl=>by
 obtain⟨m,h1,h2⟩:=B3 (hN id).symm hn;have e1:m.c=n.c:=congrArg Prod.fst h2;have e2:m.q=n.q:=congrArg Prod.snd h2;rw[<- e2];exact V id m h1 (by rw[e1];exact hl)
def HZ(M:Qk)(id:Int)(x:Pk)(j:Int):Qm (Vg M id x).N j=if j=id then (Qm M.N j).map (λm=>{ m with q:=Xj (QE M id).c.ZF (QE M id).c.bytes (QE M id).q x }) else Qm M.N j:=
 zJ (f:=λm:Nd=>{ m with q:=Xj (QE M id).c.ZF (QE M id).c.bytes (QE M id).q x }) (λ_=>rfl) j
def QhY{p b}{q:Qu}{x:Pk}(h:jA p b q x=false):(Xj p b q x).l=q.l++[x]:=by
 unfold Xj;rw[Qd (by rw[h];exact Qhn)]
def oC{M}(V:Vj M)(id)(x):Vj (Vg M id x):=
 FX (f:=λm:Nd=>{ m with q:=Xj (QE M id).c.ZF (QE M id).c.bytes (QE M id).q x }) (λ_=>rfl) (λn _ h=>⟨h.Jb,h.du,h.sh,h.cp,h.c⟩) V
def Qzo{M:Qk}(V:B1 M){id}{n:Nd}(hn:Qm M.N id=some n)(hl:n.c.leaf=true)(x):B1 (Vg M id x):=λj m hm xC=>by
 rw[HZ]at hm;split at hm
 ·rename_i e;subst e;rw[hn]at hm;cases hm;rw[hl]at xC;cases xC
 ·exact V j m hm xC
def Inv.push{M:Qk}(V:Inv M){id}{n:Nd}(hn:Qm M.N id=some n)(hl:n.c.leaf=true)(x)(h:jA n.c.ZF n.c.bytes n.q x=true\/n.q.l≠[]):Inv (Vg M id x):=by
 refine V.num rfl rfl rfl rfl (λj=>?_) (Qzo V.B2 hn hl x) (oC V.ok id x);have Z2:QE M id=n:=by unfold QE;rw[hn];rfl
 rw[HZ,Z2];split
 ·rename_i e;subst e;rw[hn];have e:(Xj n.c.ZF n.c.bytes n.q x).l.isEmpty=n.q.l.isEmpty:=by
   unfold Xj;rcases h with h|h
   ·rw[Qg h]
   ·split
    ·rfl
    ·cases hq:n.q.l with
     | nil=>exact absurd hq h
     | cons y l=>simp
  simp only[Kt,oz];rw[e]
 ·rfl
def oD(M:Qk)(now)(id:Int)(head:Int)(j:Int):Qm (Wa M now id head).N j=if j=id/\1<QZ (QE M id).c.rt then (Qm M.N j).map (λn=>{ n with du:=zz (QE M id).du (Kr (QE M id).c.rt) now head }) else Qm M.N j:=by
 unfold Wa;by_cases h:1<QZ (QE M id).c.rt
 ·rw[Qg h];dsimp only;rw[zJ (f:=λn:Nd=>{ n with du:=zz (QE M id).du (Kr (QE M id).c.rt) now head }) (λ_=>rfl)];simp[h]
 ·rw[Qd h,Qd (λe=>h e.2)]
def QhZ(now:Nat){α:Type}{key:Nd->α}(hk:∀M n,key (BU M now n)=key n)(M:Qk)(j id:Int):(Qm (WB now M j).N id).map key=(Qm M.N id).map key:=
 oA (f:=BU M now) (λ_=>rfl) (hk M) id
def Qh0(now):∀(l:List Int) (M:Qk),(l.foldl (WB now) M).Lv=M.Lv
 | [],M=>rfl
 | j::l,M=>Qh0 now l (WB now M j)
def Inv.Qzp{M M1:Qk}(I1:Qx M1)(V:Inv M){id}{n n1:Nd}(hn:Qm M.N id=some n)(Ka:Qm M1.N id=some n1)(hl:n.c.leaf=true)(lQ:n.q.l=[])(hq:n1.q.l≠[])(kU:(n1.c,n1.du,n1.sh,n1.cp)=(n.c,n.du,n.sh,n.cp))
  (xz:∀j,j≠id->Qm M1.N j=Qm M.N j) (hL:M1.Lv=M.Lv) (hK:M1.KT=M.KT) (hT:M1.T=M.T) (hA:M1.A=M.A) (ho:Vj M1) (now:Nat) (VO:now<18446744073709551616) (head:Int):Inv (qR M1 now id head):=by
 simp only[Q4]at kU;obtain⟨ec,ed,es,ep⟩:=kU;have Z2:QE M1 id=n1:=by unfold QE;rw[Ka];rfl
 have Zu:n1.c.leaf=true:=by rw[ec];exact hl
 have Jw:id ∉ M.A:=λh=>by
  obtain⟨m,h1,_,h3,_⟩:=(V.act id).1 h;rw[hn]at h1;cases h1;exact h3 lQ
 have hnl:∀y∈M.Lv,y.ki≠id:=λy hy e=>by
  obtain⟨m,h1,_,h3,_⟩:=(V.lv y).1 hy;rw[e,hn]at h1;cases h1;exact h3 lQ
 obtain⟨M2,qp⟩:∃M2,M2=Wa M1 now id head:=⟨_,rfl⟩;have I2:Qx M2:=by rw[qp];exact I1.Wa Ka now head
 obtain⟨w1,w2,w3,w4⟩:=P5 (M:=M1) (now:=now) (id:=id) (head:=head);rw[<- qp]at w1 w2 w3 w4;have hF:∀j,Qm M2.N j=if j=id/\1<QZ n1.c.rt then (Qm M1.N j).map (λn=>{ n with du:=zz n1.du (Kr n1.c.rt) now head }) else Qm M1.N j:=λj=>by
  rw[qp,oD,Z2]
 have Gu:∀j,j≠id->Qm M2.N j=Qm M.N j:=λj hj=>by rw[hF,Qd (λe=>hj e.1),xz j hj]
 have RC:M2.Lv=if 1<QZ n1.c.rt then Xw id (zz n1.du (Kr n1.c.rt) now head).Xx (zz n1.du (Kr n1.c.rt) now head).dead M.Lv else M.Lv:=by
  rw[qp];unfold Wa;rw[Z2];split
  ·dsimp only;rw[hL]
  ·exact hL
 obtain⟨m,hm,wJ,H0,hms,hmp,aG⟩:∃m,Qm M2.N id=some m/\m.c=n.c/\m.q=n1.q/\m.sh=n.sh/\m.cp=n.cp/\(1<QZ n1.c.rt->m.du=zz n1.du (Kr n1.c.rt) now head):=by
  rw[hF,Ka];by_cases h:1<QZ n1.c.rt
  ·rw[Qg ⟨rfl,h⟩];exact⟨_,rfl,ec,rfl,es,ep,λ_=>rfl⟩
  ·rw[Qd (λe=>h e.2)];exact⟨_,rfl,ec,rfl,es,ep,λe=>absurd e h⟩
 have yy:B0 M2:=V.lv.at_ hm (λj hj=>by rw[Gu j hj]) (λy hy=>by
   rw[RC];split
   ·rw[FU];exact⟨λh=>h.elim (λe=>absurd (congrArg It.ki e) hy) (·.1),λh=>.inr ⟨h,hy⟩⟩
   ·exact Iff.rfl) λy hy=>by
   rw[RC,wJ,H0];by_cases h:1<QZ n1.c.rt
   ·rw[Qg h,FU,aG h];rw[<- ec];exact⟨λe=>e.elim (λe=>⟨Zu,hq,h,e⟩) λe=>absurd hy e.2,λe=>.inl e.2.2.2⟩
   ·rw[Qd h];rw[<- ec];exact⟨λe=>absurd hy (hnl y e),λe=>absurd e.2.2.1 h⟩
 have ZW:∀j,(Qm M2.N j).map wV=(Qm M.N j).map wV:=λj=>by
  by_cases e:j=id
  ·subst e;rw[hm,hn];simp only[Kt,wV,wJ,hms,hmp]
  ·rw[Gu j e]
 have Qh1:B1 M2:=λj k hj BZ=>by
  by_cases e:j=id
  ·subst e;rw[hm]at hj;cases hj;rw[wJ,hl]at BZ;cases BZ
  ·rw[Gu j e]at hj;exact V.B2 j k hj BZ
 have Qh2:Vj M2:=λj k hj=>by
  rw[hF]at hj;split at hj
  ·obtain⟨k0,h1,rfl⟩:=XA.1 hj;have h2:=ho j k0 h1;exact⟨h2.Jb,lK (ho id n1 Ka).du (ho id n1 Ka).c.2.2.2.1.lt VO head,h2.sh,h2.cp,h2.c⟩
  ·exact ho j k hj
 have Qh3:KD M2.Lv:=by
  rw[RC];split
  ·exact bH V.YO.1
  ·exact V.YO.1
 unfold qR;rw[Z2,<- qp];by_cases hs:1<QZ n1.c.ls
 ·rw[Qg hs];obtain⟨M3,qn⟩:∃M3,M3=(WL M1.T M1.A id).foldl (WB now) { M2 with A:=id::M1.A }:=⟨_,rfl⟩;rw[<- qn];obtain⟨t1,t2,t3,t4,t5,t6⟩:=HO now (WL M1.T M1.A id) { M2 with A:=id::M1.A };rw[<- qn]at t1 t2 t3 t4 t5 t6;dsimp only at t1 t2 t3;have tL:=Qh0 now (WL M1.T M1.A id) { M2 with A:=id::M1.A };rw[<- qn]at tL;have V8:Qy M1.T id=some n1.c:=I1.some Ka;have hUp:M1.T=M3.T:=by rw[t1,w1]
  have I3:Qx M3:=by
   rw[qn];refine Qx.P4 _ (I2.act λa ha=>?_);rw[w1];rcases QF.1 ha with rfl|ha
   ·exact⟨n1.c,V8,Zu,hs⟩
   ·exact I1.Yf a ha
  rw[hUp];have LR:∀j,j ∉ up M1.T id->j ∉ WL M1.T M1.A id:=λj hj h=>hj (List.takeWhile_subset _ h);have bJ:∀j,(Qm M3.N j).map (λn=>(n.c,n.q,n.du))=(Qm M2.N j).map λn=>(n.c,n.q,n.du):=λj=>by
   rw[qn];exact wX (key:=λn:Nd=>(n.c,n.q,n.du)) (λM j id=>QhZ now (λ_ _=>rfl) M j id) _ _ j
  have RD:∀j,j ∉ up M1.T id->Qm M3.N j=Qm M.N j:=λj hj=>by
   have h1:Qm M3.N j=Qm M2.N j:=by
    rw[qn];exact bI (λM i id h=>oB (f:=BU M now) (λ_=>rfl) id h) _ _ j (LR j hj)
   rw[h1];exact Gu j λe=>hj (by rw[e];exact Xe I1.tree V8)
  have Qh5:∀j,JZ M3 j=true↔j∈up M1.T id\/JZ M j=true:=λj=>by
   unfold JZ;rw[t1,t2,w1,hA,hT,Yy,Yy];simp
  refine Part.settle _ id I3 rfl ?_;rw[<- hUp];refine⟨?_,?_,λp x hx DN=>(Qh5 _).2 (.inl DN),?_,?_,⟨by rw[tL];exact Qh3,λp=>by rw[t3,w3,hK];exact V.YO.2 p⟩,?_⟩
  ·exact yy.of tL λj=>FW (λk=>(k.1,k.2.1.l.isEmpty,k.2.2.Xx,k.2.2.dead)) (bJ j)
  ·refine V.kt.part (by rw[t3,w3,hK]) (λj hj=>?_) λj hj=>by rw[RD j hj]
   rw[kG,Qh5];exact⟨λh=>h.resolve_left hj,.inr⟩
  ·obtain⟨m3,g1,g2⟩:=B3 (bJ id) hm;simp only[Q4]at g2;obtain⟨g3,g4,g5⟩:=g2;refine V.act.at_ g1 (λj hj=>?_) (λj hj=>?_) ?_
   ·rw[<- Gu j hj];exact FW (λk=>(k.1,k.2.1.l.isEmpty)) (bJ j)
   ·rw[t2,hA];simp[hj]
   ·rw[t2,g3,g4,wJ,H0,<- ec];exact⟨λ_=>⟨Zu,hq,hs⟩,λ_=>Va⟩
  ·exact QhX Qh1 λj=>FW (λk=>(k.1,k.2.1)) (bJ j)
  ·rw[qn];have:∀(l:List Int) (M:Qk),Qx M->Vj M->Vj (l.foldl (WB now) M):=by
    intro l;induction l with
    | nil=>intro M _ h;exact h
    | cons j l ih=>
     intro M I h;refine ih _ (I.WB now j) ?_;exact FX (f:=BU M now) (λ_=>rfl) (λn _ hn=>m6 I VO hn) h
   refine this _ _ (I2.act λa ha=>?_) Qh2;rw[w1];rcases QF.1 ha with rfl|ha
   ·exact⟨n1.c,V8,Zu,hs⟩
   ·exact I1.Yf a ha
 ·rw[Qd hs];refine⟨yy,V.kt.of (by rw[w3,hK]) (λj=>by unfold JZ;rw[w1,w2,hT,hA]) ZW,?_,Qh1,⟨Qh3,λp=>by rw[w3,hK];exact V.YO.2 p⟩,Qh2⟩;refine V.act.at_ hm (λj hj=>by rw[Gu j hj]) (λj hj=>by rw[w2,hA]) ?_;rw[w2,hA,wJ,H0,<- ec];exact⟨λh=>absurd h Jw,λh=>absurd h.2.2 hs⟩
def Qh6{M:Qk}{cls}{x:Pk}{n:Nd}(hn:Qm M.N cls=some n):Vh M cls x=if n.c.leaf=false then 29 else if x.len<1\/M.lk.Vc<x.len then 26 else if 1099511627776<M.acc+x.len.toNat then 28
   else if jA n.c.ZF n.c.bytes n.q x=true then 30 else 0:=by unfold Vh;rw[hn]
def Qh7{M:Qk}{cls}{x}{n:Nd}(hn:Qm M.N cls=some n)(h:Vh M cls x=30):n.c.leaf=true/\jA n.c.ZF n.c.bytes n.q x=true:=by
 rw[Qh6 hn]at h;split at h
 ·cases h
 ·rename_i h1;split at h
  ·cases h
  ·split at h
   ·cases h
   ·split at h
    ·rename_i h4;exact⟨by simpa using h1,h4⟩
    ·cases h
def oF{M:Qk}{cls}{x:Pk}{n:Nd}(hn:Qm M.N cls=some n)(h:Vh M cls x=0):n.c.leaf=true/\jA n.c.ZF n.c.bytes n.q x=false/\1<=x.len/\x.len<=M.lk.Vc/\M.acc+x.len.toNat<=1099511627776:=by
 rw[Qh6 hn]at h;split at h
 ·cases h
 ·rename_i h1;split at h
  ·cases h
  ·rename_i h2;split at h
   ·cases h
   ·rename_i h3;split at h
    ·cases h
    ·rename_i h4;exact⟨by simpa using h1,by simpa using h4,by omega,by omega,by omega⟩
def Inv.put{M}(I:Qx M)(V:Inv M)(now)(VO:now<18446744073709551616)(cls)(x):Inv (Vs M now cls x):=by
 unfold Vs;cases hn:Qm M.N cls with
 | none=>
  have e:Vh M cls x=23:=by unfold Vh;rw[hn]
  rw[e,Qd (by decide),Qd (by decide)];exact V
 | some n=>
  have Z2:QE M cls=n:=by unfold QE;rw[hn];rfl
  by_cases yz:Vh M cls x=30
  ·rw[Qg yz];obtain⟨h1,h2⟩:=Qh7 hn yz;exact V.push hn h1 x (.inl h2)
  ·rw[Qd yz];by_cases h0:Vh M cls x=0
   ·rw[Qg h0,Z2];obtain⟨h1,h2,h3,h4,h5⟩:=oF hn h0;by_cases hq:n.q.l=[]
    ·rw[Qg hq];have Ka:Qm (kv (Vg M cls x) (M.acc+x.len.toNat)).N cls=some { n with q:=Xj n.c.ZF n.c.bytes n.q x }:=by
      show Qm (Vg M cls x).N cls=_;rw[HZ,Qg rfl,hn,Z2];rfl
     refine Inv.Qzp ((I.Vg cls x).kv h5) V hn Ka h1 hq ?_ rfl (λj hj=>?_) rfl rfl rfl rfl (oC V.ok cls x) now VO x.len
     ·dsimp only;rw[QhY h2];simp
     ·show Qm (Vg M cls x).N j=_;rw[HZ,Qd hj]
    ·rw[Qd hq];exact(V.push hn h1 x (.inr hq)).acc _
   ·rw[Qd h0];exact V
def Inv.KO{M}(I:Qx M)(V:Inv M)(now)(VO:now<18446744073709551616)(cls)(x):Inv (KO M now cls x):=by
 unfold X.KO;split
 ·exact Inv.put (yo I now) (V.told now) now VO cls x
 ·exact V
def Qzs{T}(hr:Wx T){p j}:j∈Wh T p↔∃c,Qy T j=some c/\c.parent=p:=by
 unfold Wh;constructor
 ·intro h;obtain⟨c,h1,rfl⟩:=Jn.1 h;obtain⟨h2,h3⟩:=JE.1 h1;exact⟨c,(Wy hr).2 ⟨h2,rfl⟩,by simpa using h3⟩
 ·rintro⟨c,h1,h2⟩;obtain⟨h3,rfl⟩:=(Wy hr).1 h1;exact Jn.2 ⟨c,JE.2 ⟨h3,by simpa using h2⟩,rfl⟩
def Qzt(M:Qk)(j id:Int)(h:id≠j):Qm (Xz M j).N id=Qm M.N id:=oB (f:=λn:Nd=>{ n with sh:=yl }) (λ_=>rfl) id h
def Qzu{α:Type}{key:Nd->α}(hk:∀n:Nd,key { n with sh:=yl }=key n)(M:Qk)(j id:Int):(Qm (Xz M j).N id).map key=(Qm M.N id).map key:=
 oA (f:=λn:Nd=>{ n with sh:=yl }) (λ_=>rfl) hk id
def FY{α:Type}{key:Nd->α}(hk:∀n:Nd,key { n with sh:=yl }=key n)(M:Qk)(j id:Int):(Qm (Jx M j).N id).map key=(Qm M.N id).map key:=by
 unfold Jx;split
 ·exact wX (Qzu hk) _ (VP M j) id
 ·rfl
def bK(M)(j:Int):(Jx M j).KT=(VP M j).KT:=by
 unfold Jx;split
 ·exact(ba _ (VP M j)).2.2.1
 ·rfl
def Qh8{M:Qk}(I:Qx M){j:Int}{c}(h:Qy M.T j=some c):(QE M j).c=c:=by
 obtain⟨n,h1,h2⟩:=I.QlF h;unfold QE;rw[h1];exact h2
def Qh9{M:Qk}(I:Qx M)(j p:Int)(x:It):x∈(Jx M j).KT p↔x∈M.KT p/\x.ki≠j:=by
 rw[bK];unfold VP;dsimp only;split
 ·rename_i e;rw[Rz,e]
 ·rename_i e;refine⟨λh=>⟨h,λej=>?_⟩,(·.1)⟩;obtain⟨c,h1,h2⟩:=I.jD p x h;rw[ej]at h1;rw[Qh8 I h1]at e;exact e h2.symm
def oG:∀(l:List Int) {M:Qk},Qx M->∀(p:Int) (x:It),x∈(l.foldl Jx M).KT p↔x∈M.KT p/\x.ki ∉ l
 | [],M,I,p,x=>by simp
 | j::l,M,I,p,x=>by
  rw[xj,oG l (I.Jx j) p x,Qh9 I];simp[and_assoc]
def Qzv{M:Qk}(I:Qx M){j p:Int}{x:It}(h:x∈(Jx M j).KT p):Qm (Jx M j).N x.ki=Qm M.N x.ki:=by
 have h2:=h;rw[bK]at h2;obtain⟨hx,QB⟩:=(Qh9 I j p x).1 h;obtain⟨c,h3,h4⟩:=I.jD p x hx;unfold Jx;split
 ·rename_i e;refine bI Qzt _ (VP M j) x.ki λhc=>?_;obtain⟨c2,h5,h6⟩:=(Qzs I.tree.rising).1 hc;rw[h3]at h5;cases h5;unfold VP at h2;dsimp only at h2;rw[Qg (h4.symm.trans h6),e]at h2;cases h2
 ·rfl
def Qia:∀(l:List Int) {M:Qk},Qx M->∀{p:Int} {x:It},x∈(l.foldl Jx M).KT p->Qm (l.foldl Jx M).N x.ki=Qm M.N x.ki
 | [],M,I,p,x,h=>rfl
 | j::l,M,I,p,x,h=>by
  have h1:=Qia l (I.Jx j) h;exact h1.trans (Qzv I (p:=p) ((oG l (I.Jx j) p x).1 h).1)
def Qib:∀(l:List Int) {M:Qk},Qx M->∀(i:Int),(∀j∈l,(QE M j).c.parent≠i)->(l.foldl Jx M).KT i=M.KT i
 | [],M,I,i,h=>rfl
 | j::l,M,I,i,h=>by
  have e:(Jx M j).KT i=M.KT i:=by
   rw[bK];unfold VP;dsimp only;rw[Qd (λe=>h j Va e.symm)]
  rw[xj,Qib l (I.Jx j) i,e];intro k hk;have h1:=FY (key:=λn:Nd=>n.c.parent) (λ_=>rfl) M j k;have h2:(QE (Jx M j) k).c.parent=(QE M k).c.parent:=by
   unfold QE;cases h3:Qm M.N k with
   | none=>
    rw[h3,YU,dw]at h1;rw[h1]
   | some n=>
    rw[h3]at h1;obtain⟨m,h4,h5⟩:=XA.1 h1;rw[h4];exact h5
  rw[h2];exact h k (Ks _ hk)
def Qzw{M}(V:Vj M)(j):Vj (Jx M j):=by
 have go:∀(l:List Int) (M:Qk),Vj M->Vj (l.foldl Xz M):=by
  intro l;induction l with
  | nil=>intro M h;exact h
  | cons j l ih=>
   intro M h;exact ih _ (FX (f:=λn:Nd=>{ n with sh:=yl }) (λ_=>rfl) (λn _ h=>⟨h.Jb,h.du,Qg1,h.cp,h.c⟩) h)
 unfold Jx;split
 ·exact go _ (VP M j) V
 ·exact V
def oH:∀(l:List Int) {M:Qk},Vj M->Vj (l.foldl Jx M)
 | [],M,h=>h
 | j::l,M,h=>oH l (Qzw h j)
def Qic:∀(l:List Int) {M:Qk},DM M->DM (l.foldl Jx M)
 | [],M,h=>h
 | j::l,M,h=>by
  refine Qic l ⟨?_,λp=>?_⟩
  ·rw[(Qg2 M j).2.2.2.2.2];exact h.1
  ·rw[bK];unfold VP;dsimp only;split
   ·exact ou (h.2 _)
   ·exact h.2 p
def Qzx(len)(M:Qk)(j id:Int)(h:id≠j):Qm (Vr len M j).N id=Qm M.N id:=oB (f:=BW len) (λ_=>rfl) id h
def Qid(len:Nat){α:Type}{key:Nd->α}(hk:∀n:Nd,key (BW len n)=key n)(M:Qk)(j id:Int):(Qm (Vr len M j).N id).map key=(Qm M.N id).map key:=
 oA (f:=BW len) (λ_=>rfl) hk id
def oI(len):∀(l:List Int) {M:Qk},Vj M->Vj (l.foldl (Vr len) M)
 | [],M,h=>h
 | j::l,M,h=>oI len l (FX (f:=BW len) (λ_=>rfl) (λn _ hn=>Qhb hn len) h)
def Qie(M:Qk)(id:Int)(Ju)(r:Bool)(j:Int):Qm (VH M id Ju r).N j=if j=id/\1<QZ (QE M id).c.rt then (Qm M.N j).map (λn=>{ n with du:=YJ (QE M id) Ju r }) else Qm M.N j:=by
 unfold VH;by_cases h:1<QZ (QE M id).c.rt
 ·rw[Qg h];dsimp only;rw[zJ (f:=λn:Nd=>{ n with du:=YJ (QE M id) Ju r }) (λ_=>rfl)];simp[h]
 ·rw[Qd h,Qd (λe=>h e.2)]
def Inv.take{M:Qk}(I:Qx M)(V:Inv M){id}{n:Nd}(hn:Qm M.N id=some n)(hl:n.c.leaf=true)(hq:n.q.l≠[])(r):Inv (Xn M id r):=by
 have Z2:QE M id=n:=by unfold QE;rw[hn];rfl
 have V8:=I.some hn;have xy:id∈up M.T id:=Xe I.tree V8;have Na:∀j,Qm (WQ M id).N j=if j=id then (Qm M.N j).map (λn=>{ n with q:=Wz (QE M id).q }) else Qm M.N j:=λj=>
  zJ (f:=λn:Nd=>{ n with q:=Wz (QE M id).q }) (λ_=>rfl) j
 unfold Xn;dsimp only;rw[Z2];generalize hlen:(n.q.l.headD default).len=len;obtain⟨M2,qp⟩:∃M2,M2=(up M.T id).foldl (Vr len.toNat) (WQ M id):=⟨_,rfl⟩;rw[<- qp];have I2:Qx M2:=by rw[qp];exact Qx.bj _ (I.WQ id)
 obtain⟨b1,b2,b3,b4,b5,b6,b7⟩:=HT len.toNat (up M.T id) (WQ M id);rw[<- qp]at b1 b2 b3 b4 b5 b6 b7;have Qzy:∀j,j ∉ up M.T id->Qm M2.N j=Qm M.N j:=λj hj=>by
  rw[qp,bI (Qzx len.toNat) _ _ j hj,Na,Qd (λe=>hj (by rw[e];exact xy))]
 have ZW:∀j,(Qm M2.N j).map (λn=>(n.c,n.q,n.du))=(Qm (WQ M id).N j).map λn=>(n.c,n.q,n.du):=λj=>by
  rw[qp];exact wX (key:=λn:Nd=>(n.c,n.q,n.du)) (λM j id=>Qid len.toNat (λ_=>rfl) M j id) _ _ j
 have Qzz:(Qm M2.N id).map (λn=>(n.c,n.q,n.du))=some (n.c,Wz n.q,n.du):=by
  rw[ZW,Na,Qg rfl,hn,Z2];rfl
 have Dn:∀j,j≠id->(Qm M2.N j).map (λn=>(n.c,n.q,n.du))=(Qm M.N j).map λn=>(n.c,n.q,n.du):=λj hj=>by
  rw[ZW,Na,Qd hj]
 obtain⟨m2,Wg,e2⟩:=XA.1 Qzz;simp only[Q4]at e2;obtain⟨c2,q2,d2⟩:=e2;have Qif:QE M2 id=m2:=by unfold QE;rw[Wg];rfl
 have oJ:Vj M2:=by
  rw[qp];exact oI _ _ (FX (f:=λn:Nd=>{ n with q:=Wz (QE M id).q }) (λ_=>rfl) (λn _ h=>⟨h.Jb,h.du,h.sh,h.cp,h.c⟩) V.ok)
 obtain⟨M3,qn⟩:∃M3,M3=VH M2 id len r:=⟨_,rfl⟩;rw[<- qn];have I3:Qx M3:=by rw[qn];exact I2.VH Wg len r
 obtain⟨a1,a2,a3,a4,a5,a6⟩:=MO M2 id len r;rw[<- qn]at a1 a2 a3 a4 a5 a6;have hF:∀j,Qm M3.N j=if j=id/\1<QZ n.c.rt then (Qm M2.N j).map (λn=>{ n with du:=YJ m2 len r }) else Qm M2.N j:=λj=>by
  rw[qn,Qie,Qif,c2]
 have RD:∀j,j ∉ up M.T id->Qm M3.N j=Qm M.N j:=λj hj=>by
  rw[hF,Qd (λe=>hj (by rw[e.1];exact xy)),Qzy j hj]
 have oK:∀j,j≠id->Qm M3.N j=Qm M2.N j:=λj hj=>by rw[hF,Qd (λe=>hj e.1)]
 obtain⟨m,hm,wJ,H0,aG⟩:∃m,Qm M3.N id=some m/\m.c=n.c/\m.q=Wz n.q/\(1<QZ n.c.rt->m.du=YJ m2 len r):=by
  rw[hF,Wg];by_cases h:1<QZ n.c.rt
  ·rw[Qg ⟨rfl,h⟩];exact⟨_,rfl,c2,q2,λ_=>rfl⟩
  ·rw[Qd (λe=>h e.2)];exact⟨_,rfl,c2,q2,λe=>absurd e h⟩
 have Qig:Vj M3:=λj k hj=>by
  rw[hF]at hj;split at hj
  ·obtain⟨k0,h1,rfl⟩:=XA.1 hj;have h2:=oJ j k0 h1;exact⟨h2.Jb,mX (oJ id m2 Wg) len r,h2.sh,h2.cp,h2.c⟩
  ·exact oJ j k hj
 have RE:M3.Lv=if 1<QZ n.c.rt then (if (Wz n.q).l=[] then KF id (Xw id (YJ m2 len r).Xx (YJ m2 len r).dead M.Lv) else Xw id (YJ m2 len r).Xx (YJ m2 len r).dead M.Lv) else M.Lv:=by
  rw[qn];unfold VH;rw[Qif,c2,q2];split
  ·dsimp only;rw[b7];rfl
  ·exact b7
 have yy:B0 M3:=V.lv.at_ hm (λj hj=>by
   rw[oK j hj];exact FW (λk=>(k.1,k.2.1.l.isEmpty,k.2.2.Xx,k.2.2.dead)) (Dn j hj)) (λy hy=>by
   rw[RE];split
   ·split
    ·rw[Rz,FU];exact⟨λh=>h.1.elim (λe=>absurd (congrArg It.ki e) hy) (·.1),λh=>⟨.inr ⟨h,hy⟩,hy⟩⟩
    ·rw[FU];exact⟨λh=>h.elim (λe=>absurd (congrArg It.ki e) hy) (·.1),λh=>.inr ⟨h,hy⟩⟩
   ·exact Iff.rfl) λy hy=>by
   rw[RE,wJ,H0];by_cases h:1<QZ n.c.rt
   ·rw[Qg h,aG h];split
    ·rename_i he;rw[Rz];exact⟨λe=>absurd hy e.2,λe=>absurd he e.2.1⟩
    ·rename_i he;rw[FU];exact⟨λe=>e.elim (λe=>⟨hl,he,h,e⟩) λe=>absurd hy e.2,λe=>.inl e.2.2.2⟩
   ·rw[Qd h];refine⟨λe=>?_,λe=>absurd e.2.2.1 h⟩;obtain⟨k,h1,_,_,h4,_⟩:=(V.lv y).1 e;rw[hy,hn]at h1;cases h1;exact absurd h4 h
 have Qih:DM M3:=⟨by
   rw[RE];split
   ·split
    ·exact ou (bH V.YO.1)
    ·exact bH V.YO.1
   ·exact V.YO.1,λp=>by rw[a3,b3];exact V.YO.2 p⟩
 have Qii:B1 M3:=λj k hj BZ=>by
  by_cases e:j=id
  ·subst e;rw[hm]at hj;cases hj;rw[wJ,hl]at BZ;cases BZ
  ·rw[oK j e]at hj;obtain⟨k0,h1,h2⟩:=B3 (Dn j e).symm hj;simp only[Q4]at h2;rw[<- h2.2.1];exact V.B2 j k0 h1 (by rw[h2.1];exact BZ)
 have zL:M3.T=M.T:=by rw[a1,b1];rfl
 have DO:M3.A=M.A:=by rw[a2,b2];rfl
 have oL:M3.KT=M.KT:=by rw[a3,b3];rfl
 have mW:∀p x,x.ki ∉ up M.T id->(x∈M3.KT p↔YN M3 p x):=V.kt.part oL (λj _=>by unfold JZ;rw[zL,DO]) λj hj=>by rw[RD j hj]
 have Qij:∀j,j≠id->(Qm M3.N j).map wW=(Qm M.N j).map wW:=λj hj=>by
  rw[oK j hj];exact FW (λk=>(k.1,k.2.1.l.isEmpty)) (Dn j hj)
 have stay:(id∈M.A↔(Wz n.q).l≠[]/\1<QZ n.c.ls)->Inv (Vy M3 (up M.T id)):=λJg=>by
  rw[<- zL];refine Part.settle _ id I3 rfl ?_;rw[zL];refine⟨yy,mW,λp x hx DN=>?_,V.act.at_ hm Qij (λj _=>by rw[DO]) ?_,Qii,Qih,Qig⟩
  ·rw[oL]at hx;obtain⟨_,_,_,h,_⟩:=(V.kt p x).1 hx;show Z4 M3.T M3.A x.ki=true;rw[zL,DO];exact h
  ·rw[DO,wJ,H0,Jg];exact⟨λh=>⟨hl,h⟩,λh=>h.2⟩
 have XI:id∈M.A↔1<QZ n.c.ls:=by
  rw[V.act id,hn];constructor
  ·rintro⟨k,h1,_,_,h4⟩;cases h1;exact h4
  ·intro h;exact⟨n,rfl,hl,hq,h⟩
 by_cases bL:(Wz n.q).l=[]
 ·rw[Qg bL];have QzA:QE M3 id=m:=by unfold QE;rw[hm];rfl
  unfold WZ;rw[QzA,wJ];by_cases hs:1<QZ n.c.ls
  ·rw[Qg hs];have QzB:=XI.2 hs;obtain⟨Mo,B4⟩:∃Mo,Mo={ M3 with A:=JP M3.A id }:=⟨_,rfl⟩;have Io:Qx Mo:=by rw[B4];exact I3.act (I3.Yf.off id)
   rw[<- B4];obtain⟨U,hU⟩:∃U,U=WL M3.T (JP M3.A id) id:=⟨_,rfl⟩;rw[<- hU];obtain⟨M4,kB⟩:∃M4,M4=U.foldl Jx Mo:=⟨_,rfl⟩;rw[<- kB];have I4:Qx M4:=by rw[kB];exact Qx.Rb _ Io
   obtain⟨s1,s2,s3,s4,s5,s6⟩:=FJ U Mo;rw[<- kB]at s1 s2 s3 s4 s5 s6;have FL:M4.T=M.T:=by rw[s1,B4];exact zL
   have bM:M4.A=JP M.A id:=by rw[s2,B4];dsimp only;rw[DO]
   have Dq:Mo.N=M3.N:=by rw[B4]
   have hoK:Mo.KT=M.KT:=by rw[B4];exact oL
   have oM:∀j∈U,j∈up M.T id:=λj hj=>by
    rw[hU,zL]at hj;exact List.takeWhile_subset _ hj
   have Wl:∀p x,x∈M4.KT p↔x∈M.KT p/\x.ki ∉ U:=λp x=>by
    rw[kB,oG U Io p x,hoK]
   have vr:∀j,JZ M j=true↔j∈up M.T id\/JZ M4 j=true:=λj=>by
    unfold JZ;rw[FL,bM];exact He QzB j
   have QzC:∀j,j∈up M.T id->j ∉ U->JZ M4 j=true:=λj hj DJ=>by
    rw[hU,zL,DO]at DJ;unfold JZ;rw[FL,bM];unfold WL at DJ;have bN:=List.takeWhile_append_dropWhile (p:=λi=>!Z4 M.T (JP M.A id) i) (l:=up M.T id);rw[<- bN]at hj;rcases QT.1 hj with hj|hj
    ·exact absurd hj DJ
    ·cases hd:(up M.T id).dropWhile (λi=>!Z4 M.T (JP M.A id) i) with
     | nil=>rw[hd]at hj;cases hj
     | cons k rest=>
      have hk:Z4 M.T (JP M.A id) k=true:=by
       have:=List.head_dropWhile_not (λi=>!Z4 M.T (JP M.A id) i) (l:=up M.T id) (by rw[hd];simp);simp only[hd,List.head_cons]at this;simpa using this
      rw[hd]at hj bN;have QzD:k∈up M.T id:=by rw[<- bN];simp
      obtain⟨ck,hck⟩:=Ce.1 (Fj QzD);have xz:rest=up M.T ck.parent:=Qtl I.tree (bN.symm) hck;rcases QF.1 hj with rfl|hj
      ·exact hk
      ·refine Hc I.tree hk ?_;rw[K8 I.tree hck,<- xz];exact Ks _ hj
   have fwd:∀p x,x.ki ∉ up M.T id->x∈M4.KT p->YN M4 p x:=λp x hx h=>by
    have hxM:=((Wl p x).1 h).1;obtain⟨n0,h1,h2,h3,h4⟩:=(V.kt p x).1 hxM;have RF:Qm M4.N x.ki=some n0:=by
     have h5:Qm M4.N x.ki=Qm Mo.N x.ki:=by
      rw[kB];rw[kB]at h;exact Qia U Io h
     rw[h5,Dq,RD _ hx,h1]
    have ha4:JZ M4 x.ki=true:=((vr _).1 h3).resolve_left hx;refine⟨n0,RF,h2,ha4,?_⟩;have hK4:M4.KT x.ki=M.KT x.ki:=by
     rw[kB,Qib U Io x.ki,hoK];intro j hj e;obtain⟨cj,hcj⟩:=Ce.1 (Fj (oM j hj));have QzG:Qy Mo.T j=some cj:=by rw[B4];dsimp only;rw[zL];exact hcj
     rw[Qh8 Io QzG]at e;refine hx (up_sub I.tree (oM j hj) ?_);rw[K8 I.tree hcj,e];exact Ks _ (Xe I.tree (I.some h1))
    rw[oy (n:=n0) rfl (by rw[ha4,h3]) hK4];exact h4
   rw[<- FL];refine Part.settle _ id I4 rfl ?_;rw[FL];refine⟨?_,λp x hx=>⟨fwd p x hx,λhd=>?_⟩,λp x h DN=>QzC _ DN ((Wl p x).1 h).2,?_,?_,?_,?_⟩
   ·refine yy.of (by rw[s6,B4]) λj=>?_;rw[kB,wX (FY (key:=FV) (λ_=>rfl)) U Mo j,Dq]
   ·obtain⟨k,h1,h2,h3,h4⟩:=hd;have kU:(Qm M4.N x.ki).map (λn=>n.c)=(Qm M3.N x.ki).map λn=>n.c:=by
     rw[kB,wX (FY (key:=λn:Nd=>n.c) (λ_=>rfl)) U Mo x.ki,Dq]
    obtain⟨n0,h5,h6⟩:=B3 kU.symm h1;rw[RD _ hx]at h5;have QzH:(⟨n0.sh.time,x.ki,Yg M x.ki n0,x.ki⟩:It)∈M.KT p:=(V.kt p _).2 ⟨n0,h5,by rw[h6];exact h2,(vr _).2 (.inr h3),rfl⟩;have Qio:=(Wl p _).2 ⟨QzH,λhU2=>hx (oM _ hU2)⟩;obtain⟨k2,g1,g2,g3,g4⟩:=fwd p ⟨n0.sh.time,x.ki,Yg M x.ki n0,x.ki⟩ hx Qio;dsimp only at g1 g4;rw[h1]at g1;cases g1;rw[<- g4]at h4;rw[h4];exact Qio
   ·refine V.act.at_ (id:=id) (m:=(QE M4 id)) ?_ (λj hj=>?_) (λj hj=>?_) ?_
    ·have kU:(Qm M4.N id).map (λn=>n.c)=(Qm M3.N id).map λn=>n.c:=by
      rw[kB,wX (FY (key:=λn:Nd=>n.c) (λ_=>rfl)) U Mo id,Dq]
     obtain⟨k,h5,_⟩:=B3 kU hm;unfold QE;rw[h5];rfl
    ·rw[kB,wX (FY (key:=wW) (λ_=>rfl)) U Mo j,Dq];exact Qij j hj
    ·rw[bM];simp[JP,hj]
    ·have kU:(Qm M4.N id).map (λn=>n.q)=(Qm M3.N id).map λn=>n.q:=by
      rw[kB,wX (FY (key:=λn:Nd=>n.q) (λ_=>rfl)) U Mo id,Dq]
     obtain⟨k,h5,h6⟩:=B3 kU hm;have hk:QE M4 id=k:=by unfold QE;rw[h5];rfl
     rw[hk,h6,H0,bM];simp[JP,bL]
   ·refine QhX Qii λj=>?_;rw[kB,wX (FY (key:=λn:Nd=>(n.c,n.q)) (λ_=>rfl)) U Mo j,Dq]
   ·rw[kB];refine Qic U ?_;rw[B4];exact Qih
   ·rw[kB];refine oH U ?_;rw[B4];exact Qig
  ·rw[Qd hs];exact stay ⟨λh=>absurd (XI.1 h) hs,λh=>absurd h.2 hs⟩
 ·rw[Qd bL];exact stay (XI.trans ⟨λh=>⟨bL,h⟩,(·.2)⟩)
def V0(T2:List Qn)(j:Int):Bool:=match Qy T2 j with
 | some c=>!c.leaf
 | none=>false
def Qip{T2}(M:Qk)(j id:Int):(JS T2 M j).KT id=if id=j/\V0 T2 j=true then [] else M.KT id:=by
 unfold JS V0;cases hf:Qy T2 j with
 | none=>simp
 | some c=>
  dsimp only;by_cases hl:c.leaf=true
  ·rw[Qg hl,Qd (λe=>by rw[hl]at e;exact absurd e.2 (by decide))]
  ·rw[Qd hl];dsimp only;by_cases e:id=j
   ·rw[Qg e,Qg ⟨e,by simpa using hl⟩]
   ·rw[Qd e,Qd (λh=>e h.1)]
def oN{T2}(id):∀(l:List Int) (M:Qk),id ∉ l->(l.foldl (JS T2) M).KT id=M.KT id
 | [],M,_=>rfl
 | j::l,M,h=>by
  rw[QF,Yr]at h;rw[xj,oN id l _ h.2,Qip,Qd (λe=>h.1 e.1)]
def QzJ{T2}{M}(V:DM M)(j):DM (JS T2 M j):=by
 refine⟨by rw[(QhE (T2:=T2) M j).2.1];exact V.1,λp=>?_⟩;rw[Qip];split
 ·simp[KD]
 ·exact V.2 p
def Qiq{T2}:∀(l:List Int) {M:Qk},DM M->DM (l.foldl (JS T2) M)
 | [],M,h=>h
 | j::l,M,h=>Qiq l (QzJ h j)
def oO(T2)(id:Int):∀(l:List Int) (A:List Int),id∈l.foldl (kz T2) A↔id∈A\/(id∈l/\1<QZ ((Qy T2 id).getD default).ls)
 | [],A=>by simp
 | j::l,A=>by
  rw[xj,oO T2 id l];unfold kz;constructor
  ·rintro (h|⟨h,h2⟩)
   ·split at h
    ·rename_i h3;rcases QF.1 h with rfl|h
     ·exact .inr ⟨Va,h3⟩
     ·exact .inl h
    ·exact .inl h
   ·exact .inr ⟨Ks _ h,h2⟩
  ·rintro (h|⟨h,h2⟩)
   ·refine .inl ?_;split
    ·exact Ks _ h
    ·exact h
   ·rcases QF.1 h with rfl|h
    ·refine .inl ?_;rw[Qg h2];exact Va
    ·exact .inr ⟨h,h2⟩
def B5{M:Qk}(I:Qx M){id}:id∈Vi M↔∃n,Qm M.N id=some n/\n.c.leaf=true/\n.q.l≠[]:=by
 constructor
 ·intro h;obtain⟨h1,h2⟩:=JE.1 (show id∈(jH M.T).filter _ from h);obtain⟨n,h3,h4,h5⟩:=bD I h1;refine⟨n,h3,h4,λe=>?_⟩;unfold DL QE at h2;rw[h3]at h2;simp[e]at h2
 ·rintro⟨n,hn,hl,hq⟩;have hc:=I.some hn;obtain⟨h1,h2⟩:=(Wy I.tree.rising).1 hc;refine JE.2 ⟨Jn.2 ⟨n.c,JE.2 ⟨h1,hl⟩,h2⟩,?_⟩;unfold DL QE;rw[hn];cases yc:n.q.l with
  | nil=>exact absurd yc hq
  | cons x l=>simp[yc]
section
variable {M:Qk}(I:Qx M)(V:Inv M){T2:List Qn}(I2:K0 T2)(K2:vH T2){b:Bool}(hb:jJ M T2 b=false)
include I V I2 K2 hb
theorem Inv.Rs:Qx (Yi M T2):=X.Rs I I2 K2 hb (Good.yy I V.MY) (Good.MT I V.MY)
omit I V I2 K2 in
theorem Nb{id}(Rt:yw M id=true):id ∉ JX M.T T2:=λhm=>by
 unfold jJ at hb;rw[show (JX M.T T2).any (yw M)=true from Eb.2 ⟨id,hm,Rt⟩]at hb;cases hb
omit V K2 in
theorem bO{id}(Rt:yw M id=true):Qm (Yh M T2) id=Qm M.N id:=by
 rw[HX I I2];unfold Vt;rw[FP I2.rising,Qd (Nb hb Rt)]
omit I V I2 K2 hb in
theorem Nf{a x}(h1:a∈Vi M)(h2:x∈up M.T a):yw M x=true:=Eb.2 ⟨a,h1,by simpa using h2⟩
omit V K2 in
theorem QzK{a}(h1:a∈Vi M):∀(k:Nat) (x:Int),(up M.T x).length=k->(x=0\/x∈up M.T a)->up T2 x=up M.T x:=by
 intro k;induction k using Nat.strongRecOn with
 | ind k ih=>
  intro x hk hx;rcases hx with rfl|hx
  ·rw[Hb I2,Hb I.tree]
  ·obtain⟨c,hc⟩:=Ce.1 (Fj hx);have h2:Qy T2 x=some c:=by
    refine vQ λe=>?_;exact Nb hb (Nf h1 hx) (FD.2 (by rw[hc];exact λe2=>e e2.symm))
   rw[K8 I2 h2,K8 I.tree hc];rw[K8 I.tree hc,Vu]at hk;congr 1;refine ih _ (by omega) c.parent rfl ?_;by_cases h0:c.parent=0
   ·exact .inl h0
   ·obtain⟨d,hd,_⟩:=I.tree.X9 c (wx I.tree hc) h0;refine .inr (up_sub I.tree hx ?_);rw[K8 I.tree hc];exact Ks _ (Xe I.tree hd)
omit V K2 in
theorem Qir{a}(h1:a∈Vi M):up T2 a=up M.T a:=by
 obtain⟨n,hn,_⟩:=(B5 I).1 h1;exact QzK I I2 hb h1 _ a rfl (.inr (Xe I.tree (I.some hn)))
theorem QzL{id}:id∈Vi (Yi M T2)↔id∈Vi M:=by
 have I1:=V.Rs I I2 K2 hb;rw[B5 I1];constructor
 ·rintro⟨n,h1,h2,h3⟩;have ZY:Qm (Yh M T2) id=some n:=h1;rw[HX I I2]at ZY;unfold Vt at ZY;rw[FP I2.rising]at ZY;split at ZY
  ·obtain⟨c,_,rfl⟩:=XA.1 ZY;exact absurd rfl h3
  ·exact(B5 I).2 ⟨n,ZY,h2,h3⟩
 ·intro h;obtain⟨n,h1,h2,h3⟩:=(B5 I).1 h;refine⟨n,?_,h2,h3⟩;show Qm (Yh M T2) id=some n;rw[bO I I2 hb (Nf h (Xe I.tree (I.some h1)))];exact h1
theorem oP{id}:id∈(vN M T2).A↔id∈M.A:=by
 show id∈(Vi (Yi M T2)).foldl (kz T2) []↔_;rw[oO,QzL I V I2 K2 hb,V.act id];constructor
 ·rintro (h|⟨h1,h2⟩)
  ·cases h
  ·obtain⟨n,h3,h4,h5⟩:=(B5 I).1 h1;refine⟨n,h3,h4,h5,?_⟩;have hs:id ∉ JX M.T T2:=Nb hb (Nf h1 (Xe I.tree (I.some h3)));have h6:Qy T2 id=Qy M.T id:=vQ λe=>hs (FD.2 λe2=>e e2.symm);rw[h6,I.some h3]at h2;exact h2
 ·rintro⟨n,h3,h4,h5,h6⟩;have h1:id∈Vi M:=(B5 I).2 ⟨n,h3,h4,h5⟩;refine .inr ⟨h1,?_⟩;have hs:id ∉ JX M.T T2:=Nb hb (Nf h1 (Xe I.tree (I.some h3)));have h7:Qy T2 id=Qy M.T id:=vQ λe=>hs (FD.2 λe2=>e e2.symm);rw[h7,I.some h3];exact h6
theorem oQ(id):JZ (vN M T2) id=JZ M id:=by
 have hT:(vN M T2).T=T2:=(FQ (T2:=T2) (JX M.T T2) { M with T:=T2 }).1;rw[kG];unfold JZ;rw[hT,Yy,Yy];have hl:∀a∈M.A,a∈Vi M:=λa ha=>by
  obtain⟨n,h1,h2,h3,_⟩:=(V.act a).1 ha;exact(B5 I).2 ⟨n,h1,h2,h3⟩
 constructor
 ·rintro⟨a,ha,hu⟩;have FH:=(oP I V I2 K2 hb).1 ha;exact⟨a,FH,by rw[<- Qir I I2 hb (hl a FH)];exact hu⟩
 ·rintro⟨a,ha,hu⟩;exact⟨a,(oP I V I2 K2 hb).2 ha,by rw[Qir I I2 hb (hl a ha)];exact hu⟩
theorem Inv.change:Inv (vN M T2):=by
 obtain⟨f1,f2,f3,f4,f5⟩:=FQ (T2:=T2) (JX M.T T2) { M with T:=T2 };have hL:(vN M T2).Lv=M.Lv:=f2;have h0:(0:Int) ∉ JX M.T T2:=λh=>FD.1 h (by rw[CY I.tree,CY I2]);have TB:∀{id:Int} {n:Nd},Qm M.N id=some n->n.c.leaf=true->n.q.l≠[]->Qm (vN M T2).N id=some n:=λ{id n} h1 h2 h3=>by
  show Qm (Yh M T2) id=some n;rw[bO I I2 hb (Nf ((B5 I).2 ⟨n,h1,h2,h3⟩) (Xe I.tree (I.some h1)))];exact h1
 have EV:∀{id:Int} {n:Nd},Qm (vN M T2).N id=some n->n.q.l≠[]->Qm M.N id=some n:=λ{id n} h1 h3=>by
  have ZY:Qm (Yh M T2) id=some n:=h1;rw[HX I I2]at ZY;unfold Vt at ZY;rw[FP I2.rising]at ZY;split at ZY
  ·obtain⟨c,_,rfl⟩:=XA.1 ZY;exact absurd rfl h3
  ·exact ZY
 have Vb:∀{id:Int},JZ M id=true->yw M id=true:=λ{id} h=>by
  obtain⟨a,ha,hu⟩:=Yy.1 h;obtain⟨n,h1,h2,h3,_⟩:=(V.act a).1 ha;exact Nf ((B5 I).2 ⟨n,h1,h2,h3⟩) hu
 have Qis:∀{id:Int},id ∉ JX M.T T2->(vN M T2).KT id=M.KT id:=λ{id} h=>oN id (JX M.T T2) { M with T:=T2 } h;have IN:∀{id:Int} {n:Nd},JZ M id=true->Yg (vN M T2) id n=Yg M id n:=λ{id n} h=>oy rfl (oQ I V I2 K2 hb id) (Qis (Nb hb (Vb h)));have ov:∀p x,YN (vN M T2) p x↔YN M p x:=λp x=>by
  constructor
  ·rintro⟨n,h1,h2,h3,h4⟩;rw[oQ I V I2 K2 hb]at h3;have h5:Qm M.N x.ki=some n:=by
    have:Qm (Yh M T2) x.ki=some n:=h1;rwa [bO I I2 hb (Vb h3)]at this
   exact⟨n,h5,h2,h3,by rw[<- IN h3];exact h4⟩
  ·rintro⟨n,h1,h2,h3,h4⟩;refine⟨n,?_,h2,by rw[oQ I V I2 K2 hb];exact h3,by rw[IN h3];exact h4⟩;show Qm (Yh M T2) x.ki=some n;rw[bO I I2 hb (Vb h3)];exact h1
 have ox:∀{p:Int} {x:It},YN M p x->p ∉ JX M.T T2:=λ{p x} ⟨n,h1,h2,h3,_⟩=>by
  by_cases hp:p=0
  ·rw[hp];exact h0
  ·refine Nb hb (Vb (Hc I.tree h3 ?_));have V8:=I.some h1;obtain⟨d,hd,_⟩:=I.tree.X9 n.c (wx I.tree V8) (by rw[h2];exact hp);rw[K8 I.tree V8,<- h2];exact Ks _ (Xe I.tree hd)
 refine⟨λx=>?_,λp x=>?_,λid=>?_,λid n h hl=>?_,Qiq _ V.YO,λid n h=>?_⟩
 ·rw[hL,V.lv x];constructor
  ·rintro⟨n,h1,h2,h3,h4,h5⟩;exact⟨n,TB h1 h2 h3,h2,h3,h4,h5⟩
  ·rintro⟨n,h1,h2,h3,h4,h5⟩;exact⟨n,EV h1 h3,h2,h3,h4,h5⟩
 ·rw[ov];constructor
  ·intro h;have h2:x∈M.KT p:=bG p (JX M.T T2) { M with T:=T2 } h;exact(V.kt p x).1 h2
  ·intro h;rw[Qis (ox h)];exact(V.kt p x).2 h
 ·rw[oP I V I2 K2 hb,V.act id];constructor
  ·rintro⟨n,h1,h2,h3,h4⟩;exact⟨n,TB h1 h2 h3,h2,h3,h4⟩
  ·rintro⟨n,h1,h2,h3,h4⟩;exact⟨n,EV h1 h3,h2,h3,h4⟩
 ·have ZY:Qm (Yh M T2) id=some n:=h;rw[HX I I2]at ZY;unfold Vt at ZY;rw[FP I2.rising]at ZY;split at ZY
  ·obtain⟨c,_,rfl⟩:=XA.1 ZY;rfl
  ·exact V.B2 id n ZY hl
 ·have ZY:Qm (Yh M T2) id=some n:=h;rw[HX I I2]at ZY;unfold Vt at ZY;rw[FP I2.rising]at ZY;split at ZY
  ·obtain⟨c,hc,rfl⟩:=XA.1 ZY;exact QhC (K2 c (wx I2 hc))
  ·exact V.ok id n ZY
end
def vK.uniq{M}{now}{o o'}(a:vK M now o)(b:vK M now o'):o=o':=by
 unfold vK at a b;cases o with
 | none=>
  cases o' with
  | none=>rfl
  | some y=>
   have h1:_=[]:=a;have h2:=Vq.mem b;rw[h1]at h2;cases h2
 | some x=>
  cases o' with
  | none=>
   have h1:_=[]:=b;have h2:=Vq.mem a;rw[h1]at h2;cases h2
  | some y=>exact congrArg some (Vq.uniq a b)
def vK.QzM{M:Qk}{now}{o:Option It}(h:vK M now o)(hn:now<=4611686018427387904):o.isSome=true↔∃x∈M.Lv,x.ka<=now:=by
 have e:min now 9223372036854775807=now:=by omega
 unfold vK at h;rw[e]at h;cases o with
 | none=>
  have h1:M.Lv.filter (λx=>decide (x.ka<=now))=[]:=h;constructor
  ·intro h;cases h
  ·rintro⟨x,hx,h2⟩;have:x∈M.Lv.filter (λx=>decide (x.ka<=now)):=JE.2 ⟨hx,by simpa using h2⟩;rw[h1]at this;cases this
 | some x=>
  refine⟨λ_=>?_,λ_=>rfl⟩;obtain⟨h1,h2⟩:=JE.1 (Vq.mem h);exact⟨x,h1,by simpa using h2⟩
def QzN{L}(hs:KD L){now}(hn:now<=4611686018427387904):Ry L<=now↔∃x∈L,x.ka<=now:=by
 unfold Ry;cases L with
 | nil=>simp[never];omega
 | cons y L=>
  simp only[List.head?_cons];have hnv:never=9223372036854775808:=rfl;constructor
  ·intro h;exact⟨y,Va,by omega⟩
  ·rintro⟨x,hx,h⟩;have h2:y.ka<=x.ka:=by
    rcases QF.1 hx with rfl|hx
    ·exact QD _
    ·have h3:y.lt x:=(yF.1 hs).1 x hx;unfold It.lt JW at h3;omega
   omega
def Qit{L}{now}(hn:now<=4611686018427387904):Az L<=now↔∃x∈L,x.va<=now:=by
 obtain⟨h1,h2,h3⟩:=iU L never;have hnv:never=9223372036854775808:=rfl;unfold Az;constructor
 ·intro h;rcases h3 with h3|⟨x,hx,h3⟩
  ·omega
  ·exact⟨x,hx,by omega⟩
 ·rintro⟨x,hx,h⟩;have:=h2 x hx;omega
def Qiu{M:Qk}{now}(hn:now<=4611686018427387904){p:Int}:(firstM M now p).isSome=true↔∃x∈M.KT p,x.va<=now:=by
 unfold firstM;rw[List.find?_isSome];have e:min now 9223372036854775807=now:=by omega
 simp[e]
def QzP(T)(id:Int):(up T id).length<=16:=Ar
def Qiv{M:Qk}(I:Qx M)(V:Inv M){now}(hn:now<=4611686018427387904):∀(k:Nat) (p:Int),17<=k+(up M.T p).length->(∃x∈M.KT p,x.va<=now)->(ym M now k p).isSome=true
 | 0,p,hk,_=>by
  have:=QzP M.T p;omega
 | k+1,p,hk,h=>by
  have h1:=(Qiu hn).2 h;unfold ym;cases hf:firstM M now p with
  | none=>rw[hf]at h1;cases h1
  | some x=>
   dsimp only;have hx:x∈M.KT p:=xk hf;have hv:x.va<=now:=by
    have:=vR hf;simp only[Yq]at this;omega
   obtain⟨n,h2,h3,h4,h5⟩:=(V.kt p x).1 hx;have Z2:QE M x.ki=n:=by unfold QE;rw[h2];rfl
   rw[Z2];by_cases hl:n.c.leaf=true
   ·rw[Qg hl];rfl
   ·rw[Qd hl];have h6:x.va=Yg M x.ki n:=congrArg It.va h5;unfold Yg at h6;rw[Qd (by rw[h4];simp[hl])]at h6;have h7:Az (M.KT x.ki)<=now:=by omega
    refine Qiv I V hn k x.ki ?_ ((Qit hn).1 h7);rw[K8 I.tree (I.some h2),h3,Vu];omega
def QzQ{M}(I:Qx M)(V:Inv M){now}(hn:now<=4611686018427387904){o:Option It}(ho:vK M now o):(KV M now o).isSome=true↔KQ M<=now:=by
 have h1:=ho.QzM hn;have h2:=QzN V.YO.1 hn;have h3:=Qit (L:=M.KT 0) hn;have h4:KQ M<=now↔Ry M.Lv<=now\/Az (M.KT 0)<=now:=by unfold KQ;omega
 rw[h4,h2,h3];cases o with
 | some x=>simp only[KV,jP,true_iff];exact .inl (h1.1 rfl)
 | none=>
  have h5:¬ ∃x∈M.Lv,x.ka<=now:=λh=>by cases h1.2 h
  simp only[KV,Option.isSome_map];constructor
  ·intro h;refine .inr ?_;unfold ym at h;cases hf:firstM M now 0 with
   | none=>rw[hf]at h;cases h
   | some x=>exact(Qiu hn).1 (by rw[hf];rfl)
  ·rintro (h|h)
   ·exact absurd h h5
   ·exact Qiv I V hn 17 0 (by rw[Hb I.tree];simp) h
def RG(c:Cf):Bool:=decide (1<=c.t)&&decide (c.t<=65536)&&decide (1<=c.Vc)&&decide (c.Vc<=16384)
def QzR(c:Cf):Zh prog 10 [.agg c.cells] (Qo (QY (RG c))):=by
 unfold RG;refine Zy 0 Qh 200 func10 rfl ntmps10 results10 rfl λbase w hb=>?_;simp only[go_sem];all_goals (cases h1:decide (1<=c.t)<;>cases h2:decide (c.t<=65536)<;>cases h3:decide (1<=c.Vc)<;>cases h4:decide (c.Vc<=16384)<;>simp only[go_sem,h1,h2,h3,h4])
def RH:List It->Option It
 | []=>none
 | x::l=>match RH l with
  | none=>some x
  | some y=>some (zq x y)
def Qiw:∀L:List It,wz (RH L) L
 | []=>rfl
 | x::l=>by
  have h:=Qiw l;unfold RH;cases hb:RH l with
  | none=>
   rw[hb]at h;have h2:l=[]:=h;subst h2;exact Vq.one x
  | some y=>
   rw[hb]at h;exact Vq.join (Vq.one x) h
def Qix(M:Qk)(now:Nat):Option It:=RH (M.Lv.filter λx=>decide (x.ka<=min now 9223372036854775807))
def RI(M)(now):vK M now (Qix M now):=Qiw _
def zO(M:Qk)(now:Nat):Option (Int × Bool):=if kr M now=true then KV (ZI M now) now (Qix (ZI M now) now) else none
def takeN(M:Qk)(now:Nat):Qk:=match zO M now with
 | none=>ZI M now
 | some x=>Xn (ZI M now) x.1 x.2
def kC(M:Qk)(now:Nat):Int:=match zO M now with
 | none=>0
 | some x=>x.1
def qs(M:Qk)(now:Nat):Pk:=match zO M now with
 | none=>default
 | some x=>(QE M x.1).q.l.headD default
def FZ(M:Qk)(now:Nat):Bool:=match zO M now with
 | none=>false
 | some x=>x.2
def YP(M:Qk)(now:Nat):Bool:=(zO M now).isSome
def QzS{M M'}{now}{d}(h:Rh M now d M'):M'=takeN M now/\d=.tup [.agg (YL (kC M now) (qs M now) (FZ M now)),QY (YP M now)]:=by
 rcases h with ⟨h1,rfl,rfl⟩|⟨h1,o,h2,h3⟩
 ·have e:zO M' now=none:=by unfold zO;rw[Qd (by rw[h1];exact Qhn)]
  have e2:ZI M' now=M':=by unfold ZI;rw[Qd (by rw[h1];exact Qhn)]
  unfold takeN kC qs FZ YP;rw[e];exact⟨e2.symm,rfl⟩
 ·have e:zO M now=KV (ZI M now) now o:=by unfold zO;rw[Qg h1,(RI (ZI M now) now).uniq h2]
  unfold takeN kC qs FZ YP;rw[e];cases hp:KV (ZI M now) now o with
  | none=>
   rw[hp]at h3;exact⟨h3.2,h3.1⟩
  | some x=>
   rw[hp]at h3;exact⟨h3.2,h3.1⟩
structure kD (own:Nat->Tag) (h:List Ob) (p:Nat) (M:Qk):Prop where
 ex:∃L,Zs own h p L M
 I:Qx M
 V:Inv M
 K:jF M.lk
def kD.step{own own'}{h h':List Ob}{p}{M}(C:kD own h p M)(e:∀l,l<h.length->Live (own l)->own' l=own l/\h'[l]? = h[l]?):kD own' h' p M:=
 ⟨C.ex.imp λ_ c=>c.step e,C.I,C.V,C.K⟩
def kD.QjH{own}{h}{p}{M}(C:kD own h p M)(g):kD (QS own h .no) (h++g) p M:=C.step λl hl _=>⟨JY hl,QC hl⟩
def Qiy(l:List Int)(M:Qk):(Vy M l).lk=M.lk:=(HL l M).2.2.2.2.2.2.2.2
def QzT(M:Qk)(id:Int):(WZ M id).lk=M.lk:=by
 unfold WZ;split
 ·exact(FJ _ _).2.2.1
 ·rfl
def QzU(M:Qk)(id)(r:Bool):(Xn M id r).lk=M.lk:=by
 unfold Xn;dsimp only;rw[Qiy];have h1:(VH ((up M.T id).foldl (Vr ((QE M id).q.l.headD default).len.toNat) (WQ M id)) id ((QE M id).q.l.headD default).len r).lk=M.lk:=by
  rw[(MO _ _ _ _).2.2.2.1,(HT _ _ _).2.2.2.1];rfl
 split
 ·rw[QzT,h1]
 ·exact h1
def QzV(M:Qk)(now)(id)(head:Int):(qR M now id head).lk=M.lk:=by
 unfold qR;split
 ·rw[Qiy,(HO _ _ _).2.2.2.1];exact P5.2.2.2
 ·exact P5.2.2.2
def bT(M:Qk)(now:Nat):(ZI M now).lk=M.lk:=(Qht M now).1
def QzW(M:Qk)(now)(cls)(x:Pk):(Vs M now cls x).lk=M.lk:=by
 unfold Vs;split
 ·rfl
 ·split
  ·split
   ·rw[QzV];rfl
   ·rfl
  ·rfl
def bU(M:Qk)(now)(cls)(x:Pk):(KO M now cls x).lk=M.lk:=by
 unfold KO;split
 ·rw[QzW,bT]
 ·rfl
def Qiz(M:Qk)(now:Nat):(takeN M now).lk=M.lk:=by
 unfold takeN;split
 ·exact bT M now
 ·rw[QzU,bT]
def bV(M:Qk)(b)(l:List Z3):(KP M b l).lk=M.lk:=by
 unfold KP;split
 ·exact(FQ _ _).2.2.1
 ·rfl
def QzX{M:Qk}{now}(h:kr M now=true):M.Ql<=now/\now<=4611686018427387904:=by
 unfold kr at h;simp only[qy,Ea,NP]at h;omega
def Inv.pick{M:Qk}(I:Qx M)(V:Inv M){now}{o}(ho:vK M now o){id}{r}(hp:KV M now o=some (id,r)):∃n,Qm M.N id=some n/\n.c.leaf=true/\n.q.l≠[]/\(1<QZ n.c.ls->id∈M.A):=Good.nw I V.MY now o id r ho hp
def Inv.takeN{M}(I:Qx M)(V:Inv M)(now):Inv (takeN M now):=by
 unfold X.takeN;cases hp:zO M now with
 | none=>exact V.told now
 | some x=>
  unfold zO at hp;split at hp
  ·obtain⟨n,h1,h2,h3,_⟩:=(V.told now).pick (yo I now) (RI _ _) hp;exact(V.told now).take (yo I now) h1 h2 h3 x.2
  ·cases hp
def Inv.KP{M}(I:Qx M)(V:Inv M)(b)(l)(hc:∀c∈l,Z3.Ok c):Inv (KP M b l):=by
 unfold X.KP;split
 ·rename_i h;have h2:jJ M (KG M.T l) b=false:=by
   unfold zN at h;split at h
   ·rename_i h3;exact absurd h h3
   ·split at h
    ·cases h
    ·rename_i h4;simpa using h4
  obtain⟨h3,h4⟩:=aQ I.tree I.yi hc;exact V.change I h3 h4 h2
 ·exact V
def QzY{c}:RG c=true↔jF c:=by
 unfold RG;simp only[ZJ,Yq];exact⟨λh=>⟨h.1.1.1,h.1.1.2,h.1.2,h.2⟩,λh=>⟨⟨⟨h.t1,h.t2⟩,h.l1⟩,h.l2⟩⟩
section
variable {own:Nat->Tag}{h:List Ob}{p:Nat}{M:Qk}(C:kD own h p M)
include C
theorem QzZ(now)(VO:now<18446744073709551616)(cls)(x):
  MFn prog 84 h [.ptr p 0 0 0,u64 now,Qb cls,.agg x.cells] (λd h'=>d=Qb (vL M now cls x)/\∃own',kD own' h' p (KO M now cls x)/\Zn own h own' h'):=by
 obtain⟨L,c⟩:=C.ex;refine MFn.mono (Qx1 c C.I C.K now VO cls x (Good.hA C.I C.V.MY cls)) ?_;rintro d h' ⟨own',M',c',I',D,hd,rfl⟩;exact⟨hd,own',⟨⟨L,c'⟩,I',C.V.KO C.I now VO cls x,by rw[bU];exact C.K⟩,D⟩
theorem Qz0(now):
  MFn prog 139 h [.ptr p 0 0 0,u64 now] (λd h'=>d=.tup [.agg (YL (kC M now) (qs M now) (FZ M now)),QY (YP M now)]/\∃own',kD own' h' p (takeN M now)/\Zn own h own' h'):=by
 obtain⟨L,c⟩:=C.ex;refine MFn.mono (QxL c C.I now λo id r ho hp=>?_) ?_
 ·obtain⟨n,h1,h2,h3,h4⟩:=(C.V.told now).pick (yo C.I now) ho hp;exact⟨n,by rw[<- (FM M now).1];exact h1,h2,h3,by rw[<- (FM M now).2.2];exact h4⟩
 ·rintro d h' ⟨own',M',c',I',D,hR⟩;obtain⟨rfl,hd⟩:=QzS hR;exact⟨hd,own',⟨⟨L,c'⟩,I',C.V.takeN C.I now,by rw[Qiz];exact C.K⟩,D⟩
theorem Qz1(b)(l:List Z3)(hc:∀c∈l,Z3.Ok c)(hl:l.length<1000000):
  MFn prog 41 h [.ptr p 0 0 0,QY b,PY l] (λd h'=>d=.tup [Qb (yx M l),Qb (zN M b l)]/\∃own',kD own' h' p (KP M b l)/\Zn own h own' h'):=by
 obtain⟨L,c⟩:=C.ex;refine MFn.mono (QyW c C.I C.K b l hc hl (Good.yy C.I C.V.MY) (Good.MT C.I C.V.MY)) ?_;rintro d h' ⟨own',L',M',c',I',D,hd,rfl⟩;exact⟨hd,own',⟨⟨L',c'⟩,I',C.V.KP C.I b l hc,by rw[bV];exact C.K⟩,D⟩
end
def Qz2(own)(h){c}(K:jF c):
  MFn prog 36 h [.agg c.cells] (λd h'=>∃own' p,d=.tup [.ptr p 0 0 0,Qb 0]/\kD own' h' p (M0 c)/\Zn own h own' h'):=by
 refine MFn.mono (Qyd (own:=own) c) ?_;rintro d h' (⟨_,own',L,p,hd,c',I',D⟩|⟨hk,_⟩)
 ·exact⟨own',p,hd,⟨⟨L,c'⟩,I',Qzl c,K⟩,D⟩
 ·exact absurd K hk
end Go.Fg.X
namespace Go.Fg
open Go.RowKit (Below)
def QI.Qz3{w0}{fr}{h}(t sz)(ht:get fr t=.nil):
  QI w0 ⟨fr,h⟩ ⟨put fr t (.ref h.length 0 0 0),h++[(⟨.arr,0,sz,0,λ_=>[]⟩:Ob)]⟩:=by
 intro Z z base nt pl a w r b;have hlen:pl.length=h.length:=r.o.len;have R1:=r.o.Ch ⟨.arr,0,sz,0,λ_=>[]⟩ rfl;have T1:Tr h pl w (h++[(⟨.arr,0,sz,0,λ_=>[]⟩:Ob)]) (pl++[none]) w:=Tr.push r.o (λ_ _=>rfl) _ _ (by intro b q e;simp at e);have hph:(h++[(⟨.arr,0,sz,0,λ_=>[]⟩:Ob)])[h.length]? = some ⟨.arr,0,sz,0,λ_=>[]⟩:=by simp
 have k2:=r.fr t;rw[show get (St.fr ⟨fr,h⟩) t=.nil from ht]at k2;obtain⟨a0,hv⟩:=Cj k2;have r2:Rel Z base nt ⟨fr,h++[⟨.arr,0,sz,0,λ_=>[]⟩]⟩ (pl++[none]) a w:=⟨r.nt,r.defers,λu=>(r.fr u).tr T1,R1⟩;refine⟨pl++[none],r2.tell (t:=t) ?_,b.step T1 (Below.refl _ _)⟩;rw[hv];refine .ref _ _ _ _ ⟨.arr,0,sz,0,λ_=>[]⟩ none a0 0 hph ?_ rfl (QD _) (λ_=>.inl ⟨rfl,rfl⟩);rw[<- hlen];simp
end Go.Fg
namespace Go.Fg.X
open Go.Proofs Go.Fg
open Go.Proofs.Tryz
def JN(M:Qk)(id:Int):List Pk:=(QE M id).q.l
def AU(n:Nd):List Pk:=n.q.l
def RJ{M M':Qk}{id:Int}(h:(Qm M'.N id).map AU=(Qm M.N id).map AU):JN M' id=JN M id:=by
 unfold JN QE;cases h1:Qm M.N id with
 | none=>
  rw[h1,YU,dw]at h;rw[h]
 | some n=>
  rw[h1]at h;obtain⟨m,h2,h3⟩:=XA.1 h;rw[h2];exact h3
def Qz5(M:Qk)(now)(id)(head:Int)(j:Int):(Qm (qR M now id head).N j).map AU=(Qm M.N j).map AU:=by
 have h1:(Qm (Wa M now id head).N j).map AU=(Qm M.N j).map AU:=by
  rw[oD];split
  ·cases Qm M.N j<;>rfl
  ·rfl
 unfold qR;split
 ·rw[(HL _ _).1,wX (key:=AU) (λM j id=>QhZ now (λ_ _=>rfl) M j id)];exact h1
 ·exact h1
def Qz6{M}(now)(cls)(x)(leaf):JN (Vs M now cls x) leaf=if Vh M cls x=0/\cls=leaf then JN M leaf++[x] else JN M leaf:=by
 have push:∀j,j≠cls->JN (Vg M cls x) j=JN M j:=λj hj=>RJ (by rw[HZ,Qd hj]);cases hn:Qm M.N cls with
 | none=>
  have e:Vh M cls x=23:=by unfold Vh;rw[hn]
  unfold Vs;rw[e,Qd (by decide),Qd (by decide),Qd (λh=>absurd h.1 (by decide))]
 | some n=>
  have Z2:QE M cls=n:=by unfold QE;rw[hn];rfl
  have at_:JN (Vg M cls x) cls=(Xj n.c.ZF n.c.bytes n.q x).l:=by
   unfold JN QE;rw[HZ,Qg rfl,hn,Z2];rfl
  have q0:JN M cls=n.q.l:=by unfold JN;rw[Z2]
  by_cases yz:Vh M cls x=30
  ·obtain⟨_,h2⟩:=Qh7 hn yz;unfold Vs;rw[Qg yz,Qd (λh=>by rw[yz]at h;exact absurd h.1 (by decide))];by_cases e:leaf=cls
   ·rw[e,at_,q0];unfold Xj;rw[Qg h2]
   ·exact push leaf e
  ·by_cases h0:Vh M cls x=0
   ·obtain⟨_,h2,_⟩:=oF hn h0;have h3:JN (Vs M now cls x) leaf=JN (Vg M cls x) leaf:=by
     unfold Vs;rw[Qd yz,Qg h0];split
     ·exact RJ (Qz5 _ _ _ _ _)
     ·rfl
    rw[h3];by_cases e:leaf=cls
    ·rw[Qg ⟨h0,e.symm⟩,e,at_,q0,QhY h2]
    ·rw[Qd (λh=>e h.2.symm)];exact push leaf e
   ·unfold Vs;rw[Qd yz,Qd h0,Qd (λh=>h0 h.1)]
def oS(M)(now:Nat)(id):JN (ZI M now) id=JN M id:=RJ (by rw[(FM M now).1])
def Qz7(M)(now)(cls)(x)(leaf):JN (KO M now cls x) leaf=if vL M now cls x=0/\cls=leaf then JN M leaf++[x] else JN M leaf:=by
 unfold KO vL;split
 ·rw[Qz6,oS]
 ·rw[Qd (λh=>absurd h.1 (by decide))]
def Qz8(M)(id)(r)(j:Int):JN (Xn M id r) j=if j=id then (JN M j).tail else JN M j:=by
 have h1:JN (Xn M id r) j=JN (WQ M id) j:=by
  refine RJ ?_;unfold Xn;dsimp only;rw[(HL _ _).1];have h2:(Qm (VH ((up M.T id).foldl (Vr ((QE M id).q.l.headD default).len.toNat) (WQ M id)) id ((QE M id).q.l.headD default).len r).N j).map AU=(Qm (WQ M id).N j).map AU:=by
   rw[Qie];have h4:=wX (key:=AU) (step:=Vr ((QE M id).q.l.headD default).len.toNat) (λM2 j id2=>Qid _ (λ_=>rfl) M2 j id2) (up M.T id) (WQ M id) j;rw[<- h4];split
   ·cases Qm ((up M.T id).foldl (Vr ((QE M id).q.l.headD default).len.toNat) (WQ M id)).N j<;>rfl
   ·rfl
  split
  ·unfold WZ;split
   ·rw[wX (key:=AU) (FY (λ_=>rfl))];exact h2
   ·exact h2
  ·exact h2
 rw[h1];have Na:Qm (WQ M id).N j=if j=id then (Qm M.N j).map (λn=>{ n with q:=Wz (QE M id).q }) else Qm M.N j:=
  zJ (f:=λn:Nd=>{ n with q:=Wz (QE M id).q }) (λ_=>rfl) j
 by_cases e:j=id
 ·rw[Qg e];unfold JN QE;rw[Na,Qg e,e];unfold QE;cases h5:Qm M.N id<;>rfl
 ·rw[Qd e];exact RJ (by rw[Na,Qd e])
def oT(M)(now)(j:Int):JN (takeN M now) j=if YP M now=true/\kC M now=j then (JN M j).tail else JN M j:=by
 unfold takeN YP kC;cases hp:zO M now with
 | none=>rw[Qd (λh=>by cases h.1)];exact oS M now j
 | some x=>
  dsimp only;rw[Qz8,oS];by_cases e:j=x.1
  ·rw[Qg e,Qg ⟨rfl,e.symm⟩]
  ·rw[Qd e,Qd (λh=>e h.2.symm)]
def QiA{M}(I:Qx M)(V:Inv M){now}(h:YP M now=true):∃x l,JN M (kC M now)=x::l/\qs M now=x:=by
 unfold YP at h;obtain⟨y,hp⟩:=Ce.1 h;have hj:kC M now=y.1:=by unfold kC;rw[hp]
 have hk:qs M now=(JN M y.1).headD default:=by unfold qs;rw[hp];rfl
 unfold zO at hp;split at hp
 ·obtain⟨n,h1,h2,h3,_⟩:=(V.told now).pick (yo I now) (RI _ _) hp;rw[(FM M now).1]at h1;have hq:JN M y.1=n.q.l:=by unfold JN QE;rw[h1];rfl
  cases hl:n.q.l with
  | nil=>exact absurd hl h3
  | cons x l=>exact⟨x,l,by rw[hj,hq,hl],by rw[hk,hq,hl];rfl⟩
 ·cases hp
end Go.Fg.X
namespace Go.Fg.X
open Go.Proofs Go.Fg
end Go.Fg.X
namespace Go.Fg.X
open Go.Proofs Go.Fg
open Go.Proofs.Tryz
def c6:Cf:=⟨1,100⟩
end Go.Fg.X
namespace Go.Fg.X
open Go.Proofs Go.Fg
end Go.Fg.X
namespace Go.Fg.X
open Go.Proofs Go.Fg
end Go.Fg.X
namespace Go.Fg.X
open Go.Proofs Go.Fg
open Go.Proofs.Tryz
def QAb(M:Qk)(l:List Int):Nat:=(l.map λj=>(QE M j).Jb).sum
structure QFM (M:Qk):Prop where
 leaf:∀id n,Qm M.N id=some n->n.c.leaf=true->n.Jb=n.q.bo
 inner:∀id n,Qm M.N id=some n->n.c.leaf=false->n.Jb=WY (QAb M (Wh M.T id))
def QFN(n:Nd):Qn × Nat × Nat:=(n.c,n.Jb,n.q.bo)
def QAc(M:Qk)(id)(r:Bool):(Xn M id r).T=M.T:=by
 unfold Xn;dsimp only;rw[(HL _ _).2.1];have h1:(VH ((up M.T id).foldl (Vr ((QE M id).q.l.headD default).len.toNat) (WQ M id)) id ((QE M id).q.l.headD default).len r).T=M.T:=by
  rw[(MO _ _ _ _).1,(HT _ _ _).1];rfl
 split
 ·unfold WZ;split
  ·rw[(FJ _ _).1];exact h1
  ·exact h1
 ·exact h1
def Qx.up{M:Qk}(I:Qx M){id j}(h:j∈X.up M.T id):∃n,Qm M.N j=Option.some n:=by
 obtain⟨c,hc⟩:=Ce.1 (Fj h);obtain⟨n,h1,_⟩:=I.QlF hc;exact⟨n,h1⟩
def Qx.bW:∀(l:List Int) {M:Qk},Qx M->Vj M->(∀j∈l,∃n,Qm M.N j=Option.some n)->Qx (Vy M l)
 | [],M,I,_,_=>I
 | id::l,M,I,V,h=>by
  obtain⟨n,hn⟩:=h id Va;have s1:=(MC M id).1;exact Qx.bW l (mT I hn (V id n hn)) (by unfold Vj;rw[s1];exact V) (by rw[s1];exact λj hj=>h j (Ks _ hj))
def QAd{M:Qk}(V:Vj M){id}{n}(hn:Qm M.N id=some n)(Ju)(r):Vj (VH M id Ju r):=by
 have Z2:QE M id=n:=by unfold QE;rw[hn];rfl
 unfold VH;split
 ·exact FX (f:=λm:Nd=>{ m with du:=YJ (QE M id) Ju r }) (λ_=>rfl) (λm _ h=>⟨h.Jb,by rw[Z2];exact mX (V id n hn) Ju r,h.sh,h.cp,h.c⟩) V
 ·exact V
def QAe{M}(V:Vj M)(id):Vj (WZ M id):=by
 unfold WZ;split
 ·exact oH _ (M:={ M with A:=JP M.A id }) V
 ·exact V
def Qx.Xn{M:Qk}(I:Qx M)(V:Vj M){id}{n}(hn:Qm M.N id=Option.some n)(r):Qx (Xn M id r):=by
 unfold X.Xn;dsimp only;generalize ((QE M id).q.l.headD default).len=len;obtain⟨M2,qp⟩:∃M2,M2=(X.up M.T id).foldl (X.Vr len.toNat) (X.WQ M id):=⟨_,rfl⟩;rw[<- qp];have I2:Qx M2:=by rw[qp];exact Qx.bj _ (I.WQ id)
 obtain⟨b1,_⟩:=HT len.toNat (X.up M.T id) (X.WQ M id);rw[<- qp]at b1;have V2:Vj M2:=by
  rw[qp];exact oI _ _ (FX (f:=λn:Nd=>{ n with q:=Wz (QE M id).q }) (λ_=>rfl) (λn _ h=>⟨h.Jb,h.du,h.sh,h.cp,h.c⟩) V)
 have BX:M2.T=M.T:=b1;obtain⟨n2,VC⟩:=I2.up (id:=id) (j:=id) (by rw[BX];exact Xe I.tree (I.some hn));have I3:=I2.VH VC len r;have V3:=QAd V2 VC len r;have zL:(X.VH M2 id len r).T=M.T:=(MO M2 id len r).1.trans BX;split
 ·have I4:=I3.WZ id;have FL:(X.WZ (X.VH M2 id len r) id).T=M.T:=by
   unfold X.WZ;split
   ·rw[(FJ _ _).1];exact zL
   ·exact zL
  exact I4.bW _ (QAe V3 id) λj hj=>I4.up (id:=id) (by rw[FL];exact hj)
 ·exact I3.bW _ V3 λj hj=>I3.up (id:=id) (by rw[zL];exact hj)
def QAf{M:Qk}(V:Vj M){id}{n}(hn:Qm M.N id=some n)(now)(VO:now<18446744073709551616)(head):Vj (Wa M now id head):=λj k hj=>by
 have Z2:QE M id=n:=by unfold QE;rw[hn];rfl
 rw[oD,Z2]at hj;split at hj
 ·obtain⟨k0,h1,rfl⟩:=XA.1 hj;have h2:=V j k0 h1;exact⟨h2.Jb,lK (V id n hn).du (V id n hn).c.2.2.2.1.lt VO head,h2.sh,h2.cp,h2.c⟩
 ·exact V j k hj
def QiC{now}(VO:now<18446744073709551616):∀(l:List Int) (M:Qk),Qx M->Vj M->Vj (l.foldl (WB now) M)
 | [],M,_,V=>V
 | j::l,M,I,V=>QiC VO l _ (I.WB now j) (FX (f:=BU M now) (λ_=>rfl) (λn _ hn=>m6 I VO hn) V)
def Qx.qR{M:Qk}(I:Qx M)(V:Vj M){id}{n:Nd}(hn:Qm M.N id=Option.some n)(hl:n.c.leaf=true)(now)(VO:now<18446744073709551616)(head):Qx (qR M now id head):=by
 have Z2:QE M id=n:=by unfold QE;rw[hn];rfl
 have I2:=I.Wa hn now head;have V2:=QAf V hn now VO head;obtain⟨w1,w2,w3,w4⟩:=P5 (M:=M) (now:=now) (id:=id) (head:=head);unfold X.qR;rw[Z2];split
 ·rename_i hs;have I3:Qx { X.Wa M now id head with A:=id::M.A }:=I2.act λa ha=>by
   rw[w1];rcases QF.1 ha with rfl|ha
   ·exact⟨n.c,I.some hn,hl,hs⟩
   ·exact I.Yf a ha
  have I4:=Qx.P4 (now:=now) (WL M.T M.A id) I3;have V4:=QiC VO (WL M.T M.A id) _ I3 V2;obtain⟨t1,_⟩:=HO now (WL M.T M.A id) { X.Wa M now id head with A:=id::M.A };exact I4.bW _ V4 λj hj=>I4.up (id:=id) (by rw[t1];show j∈X.up (X.Wa M now id head).T id;rw[w1];exact hj)
 ·exact I2
def Qx.Vs{M}(I:Qx M)(V:Vj M)(now)(VO:now<18446744073709551616)(cls)(x):Qx (Vs M now cls x):=by
 unfold X.Vs;cases hn:Qm M.N cls with
 | none=>
  have e:Vh M cls x=23:=by unfold Vh;rw[hn]
  rw[e,Qd (by decide),Qd (by decide)];exact I
 | some n=>
  have Z2:QE M cls=n:=by unfold QE;rw[hn];rfl
  by_cases yz:Vh M cls x=30
  ·rw[Qg yz];exact I.Vg cls x
  ·rw[Qd yz];by_cases h0:Vh M cls x=0
   ·rw[Qg h0,Z2];obtain⟨h1,h2,h3,h4,h5⟩:=oF hn h0;have I2:=(I.Vg cls x).kv h5;split
    ·refine I2.qR (oC V cls x) (n:={ n with q:=Xj n.c.ZF n.c.bytes n.q x }) ?_ h1 now VO x.len;show Qm (X.Vg M cls x).N cls=_;rw[HZ,Qg rfl,hn,Z2];rfl
    ·exact I2
   ·rw[Qd h0];exact I
def Qx.KO{M}(I:Qx M)(V:Inv M)(now)(VO:now<18446744073709551616)(cls)(x):Qx (KO M now cls x):=by
 unfold X.KO;split
 ·exact(yo I now).Vs (V.told now).ok now VO cls x
 ·exact I
def Qx.takeN{M}(I:Qx M)(V:Inv M)(now):Qx (takeN M now):=by
 unfold X.takeN;cases hp:zO M now with
 | none=>exact yo I now
 | some x=>
  unfold zO at hp;split at hp
  ·obtain⟨n,h1,h2,h3,_⟩:=(V.told now).pick (yo I now) (RI _ _) hp;exact(yo I now).Xn (V.told now).ok h1 x.2
  ·cases hp
def Qx.KP{M}(I:Qx M)(V:Inv M)(b)(l)(hc:∀c∈l,Z3.Ok c):Qx (KP M b l):=by
 unfold X.KP;split
 ·rename_i h;have h2:jJ M (KG M.T l) b=false:=by
   unfold zN at h;split at h
   ·rename_i h3;exact absurd h h3
   ·split at h
    ·cases h
    ·rename_i h4;simpa using h4
  obtain⟨h3,h4⟩:=aQ I.tree I.yi hc;have I1:=V.Rs I h3 h4 h2;have hT:(Yi M (KG M.T l)).T=KG M.T l:=(FQ (T2:=KG M.T l) (JX M.T (KG M.T l)) { M with T:=KG M.T l }).1;refine I1.act λa ha=>?_;rcases (oO (KG M.T l) a (Vi (Yi M (KG M.T l))) []).1 ha with h5|⟨h5,h6⟩
  ·cases h5
  ·obtain⟨n,h7,h8,h9⟩:=(B5 I1).1 h5;have YW:=I1.some h7;refine⟨n.c,YW,h8,?_⟩;rw[hT]at YW;rw[YW]at h6;exact h6
 ·exact I
def QiD(l:List Int)(M:Qk):(Vy M l).Ql=M.Ql:=(HL l M).2.2.2.2.2.2.1
def QAg(M:Qk)(id:Int):(WZ M id).Ql=M.Ql:=by
 unfold WZ;split
 ·exact(FJ _ _).2.2.2.1
 ·rfl
def QAh(M:Qk)(id)(r:Bool):(Xn M id r).Ql=M.Ql:=by
 unfold Xn;dsimp only;rw[QiD];have h1:(VH ((up M.T id).foldl (Vr ((QE M id).q.l.headD default).len.toNat) (WQ M id)) id ((QE M id).q.l.headD default).len r).Ql=M.Ql:=by
  rw[(MO _ _ _ _).2.2.2.2.1,(HT _ _ _).2.2.2.2.1];rfl
 split
 ·rw[QAg,h1]
 ·exact h1
def QiE(M:Qk)(now)(id)(head:Int):(Wa M now id head).Ql=M.Ql:=by
 unfold Wa;split<;>rfl
def QAi(M:Qk)(now)(id)(head:Int):(qR M now id head).Ql=M.Ql:=by
 unfold qR;split
 ·rw[QiD,(HO _ _ _).2.2.2.2.1];exact QiE M now id head
 ·exact QiE M now id head
def QAj(M:Qk)(now)(cls)(x:Pk):(Vs M now cls x).Ql=M.Ql:=by
 unfold Vs;split
 ·rfl
 ·split
  ·split
   ·rw[QAi];rfl
   ·rfl
  ·rfl
def oU(M:Qk)(now:Nat):(ZI M now).Ql=M.Ql\/((ZI M now).Ql=now/\now<=4611686018427387904):=by
 unfold ZI;split
 ·rename_i h;exact .inr ⟨rfl,(QzX h).2⟩
 ·exact .inl rfl
def QiF{M:Qk}(I:Qx M)(V:Inv M){now}(hn:now<=4611686018427387904)(hc:M.Ql<=now):YP M now=decide (KQ M<=now/\KQ M<9223372036854775808):=by
 have ht:kr M now=true:=by
  unfold kr;simp only[qy,Ea,NP];omega
 have h1:=QzQ (yo I now) (V.told now) hn (RI (ZI M now) now);have h2:KQ (ZI M now)=KQ M:=by unfold ZI;split<;>rfl
 rw[h2]at h1;unfold YP zO;rw[Qg ht,kG,h1,Yq];omega
def VQ(M:Qk):Nat:=(M.T.map λc=>(JN M c.iD).length).sum
def QiG{f f':Int->Nat}{q:Int}:∀{l:List Qn},(l.map (·.iD)).Nodup->q∈l.map (·.iD)->f' q+1=f q->(∀j,j≠q->f' j=f j)->(l.map λc=>f' c.iD).sum+1=(l.map λc=>f c.iD).sum
 | [],_,h,_,_=>by cases h
 | a::l,hn,h,h1,h2=>by
  simp only[Jz,ZK,List.sum_cons]at hn ⊢;by_cases e:a.iD=q
  ·have e2:(l.map λc=>f' c.iD)=l.map λc=>f c.iD:=Sk λc hc=>h2 _ λe3=>hn.1 (by rw[e,<- e3];exact Jn.2 ⟨c,hc,rfl⟩);rw[e2,e];omega
  ·have h3:=QiG hn.2 ((QF.1 h).resolve_left λe2=>e e2.symm) h1 h2;rw[h2 _ e];omega
def QAk(M:Qk)(now:Nat):(takeN M now).T=M.T:=by
 unfold takeN;split
 ·exact(FM M now).2.1
 ·rw[QAc];exact(FM M now).2.1
def QAl{M}(I:Qx M)(V:Inv M){now}(h:YP M now=true):VQ (takeN M now)+1=VQ M:=by
 obtain⟨x,l,h1,h2⟩:=QiA I V h;unfold VQ;rw[QAk];have Z2:(M.T.map (·.iD)).Nodup:=by
  have h:M.T.Pairwise (λa b=>a.iD<b.iD):=I.tree.rising;rw[List.nodup_iff_pairwise_ne,Sn];exact h.imp λVb=>by omega
 refine QiG (q:=kC M now) (f:=λj=>(JN M j).length) (f':=λj=>(JN (takeN M now) j).length) Z2 ?_ ?_ λj hj=>?_
 ·unfold JN QE at h1;cases hf:Qm M.N (kC M now) with
  | none=>rw[hf]at h1;cases h1
  | some n=>
   obtain⟨h3,h4⟩:=(Wy I.tree.rising).1 (I.some hf);exact Jn.2 ⟨n.c,h3,h4⟩
 ·rw[oT,Qg ⟨h,rfl⟩,h1];simp
 ·rw[oT,Qd λe=>hj e.2.symm]
def XU(now until_ due:Nat):Nat:=min (max (max now until_) due) 9223372036854775808
def QAm{M:Qk}(I:Qx M)(V:Inv M){Ql until_ end_}(hc:M.Ql<=Ql)(he:end_<=4611686018427387904)(h:XU Ql until_ (KQ M)<=end_):
  YP M (XU Ql until_ (KQ M))=true/\until_<=XU Ql until_ (KQ M)/\Ql<=XU Ql until_ (KQ M):=by
 have h1:XU Ql until_ (KQ M)=max (max Ql until_) (KQ M):=by unfold XU at h ⊢;omega
 have h2:=QiF I V (now:=XU Ql until_ (KQ M)) (by omega) (by omega);rw[h2];refine⟨Q7 ⟨by omega,by omega⟩,by omega,by omega⟩
structure qU where
 p:Nat
 b:Nat
 r:Nat
 w:Nat
 l:Nat
instance:Inhabited qU:=⟨⟨0,0,0,0,0⟩⟩
def qU.Ok(r:qU):Prop:=r.p<18446744073709551616/\r.b<18446744073709551616/\r.r<18446744073709551616/\r.w<18446744073709551616/\r.l<18446744073709551616
structure jK where
 ZV:Int->List Nat
 rows:Int->qU
def AV(s:jK)(cls:Int)(at_:Nat):jK:={ s with ZV:=λk=>if k=cls then s.ZV k++[at_] else s.ZV k }
def wY(r:qU)(a done:Nat)(bytes:Int)(real:Bool):qU:=
 ⟨(r.p+1) % 18446744073709551616,(r.b+bytes.toNat) % 18446744073709551616,if real=true then (r.r+1) % 18446744073709551616 else r.r,(r.w+(done - a)) % 18446744073709551616,max r.l (done - a)⟩
def Yj(s:jK)(cls:Int)(done:Nat)(bytes:Int)(real:Bool):jK:=match s.ZV cls with
 | []=>s
 | a::l=>if bytes<1 then s else if done<a then s else
  ⟨λk=>if k=cls then l else s.ZV k,λk=>if k=cls then wY (s.rows k) a done bytes real else s.rows k⟩
def Jc(x:Pk):List Int:=[x.xP,x.xQ,x.xR,x.xS]
def ZU.mask(r:ZU):List Int:=[r.xT,r.xU,r.CQ,r.Bw]
def ZU.want(r:ZU):List Int:=[r.G3,r.G4,r.G5,r.CS]
def kE(a b:Int):Int:=bits .and .u16 a b
def RK(h m:List Int):List Int:=List.zipWith kE h m
def qu(r:ZU)(h:List Int):Bool:=RK h r.mask==r.want
def wZ(r:ZU):Bool:=decide (1<=r.cls)&&decide (r.cls<=65536)&&(RK r.want r.mask==r.want)
def Wn(R:List ZU)(h:List Int):Int:=match R.find? λr=>qu r h with
 | some r=>r.cls
 | none=>0
def YQ(R:List ZU):Int:=if 32<R.length then 2 else if R.all wZ=true then 0 else 1
structure ZH where
 M:Qk
 YR:Nat
 R:List ZU
 st:jK
 Ql:Nat
 ops:Nat
def B6(c:Cf)(len:Int):Nat:=len.toNat*c.t.toNat
def Ng(op at_:Nat)(cls:Int)(x:Pk):Ev:=⟨op,true,false,at_,0,cls,x.iD,x.len,x.xP,x.xQ,x.xR,x.xS⟩
def Nh(op:Nat)(real:Bool)(at_ done:Nat)(cls:Int)(x:Pk):Ev:=⟨op,false,real,at_,done,cls,x.iD,x.len,x.xP,x.xQ,x.xR,x.xS⟩
def J5(S:ZH)(op now:Nat):ZH × List Ev:=
 if now<S.YR then (S,[]) else
 if YP S.M now=true then
  ({ S with M:=takeN S.M now,YR:=now+B6 S.M.lk (qs S.M now).len,st:=Yj S.st (kC S.M now) (now+B6 S.M.lk (qs S.M now).len) (qs S.M now).len (FZ S.M now) },
   [Nh op (FZ S.M now) now (now+B6 S.M.lk (qs S.M now).len) (kC S.M now) (qs S.M now)])
 else ({ S with M:=takeN S.M now },[])
def ZL(S:ZH):Nat:=XU S.Ql S.YR (KQ S.M)
def WR(op e:Nat):Nat->ZH->ZH × List Ev
 | 0,S=>({ S with Ql:=e },[])
 | n+1,S=>if e<ZL S then ({ S with Ql:=e },[]) else
  let a:=J5 { S with Ql:=ZL S } op (ZL S);let b:=WR op e n a.1
  (b.1,a.2++b.2)
structure WD where
 err:Int
 place:Int
 cls:Int
instance:Inhabited WD:=⟨⟨0,0,0⟩⟩
structure H4 where
 S:ZH
 r:WD
 l:List Ev
def kF(S:ZH)(op Ww:Nat):H4:=
 if 4611686018427387904 - S.Ql<Ww then ⟨S,⟨27,0,0⟩,[]⟩ else
 ⟨(WR op (S.Ql+Ww) (VQ S.M+1) S).1,⟨0,0,0⟩,(WR op (S.Ql+Ww) (VQ S.M+1) S).2⟩
def zP(S:ZH)(op:Nat)(x:Pk):H4:=
 if Wn S.R (Jc x)=0 then ⟨S,⟨31,0,0⟩,[]⟩ else
 if vL S.M S.Ql (Wn S.R (Jc x)) x=0 then
  let a:=J5 { S with M:=KO S.M S.Ql (Wn S.R (Jc x)) x,st:=AV S.st (Wn S.R (Jc x)) S.Ql } op S.Ql
  ⟨a.1,⟨0,0,Wn S.R (Jc x)⟩,Ng op S.Ql (Wn S.R (Jc x)) x::a.2⟩
 else ⟨{ S with M:=KO S.M S.Ql (Wn S.R (Jc x)) x },⟨vL S.M S.Ql (Wn S.R (Jc x)) x,0,Wn S.R (Jc x)⟩,[]⟩
def Xo(S:ZH)(op:Nat)(o:JC):H4:=
 if o.kind=1 then ⟨{ S with M:=KP S.M (decide (S.YR<=S.Ql)) o.changes },⟨zN S.M (decide (S.YR<=S.Ql)) o.changes,yx S.M o.changes,0⟩,[]⟩
 else if o.kind=2 then (if YQ o.rules=0 then ⟨{ S with R:=o.rules },⟨0,0,0⟩,[]⟩ else ⟨S,⟨YQ o.rules,0,0⟩,[]⟩)
 else if o.kind=3 then zP S op o.Xc
 else if o.kind=4 then kF S op o.Ww.toNat
 else ⟨S,⟨1,0,0⟩,[]⟩
def qV(S:ZH)(o:JC):H4:=Xo { S with ops:=S.ops+1 } S.ops o
def S0(c:Cf):ZH:=⟨M0 c,0,[],⟨λ_=>[],λ_=>default⟩,0,0⟩
def Xp(S:ZH):List JC->ZH × List WD × List Ev
 | []=>(S,[],[])
 | o::l=>((Xp (qV S o).S l).1,(qV S o).r::(Xp (qV S o).S l).2.1,(qV S o).l++(Xp (qV S o).S l).2.2)
def QiH:∀(l m:List JC) (S:ZH),Xp S (l++m)=((Xp (Xp S l).1 m).1,(Xp S l).2.1++(Xp (Xp S l).1 m).2.1,(Xp S l).2.2++(Xp (Xp S l).1 m).2.2)
 | [],m,S=>rfl
 | o::l,m,S=>by simp only[XW,Xp,QiH l m,Wb]
structure Jh (S:ZH):Prop where
 I:Qx S.M
 V:Inv S.M
 K:jF S.M.lk
 len:∀j,∀x∈JN S.M j,1<=x.len/\x.len<=S.M.lk.Vc
 mc:S.M.Ql<=S.Ql
 cl:S.Ql<=4611686018427387904
 un:S.YR<=4611686018427387904+1073741824
 st:∀k,(S.st.rows k).Ok
 ca:∀k,∀a∈S.st.ZV k,a<18446744073709551616
def QiI{P:List Pk->Prop}(h0:P [])(T2:List Qn)(id:Int):∀(L:List Int) (M:Qk),(∀n,Qm M.N id=some n->P n.q.l)->∀n,Qm (L.foldl (JS T2) M).N id=some n->P n.q.l
 | [],M,h=>h
 | i::L,M,h=>QiI h0 T2 id L _ λn hn=>by
  have go:∀(k:Qn),Qm (XT k::vM M.N i) id=some n->P n.q.l:=λk hn=>by
   unfold Qm at hn;rw[kJ]at hn;split at hn
   ·cases hn;exact h0
   ·have VC:Qm (vM M.N i) id=some n:=hn;rw[HW]at VC;split at VC
    ·cases VC
    ·exact h n VC
  unfold JS at hn;split at hn
  ·rw[HW]at hn;split at hn
   ·cases hn
   ·exact h n hn
  ·split at hn
   ·exact go _ hn
   ·exact go _ hn
def QAo{P:List Pk->Prop}(h0:P []){M:Qk}{j:Int}(h:P (JN M j))(n:Nd)(hn:Qm M.N j=some n):P n.q.l:=by
 unfold JN QE at h;rw[hn]at h;exact h
def QAp{P:List Pk->Prop}(h0:P []){M:Qk}(b:Bool)(l:List Z3){j:Int}(h:P (JN M j)):P (JN (KP M b l) j):=by
 unfold KP;split
 ·have h2:∀id,P (JN M id)->P (QE (Vt M (KG M.T l)) id).q.l:=λid Zk=>by
   unfold QE Vt;cases hf:Qm ((JX M.T (KG M.T l)).foldl (JS (KG M.T l)) { M with T:=KG M.T l }).N id with
   | none=>exact h0
   | some n=>exact QiI h0 _ id _ { M with T:=KG M.T l } (QAo h0 Zk) n hf
  unfold JN QE;show P ((Qm (Yh M (KG M.T l)) j).getD default).q.l;cases hf:Qm (Yh M (KG M.T l)) j with
  | none=>exact h0
  | some n=>
   have hm:n∈Yh M (KG M.T l):=xk hf;have hi:=vR hf;obtain⟨k,hk,rfl⟩:=Jn.1 hm;have hj:k.iD=j\/(QE (Vt M (KG M.T l)) k.iD).q.l=[]:=by
    by_cases e:(QE (Vt M (KG M.T l)) k.iD).c.iD=k.iD
    ·left;rw[<- e];simpa using hi
    ·right;unfold QE at e ⊢;cases qG:Qm (Vt M (KG M.T l)).N k.iD with
     | none=>rfl
     | some n=>
      rw[qG]at e;have:=vR qG;exact absurd (by simpa using this) e
   rcases hj with rfl|hj
   ·exact h2 _ h
   ·show P (QE (Vt M (KG M.T l)) k.iD).q.l;rw[hj];exact h0
 ·exact h
def QAq{r:qU}(h:r.Ok){a done}(hd:done<18446744073709551616)(bytes)(real:Bool):(wY r a done bytes real).Ok:=by
 obtain⟨h1,h2,h3,h4,h5⟩:=h;unfold wY;refine⟨XX _ (by decide),XX _ (by decide),?_,XX _ (by decide),?_⟩
 ·dsimp only;split
  ·exact XX _ (by decide)
  ·exact h3
 ·dsimp only;omega
def bX(M:Qk)(now:Nat):(takeN M now).lk=M.lk:=Qiz M now
def QAr(M:Qk)(now:Nat):(takeN M now).Ql=M.Ql\/((takeN M now).Ql=now/\now<=4611686018427387904):=by
 unfold takeN;split
 ·exact oU M _
 ·rw[QAh];exact oU M _
def QAs(M:Qk)(now)(cls)(x:Pk):(KO M now cls x).Ql=M.Ql\/((KO M now cls x).Ql=now/\now<=4611686018427387904):=by
 unfold KO;split
 ·rw[QAj];exact oU M _
 ·exact .inl rfl
def QAt(M:Qk)(b)(l:List Z3):(KP M b l).Ql=M.Ql:=by
 unfold KP;split
 ·exact(FQ _ _).2.2.2.1
 ·rfl
def QAu{M:Qk}{now}{cls}{x:Pk}(h:vL M now cls x=0):1<=x.len/\x.len<=M.lk.Vc:=by
 unfold vL at h;split at h
 ·have hl:(ZI M now).lk=M.lk:=bT M now;unfold Vh at h;split at h
  ·cases h
  ·split at h
   ·cases h
   ·split at h
    ·cases h
    ·rename_i h2;rw[hl]at h2;omega
 ·cases h
def QAv{s:jK}(h:(∀k,(s.rows k).Ok)/\∀k,∀a∈s.ZV k,a<18446744073709551616)(cls){done}(hd:done<18446744073709551616)(bytes)(real:Bool):(∀k,((Yj s cls done bytes real).rows k).Ok)/\∀k,∀a∈(Yj s cls done bytes real).ZV k,a<18446744073709551616:=by
 unfold Yj;cases hc:s.ZV cls with
 | nil=>exact h
 | cons a l=>
  dsimp only;split
  ·exact h
  ·split
   ·exact h
   ·refine⟨λk=>?_,λk x hx=>?_⟩
    ·dsimp only;split
     ·exact QAq (h.1 k) hd _ _
     ·exact h.1 k
    ·dsimp only at hx;split at hx
     ·rename_i e;exact h.2 cls x (by rw[hc];exact Ks _ hx)
     ·exact h.2 k x hx
def bY{c:Cf}(K:jF c){len}(h:1<=len/\len<=c.Vc):1<=B6 c len/\B6 c len<=1073741824:=by
 have h1:=K.t1;have h2:=K.t2;have h3:=K.l2;unfold B6;have a1:1<=len.toNat:=by omega
 have a2:len.toNat<=16384:=by omega
 have a3:1<=c.t.toNat:=by omega
 have a4:c.t.toNat<=65536:=by omega
 exact⟨kO a1 a3,kO a2 a4⟩
def Jh.take_len{S:ZH}(T:Jh S){now:Nat}(h:YP S.M now=true):1<=(qs S.M now).len/\(qs S.M now).len<=S.M.lk.Vc:=by
 obtain⟨x,l,h1,h2⟩:=QiA T.I T.V h;rw[h2];exact T.len _ x (by rw[h1];exact Va)
def Jh.takeN{S:ZH}(T:Jh S):Jh { S with M:=takeN S.M S.Ql } where
 I:=T.I.takeN T.V _
 V:=T.V.takeN T.I _
 K:=by show jF (X.takeN S.M S.Ql).lk;rw[bX];exact T.K
 len:=λj x hx=>by
  have hx:x∈JN (X.takeN S.M S.Ql) j:=hx;show 1<=x.len/\x.len<=(X.takeN S.M S.Ql).lk.Vc;rw[bX];rw[oT]at hx;split at hx
  ·exact T.len j x (List.mem_of_mem_tail hx)
  ·exact T.len j x hx
 mc:=by
  show (X.takeN S.M S.Ql).Ql<=S.Ql;have:=T.mc;rcases QAr S.M S.Ql with h|h<;>omega
 cl:=T.cl
 un:=T.un
 st:=T.st
 ca:=T.ca
def Jh.oV{S:ZH}(T:Jh S)(op):Jh (J5 S op S.Ql).1:=by
 unfold J5;split
 ·exact T
 ·split
  ·rename_i h;have h1:=bY T.K (T.take_len h);have h2:=T.cl;have T2:=T.takeN;have h3:=QAv ⟨T.st,T.ca⟩ (kC S.M S.Ql) (done:=S.Ql+B6 S.M.lk (qs S.M S.Ql).len) (by omega) (qs S.M S.Ql).len (FZ S.M S.Ql);exact⟨T2.I,T2.V,T2.K,T2.len,T2.mc,T.cl,by dsimp only;omega,h3.1,h3.2⟩
  ·exact T.takeN
def Jh.at_{S:ZH}(T:Jh S){e}(h1:S.Ql<=e)(h2:e<=4611686018427387904):Jh { S with Ql:=e }:=
 ⟨T.I,T.V,T.K,T.len,Kz T.mc h1,h2,T.un,T.st,T.ca⟩
def RL(S:ZH)(op now:Nat):(J5 S op now).1.Ql=S.Ql/\(J5 S op now).1.ops=S.ops/\(J5 S op now).1.R=S.R:=by
 unfold J5;split
 ·exact⟨rfl,rfl,rfl⟩
 ·split<;>exact⟨rfl,rfl,rfl⟩
def oW(S:ZH)(h:S.Ql<=4611686018427387904):S.Ql<=ZL S:=by
 unfold ZL XU;omega
def Jh.go{op e}(he:e<=4611686018427387904):∀(n:Nat) {S:ZH},Jh S->S.Ql<=e->Jh (WR op e n S).1
 | 0,S,T,h=>T.at_ h he
 | n+1,S,T,h=>by
  unfold WR;split
  ·exact T.at_ h he
  ·rename_i h2;have T2:=(T.at_ (oW S T.cl) (show ZL S<=4611686018427387904 by omega)).oV op;refine Jh.go he n T2 ?_;have:=(RL { S with Ql:=ZL S } op (ZL S)).1;rw[this];show ZL S<=e;omega
def Jh.put{S:ZH}(T:Jh S)(cls)(x):Jh { S with M:=KO S.M S.Ql cls x } where
 I:=T.I.KO T.V _ (by have:=T.cl;omega) _ _
 V:=T.V.KO T.I _ (by have:=T.cl;omega) _ _
 K:=by show jF (KO S.M S.Ql cls x).lk;rw[bU];exact T.K
 len:=λj y hy=>by
  have hy:y∈JN (KO S.M S.Ql cls x) j:=hy;show 1<=y.len/\y.len<=(KO S.M S.Ql cls x).lk.Vc;rw[bU];rw[Qz7]at hy;split at hy
  ·rename_i h;rcases QT.1 hy with h2|h2
   ·exact T.len j y h2
   ·simp only[qA]at h2;subst h2;exact QAu h.1
  ·exact T.len j y hy
 mc:=by
  show (KO S.M S.Ql cls x).Ql<=S.Ql;have:=T.mc;rcases QAs S.M S.Ql cls x with h|h<;>omega
 cl:=T.cl
 un:=T.un
 st:=T.st
 ca:=T.ca
def Jh.ZV{S:ZH}(T:Jh S)(cls)(a)(ha:a<18446744073709551616):Jh { S with st:=AV S.st cls a }:=
 ⟨T.I,T.V,T.K,T.len,T.mc,T.cl,T.un,T.st,λk b hb=>by
  have hb:b∈(if k=cls then S.st.ZV k++[a] else S.st.ZV k):=hb;split at hb
  ·rcases QT.1 hb with h|h
   ·exact T.ca k b h
   ·simp only[qA]at h;omega
  ·exact T.ca k b hb⟩
def Jh.change{S:ZH}(T:Jh S)(b){l}(hl:∀c∈l,Z3.Ok c):Jh { S with M:=KP S.M b l } where
 I:=T.I.KP T.V b l hl
 V:=T.V.KP T.I b l hl
 K:=by show jF (KP S.M b l).lk;rw[bV];exact T.K
 len:=λj=>by
  show ∀x∈JN (KP S.M b l) j,1<=x.len/\x.len<=(KP S.M b l).lk.Vc;rw[bV];exact QAp (P:=λq=>∀x∈q,1<=x.len/\x.len<=S.M.lk.Vc) (λx hx=>by cases hx) b l (T.len j)
 mc:=by show (KP S.M b l).Ql<=S.Ql;rw[QAt];exact T.mc
 cl:=T.cl
 un:=T.un
 st:=T.st
 ca:=T.ca
def Jh.one{S}(T:Jh S)(op){o:JC}(ho:∀c∈o.changes,Z3.Ok c):Jh (Xo S op o).S:=by
 unfold Xo;split
 ·exact T.change _ ho
 ·split
  ·split
   ·exact⟨T.I,T.V,T.K,T.len,T.mc,T.cl,T.un,T.st,T.ca⟩
   ·exact T
  ·split
   ·unfold zP;split
    ·exact T
    ·split
     ·exact Jh.oV (S:={ S with M:=KO S.M S.Ql (Wn S.R (Jc o.Xc)) o.Xc,st:=AV S.st (Wn S.R (Jc o.Xc)) S.Ql }) ((T.put _ _).ZV _ _ (by have:=T.cl;show S.Ql<_;omega)) op
     ·exact T.put _ _
   ·split
    ·unfold kF;split
     ·exact T
     ·have:=T.cl;exact T.go (by omega) _ (by omega)
    ·exact T
def Jh.ops{S}(T:Jh S)(n):Jh { S with ops:=n }:=⟨T.I,T.V,T.K,T.len,T.mc,T.cl,T.un,T.st,T.ca⟩
def Jh.do{S}(T:Jh S){o:JC}(ho:∀c∈o.changes,Z3.Ok c):Jh (qV S o).S:=(T.ops _).one _ ho
def oX(op e):∀(n:Nat) (S:ZH),(WR op e n S).1.ops=S.ops/\(WR op e n S).1.Ql=e
 | 0,S=>⟨rfl,rfl⟩
 | n+1,S=>by
  unfold WR;split
  ·exact⟨rfl,rfl⟩
  ·obtain⟨h1,h2⟩:=oX op e n (J5 { S with Ql:=ZL S } op (ZL S)).1;exact⟨h1.trans (RL _ _ _).2.1,h2⟩
def QAw(S:ZH)(op)(o:JC):(Xo S op o).S.ops=S.ops:=by
 unfold Xo;split
 ·rfl
 ·split
  ·split<;>rfl
  ·split
   ·unfold zP;split
    ·rfl
    ·split
     ·exact(RL _ _ _).2.1
     ·rfl
   ·split
    ·unfold kF;split
     ·rfl
     ·exact(oX _ _ _ _).1
    ·rfl
def oY(S:ZH)(o:JC):(qV S o).S.ops=S.ops+1:=QAw _ _ _
def ahead(hi:Int):Int->List Ev->Prop
 | _,[]=>True
 | a,v::l=>a<=v.at_/\v.at_<=hi/\(v.X9=true->v.done=0)/\(v.X9=false->v.at_<v.done)/\ahead hi v.at_ l
def QiK{S}(T:Jh S)(op){e}(he:e<=4611686018427387904)(h:ZL S<=e):
  Jh (J5 { S with Ql:=ZL S } op (ZL S)).1/\VQ (J5 { S with Ql:=ZL S } op (ZL S)).1.M+1=VQ S.M/\S.Ql<=ZL S/\(J5 { S with Ql:=ZL S } op (ZL S)).1.Ql=ZL S:=by
 obtain⟨h1,h2,h3⟩:=QAm T.I T.V (until_:=S.YR) T.mc he h;have T2:=(T.at_ (oW S T.cl) (show ZL S<=4611686018427387904 by omega));refine⟨T2.oV op,?_,h3,(RL _ _ _).1⟩;have h1:YP S.M (ZL S)=true:=h1;have h2:S.YR<=ZL S:=h2;unfold J5;rw[Qd (show ¬ZL S<S.YR by omega)];show VQ (if YP S.M (ZL S)=true then _ else _:ZH × List Ev).1.M+1=VQ S.M;rw[Qg h1];exact QAl T.I T.V h1
structure oZ (S:ZH) (D:H4):Prop where
 next:D.S.Ql<ZL D.S
 Ql:S.Ql<=D.S.Ql
 ev:ahead D.S.Ql S.Ql D.l
def YS(r:ZU):Bool:=r.xT==65535&&(r.xU==65535&&(r.CQ==65535&&r.Bw==65535))
def RM(n:Int):Prop:=0<=n/\n<65536
def bZ{a}(h:RM a):kE a 65535=a:=by
 obtain⟨n,rfl⟩:∃n:Nat,a=n:=⟨a.toNat,by have:=h.1;omega⟩;have hn:n<65536:=by have:=h.2;omega
 have h1:(BitVec.ofInt 16 (n:Int)).toNat=n:=by
  rw[BitVec.ofInt_natCast,BitVec.toNat_ofNat];exact yG (by omega)
 show IntKind.u16.wrap ((BitVec.ofInt 16 (n:Int) &&& BitVec.ofInt 16 65535).toNat:Int)=_;rw[BitVec.toNat_and,h1,show (BitVec.ofInt 16 65535).toNat=2 ^ 16 - 1 from rfl,Nat.and_two_pow_sub_one_eq_mod];rw[show IntKind.u16.wrap ((n % 2 ^ 16:Nat):Int)=((n % 2 ^ 16:Nat):Int) % 65536 by simp[IntKind.wrap,IntKind.bits,IntKind.signed]];omega
def Jm(R:List ZU)(i:Nat):ZU:=R.getD i default
def QmJ(p:ZU->Bool):∀(R:List ZU) (i:Nat),i<R.length->p (Jm R i)=true->(∀j,j<i->p (Jm R j)=false)->R.find? p=some (Jm R i)
 | [],i,hi,_,_=>by simp at hi
 | r::R,0,hi,hp,_=>by
  have hp:p r=true:=hp;rw[kJ,hp];rfl
 | r::R,i+1,hi,hp,hn=>by
  have h0:p r=false:=hn 0 (by omega);rw[kJ,h0];exact QmJ p R i (by simpa using hi) hp λj hj=>hn (j+1) (by omega)
def QiN(p:ZU->Bool):∀(R:List ZU),(∀j,j<R.length->p (Jm R j)=false)->R.find? p=none
 | [],_=>rfl
 | r::R,hn=>by
  have h0:p r=false:=hn 0 (by simp);rw[kJ,h0];exact QiN p R λj hj=>hn (j+1) (by simpa using hj)
structure XV (R:List ZU) (n:Nat) (es:List J7) (ms:List Nat):Prop where
 yes:∀k d,Wt es k=some d->∃i:Nat,d=Qb i/\i<n/\YS (Jm R i)=true/\(Jm R i).want=k/\∀j,j<i->¬(YS (Jm R j)=true/\(Jm R j).want=k)
 no:∀k,Wt es k=none->∀j,j<n->¬(YS (Jm R j)=true/\(Jm R j).want=k)
 mem:∀j,j∈ms↔j<n/\YS (Jm R j)=false
 inc:ms.Pairwise (·<·)
 four:∀e∈es,e.k.length=4
def XV.nil(R:List ZU):XV R 0 [] []:=⟨λk d h=>(by cases h),λk h j hj=>absurd hj (XY j),λj=>(by simp),.nil,λe h=>(by cases h)⟩
def o4:∀(es:List J7) (e:J7) (k:List Int),Wt (es++[e]) k=match Wt es k with
  | some d=>some d
  | none=>if e.k=k then some e.v else none
 | [],e,k=>by simp[Wt]
 | x::es,e,k=>by
  simp only[XW,Wt];split
  ·rfl
  ·exact o4 es e k
def XV.mask{R}{n}{es}{ms}(T:XV R n es ms)(h:YS (Jm R n)=false):XV R (n+1) es (ms++[n]) where
 yes:=λk d hd=>by
  obtain⟨i,h1,h2,h3⟩:=T.yes k d hd;exact⟨i,h1,by omega,h3⟩
 no:=λk hk j hj=>by
  rcases Cb.1 hj with h1|rfl
  ·exact T.no k hk j h1
  ·exact λh2=>by rw[h]at h2;cases h2.1
 mem:=λj=>by
  rw[QT,T.mem j,qA];constructor
  ·rintro (h1|rfl)
   ·exact⟨by omega,h1.2⟩
   ·exact⟨by omega,h⟩
  ·rintro⟨h1,h2⟩;rcases Cb.1 h1 with h3|rfl
   ·exact .inl ⟨h3,h2⟩
   ·exact .inr rfl
 inc:=by
  rw[Sm];exact⟨T.inc,List.pairwise_singleton _ _,λa ha b hb=>by
   simp only[qA]at hb;have:=((T.mem a).1 ha).1;omega⟩
 four:=T.four
def XV.QiO{R}{n}{es}{ms}(T:XV R n es ms)(h:YS (Jm R n)=true):∀j,j∈ms↔j<n+1/\YS (Jm R j)=false:=λj=>by
 rw[T.mem j];constructor
 ·rintro⟨h1,h3⟩;exact⟨by omega,h3⟩
 ·rintro⟨h1,h3⟩;rcases Cb.1 h1 with h4|rfl
  ·exact⟨h4,h3⟩
  ·rw[h]at h3;cases h3
def XV.there{R}{n:Nat}{es}{ms}(T:XV R n es ms)(h:YS (Jm R n)=true)(h2:(Wt es (Jm R n).want).isSome=true):XV R (n+1) es ms where
 yes:=λk d hd=>by
  obtain⟨i,h1,h2,h3⟩:=T.yes k d hd;exact⟨i,h1,by omega,h3⟩
 no:=λk hk j hj=>by
  rcases Cb.1 hj with h1|rfl
  ·exact T.no k hk j h1
  ·exact λh3=>by rw[h3.2,hk]at h2;cases h2
 mem:=T.QiO h
 inc:=T.inc
 four:=T.four
def XV.new{R}{n:Nat}{es}{ms}(T:XV R n es ms)(h:YS (Jm R n)=true)(h2:Wt es (Jm R n).want=none)(c):XV R (n+1) (es++[⟨(Jm R n).want,Qb n,c⟩]) ms where
 yes:=λk d hd=>by
  rw[o4]at hd;cases hk:Wt es k with
  | some d2=>
   rw[hk]at hd;cases hd;obtain⟨i,h1,h2,h3⟩:=T.yes k d hk;exact⟨i,h1,by omega,h3⟩
  | none=>
   rw[hk]at hd;dsimp only at hd;split at hd
   ·rename_i e;cases hd;exact⟨n,rfl,by omega,h,e,λj hj=>T.no k hk j hj⟩
   ·cases hd
 no:=λk hk j hj=>by
  rw[o4]at hk;cases ZW:Wt es k with
  | some d2=>rw[ZW]at hk;cases hk
  | none=>
   rw[ZW]at hk;dsimp only at hk;split at hk
   ·cases hk
   ·rename_i e;rcases Cb.1 hj with h1|rfl
    ·exact T.no k ZW j h1
    ·exact λh3=>e h3.2
 mem:=(T.QiO h)
 inc:=T.inc
 four:=λe he=>by
  rcases QT.1 he with h1|h1
  ·exact T.four e h1
  ·simp only[qA]at h1;subst h1;rfl
def RN(x:Pk):Prop:=RM x.xP/\RM x.xQ/\RM x.xR/\RM x.xS
def cn{r:ZU}{x}(hx:RN x)(h:YS r=true):qu r (Jc x)=(r.want==Jc x):=by
 unfold YS at h;simp only[ZJ,zY]at h;obtain⟨h0,h1,h2,h3⟩:=h;unfold qu RK Jc ZU.mask;rw[h0,h1,h2,h3];simp only[List.zipWith_cons_cons,List.zipWith_nil_right,bZ hx.1,bZ hx.2.1,bZ hx.2.2.1,bZ hx.2.2.2];rw[kG];simp only[zY];exact eq_comm
section
variable {R:List ZU}{es:List J7}{ms:List Nat}(T:XV R R.length es ms){x:Pk}(hx:RN x)
include T hx
theorem XV.WV{i}(hi:i<R.length)(hw:YS (Jm R i)=false)(hm:qu (Jm R i) (Jc x)=true)(Jw:∀j∈ms,j<i->qu (Jm R j) (Jc x)=false)
  (Wo:∀a:Nat,Wt es (Jc x)=some (Qb a)->¬a<i):R.find? (λr=>qu r (Jc x))=some (Jm R i):=
 QmJ _ R i hi hm λj hj=>by
  cases VD:YS (Jm R j) with
  | false=>exact Jw j ((T.mem j).2 ⟨by omega,VD⟩) hj
  | true=>
   rw[cn hx VD,zX];intro e;cases hl:Wt es (Jc x) with
   | none=>exact T.no _ hl j (by omega) ⟨VD,e⟩
   | some d=>
    obtain⟨a,rfl,h1,h2,h3,h4⟩:=T.yes _ _ hl;have:=Wo a hl;exact h4 j (by omega) ⟨VD,e⟩
theorem XV.whole{a:Nat}(ha:Wt es (Jc x)=some (Qb a))(Jw:∀j∈ms,j<a->qu (Jm R j) (Jc x)=false):a<R.length/\R.find? (λr=>qu r (Jc x))=some (Jm R a):=by
 obtain⟨i,e,h1,h2,h3,h4⟩:=T.yes _ _ ha;have e:a=i:=by
  unfold Qb at e;simp only[D.raw.injEq,Value.int.injEq,xl]at e;omega
 subst e;refine⟨h1,QmJ _ R a h1 (by rw[cn hx h2,h3];simp) λj hj=>?_⟩;cases VD:YS (Jm R j) with
 | false=>exact Jw j ((T.mem j).2 ⟨by omega,VD⟩) hj
 | true=>
  rw[cn hx VD,zX];exact λe=>h4 j hj ⟨VD,e⟩
theorem XV.none(hl:Wt es (Jc x)=Option.none)(Jw:∀j∈ms,qu (Jm R j) (Jc x)=false):R.find? (λr=>qu r (Jc x))=Option.none:=
 QiN _ R λj hj=>by
  cases VD:YS (Jm R j) with
  | false=>exact Jw j ((T.mem j).2 ⟨hj,VD⟩)
  | true=>
   rw[cn hx VD,zX];exact λe=>T.no _ hl j hj ⟨VD,e⟩
end
@[go_sem] def qU.cells(r:qU):List D:=[u64 r.p,u64 r.b,u64 r.r,u64 r.w,u64 r.l]
@[go_sem] def qW(a b c d Ql ops:Nat):Ob:=⟨.one,0,6,1,λ_=>[.ptr a 0 0 0,.ptr b 0 0 0,.ptr c 0 0 0,.ptr d 0 0 0,u64 Ql,Qb ops]⟩
@[go_sem] def qX(a b c:Nat)(t:Int)(u:Nat):Ob:=⟨.one,0,5,1,λ_=>[u64 a,u64 b,u64 c,Qb t,u64 u]⟩
@[go_sem] def o5(c r:Nat):Ob:=⟨.one,0,2,1,λ_=>[.mref c 0,.mref r 0]⟩
@[go_sem] def H9(d:D)(e:Nat)(m:D):Ob:=⟨.one,0,3,1,λ_=>[d,.mref e 0,m]⟩
inductive TT where
 | no|sys|ln|F0|st|my
deriving DecidableEq
def ZS(tw:Nat->TT)(h:List Ob)(t:TT):Nat->TT:=λl=>if h.length<=l then t else tw l
def KR{tw}{h:List Ob}{t}{l}(hl:l<h.length):ZS tw h t l=tw l:=by unfold ZS;rw[Qd (by omega)]
def DQ{tw}{h:List Ob}{t}{l}(hl:h.length<=l):ZS tw h t l=t:=by unfold ZS;rw[Qg hl]
def zQ{own}{h:List Ob}{t}{l}(hl:h.length<=l):QS own h t l=t:=by unfold QS;rw[Qg hl]
def WS{α:Type}[Inhabited α](S:Nat->Prop)(h:List Ob)(sz:Nat)(f:α->List D)(d:D)(l:List α):Prop:=
 (d=.nil/\l=[])\/∃lo g row,d=.ref lo g 0 l.length/\S lo/\h[lo]? = some ⟨.arr,g,sz,l.length,row⟩/\∀i,i<l.length->row i=f (l.getD i default)
def WS.step{α:Type}[Inhabited α]{S S':Nat->Prop}{h h':List Ob}{sz:Nat}{f:α->List D}{d:D}{l:List α}(e:∀j,j<h.length->S j->S' j/\h'[j]? = h[j]?):WS S h sz f d l->WS S' h' sz f d l:=λH=>
 H.imp id λ⟨lo,g,row,h1,h2,h3,h4⟩=>⟨lo,g,row,h1,(e lo (Qc h3) h2).1,by rw[(e lo (Qc h3) h2).2];exact h3,h4⟩
def Ia(S:Nat->Prop)(h:List Ob)(d:D)(l:List Nat):Prop:=
 (d=.nil/\l=[])\/∃lo g off row,d=.ref lo g off l.length/\S lo/\h[lo]? = some ⟨.arr,g,1,off+l.length,row⟩/\∀i,i<l.length->row (off+i)=[u64 (l.getD i 0)]
def Ia.step{S S'}{h h':List Ob}{d}{l}(e:∀j,j<h.length->S j->S' j/\h'[j]? = h[j]?):Ia S h d l->Ia S' h' d l:=λH=>
 H.imp id λ⟨lo,g,off,row,h1,h2,h3,h4⟩=>⟨lo,g,off,row,h1,(e lo (Qc h3) h2).1,by rw[(e lo (Qc h3) h2).2];exact h3,h4⟩
def Ia.nil{S}{h}{l}(H:Ia S h .nil l):l=[]:=by
 rcases H with h1|⟨_,_,_,_,h1,_⟩
 ·exact h1.2
 ·cases h1
structure DS (S:Nat->Prop) (h:List Ob) (p cm rm c1:Nat) (Zw:List QR) (c2:Nat) (ZQ:List QR) (s:jK):Prop where
 o:h[p]? = some (o5 cm rm)
 co:h[cm]? = some (QM .i64 c1 Zw)
 ro:h[rm]? = some (QM .i64 c2 ZQ)
 ne:cm≠rm
 sp:S p
 sc:S cm
 sr:S rm
 ca:∀k,Ia S h ((ZP Zw k).getD .nil) (s.ZV k)
 sep:∀k k' lo g off n g' xr n',ZP Zw k=some (.ref lo g off n)->ZP Zw k'=some (.ref lo g' xr n')->k=k'
 rw_:∀k,(ZP ZQ k).getD (.agg (default:qU).cells)=.agg (s.rows k).cells
def Yk(S:Nat->Prop)(h:List Ob)(p:Nat)(s:jK):Prop:=∃cm rm c1 Zw c2 ZQ,DS S h p cm rm c1 Zw c2 ZQ s
def DS.step{S S'}{h h':List Ob}{p cm rm c1}{Zw}{c2}{ZQ}{s}(e:∀j,j<h.length->S j->S' j/\h'[j]? = h[j]?)(T:DS S h p cm rm c1 Zw c2 ZQ s):DS S' h' p cm rm c1 Zw c2 ZQ s:=
 have k:∀l o,S l->h[l]? = some o->S' l/\h'[l]? = some o:=λl o h1 h2=>⟨(e l (Qc h2) h1).1,(e l (Qc h2) h1).2.trans h2⟩
 ⟨(k _ _ T.sp T.o).2,(k _ _ T.sc T.co).2,(k _ _ T.sr T.ro).2,T.ne,(k _ _ T.sp T.o).1,(k _ _ T.sc T.co).1,(k _ _ T.sr T.ro).1,λj=>(T.ca j).step e,T.sep,T.rw_⟩
def Yk.step{S S'}{h h':List Ob}{p}{s}(e:∀j,j<h.length->S j->S' j/\h'[j]? = h[j]?):Yk S h p s->Yk S' h' p s:=λ⟨a,b,c,d,f,g,T⟩=>⟨a,b,c,d,f,g,T.step e⟩
structure o6 (S:Nat->Prop) (h:List Ob) (p:Nat) (dr:D) (le:Nat) (dm:D) (c:Nat) (es:List J7) (ms:List Nat) (R:List ZU):Prop where
 o:h[p]? = some (H9 dr le dm)
 eo:h[le]? = some (jX c es)
 rs:WS S h 9 ZU.cells dr R
 mo:WS S h 1 (λi:Nat=>[Qb i]) dm ms
 sp:S p
 se:S le
 I:XV R R.length es ms
 ok:YQ R=0
def F1(S:Nat->Prop)(h:List Ob)(p:Nat)(R:List ZU):Prop:=∃dr le dm c es ms,o6 S h p dr le dm c es ms R
def F1.step{S S'}{h h':List Ob}{p}{R}(e:∀j,j<h.length->S j->S' j/\h'[j]? = h[j]?):F1 S h p R->F1 S' h' p R:=λ⟨dr,le,dm,c,es,ms,T⟩=>
 have k:∀l o,S l->h[l]? = some o->S' l/\h'[l]? = some o:=λl o h1 h2=>⟨(e l (Qc h2) h1).1,(e l (Qc h2) h1).2.trans h2⟩
 ⟨dr,le,dm,c,es,ms,(k _ _ T.sp T.o).2,(k _ _ T.se T.eo).2,T.rs.step e,T.mo.step e,(k _ _ T.sp T.o).1,(k _ _ T.se T.eo).1,T.I,T.ok⟩
structure VR (own:Nat->Tag) (tw:Nat->TT) (h:List Ob) (p ps pl pr pt:Nat) (S:ZH):Prop where
 o:h[p]? = some (qW ps pl pr pt S.Ql S.ops)
 tp:tw p=.sys
 co:kD own h ps S.M
 ln:∃a b c,h[pl]? = some (qX a b c S.M.lk.t S.YR)
 tl:tw pl=.ln
 tb:F1 (λl=>tw l=.F0) h pr S.R
 st:Yk (λl=>tw l=.st) h pt S.st
 ap:∀l,tw l≠.no->own l=.no
def VS(own:Nat->Tag)(tw:Nat->TT)(h:List Ob)(p:Nat)(S:ZH):Prop:=∃ps pl pr pt,VR own tw h p ps pl pr pt S
def cr(own:Nat->Tag)(tw:Nat->TT)(h:List Ob)(own':Nat->Tag)(Z8:Nat->TT)(h':List Ob):Prop:=
 ∀l,l<h.length->(Live (own l)->own' l=own l/\h'[l]? = h[l]?)/\(tw l≠.no->tw l≠.my->Z8 l=tw l/\h'[l]? = h[l]?)
def VR.step{own own'}{tw Z8}{h h'}{p ps pl pr pt}{S}(T:VR own tw h p ps pl pr pt S)(e:cr own tw h own' Z8 h')(ap:∀l,Z8 l≠.no->own' l=.no):VR own' Z8 h' p ps pl pr pt S:=by
 have k:∀l o t,tw l=t->t≠.no/\t≠.my->h[l]? = some o->Z8 l=t/\h'[l]? = some o:=λl o t h1 h2 h3=>by
  obtain⟨a,b⟩:=(e l (Qc h3)).2 (by rw[h1];exact h2.1) (by rw[h1];exact h2.2);exact⟨by rw[a,h1],b.trans h3⟩
 have s:∀t,t≠.no/\t≠.my->∀l,l<h.length->tw l=t->Z8 l=t/\h'[l]? = h[l]? := λt h2 l hl h1=>by
  obtain⟨a,b⟩:=(e l hl).2 (by rw[h1];exact h2.1) (by rw[h1];exact h2.2);exact⟨by rw[a,h1],b⟩
 obtain⟨a,b,c,hl⟩:=T.ln;exact⟨(k _ _ _ T.tp (by simp) T.o).2,(k _ _ _ T.tp (by simp) T.o).1,T.co.step λl hl hv=>(e l hl).1 hv,⟨a,b,c,(k _ _ _ T.tl (by simp) hl).2⟩,(k _ _ _ T.tl (by simp) hl).1,T.tb.step (s _ (by simp)),T.st.step (s _ (by simp)),ap⟩
structure Ja (n:Nat) (own:Nat->Tag) (tw:Nat->TT) (h:List Ob) (own':Nat->Tag) (Z8:Nat->TT) (h':List Ob):Prop where
 s1:∀l,l<h.length->own' l=own l
 s2:∀l,l<h.length->Z8 l=tw l
 keep:∀l,l<n->own l=Tag.no->tw l=TT.no->h'[l]? = h[l]?
 my:∀l,l<h.length->tw l=TT.my->h'[l]? = h[l]?
 len:h.length<=h'.length
def Ja.refl(n)(own)(tw:Nat->TT)(h):Ja n own tw h own tw h:=⟨λ_ _=>rfl,λ_ _=>rfl,λ_ _ _ _=>rfl,λ_ _ _=>rfl,QD _⟩
def Ja.trans{n}{own own' P0}{tw Z8 QiP}{h h' XZ:List Ob}(hn:n<=h.length)(a:Ja n own tw h own' Z8 h')(b:Ja n own' Z8 h' P0 QiP XZ):Ja n own tw h P0 QiP XZ:=
 ⟨λl hl=>(b.s1 l (jO hl a.len)).trans (a.s1 l hl),λl hl=>(b.s2 l (jO hl a.len)).trans (a.s2 l hl),
  λl hl h1 h2=>(b.keep l hl ((a.s1 l (jO hl hn)).trans h1) ((a.s2 l (jO hl hn)).trans h2)).trans (a.keep l hl h1 h2),λl hl h1=>(b.my l (jO hl a.len) ((a.s2 l hl).trans h1)).trans (a.my l hl h1),Kz a.len b.len⟩
def Ja.core{n}{own own'}{tw}{h h':List Ob}(ap:∀l,tw l≠.no->own l=.no)(hn:n<=h.length)(D:Zn own h own' h'):Ja n own tw h own' (ZS tw h .no) h':=
 ⟨D.same,λl hl=>KR hl,λl hl h1 _=>D.keep l (by omega) h1,λl hl h1=>D.keep l hl (ap l (by rw[h1];simp)),D.len⟩
def VR.core{own own'}{tw}{h h'}{p ps pl pr pt}{S:ZH}(T:VR own tw h p ps pl pr pt S)(D:Zn own h own' h'){M:Qk}(C:kD own' h' ps M)(hk:M.lk=S.M.lk):VR own' (ZS tw h .no) h' p ps pl pr pt { S with M:=M }:=by
 have k:∀l o t,tw l=t->t≠.no->h[l]? = some o->ZS tw h .no l=t/\h'[l]? = some o:=λl o t h1 h2 h3=>
  ⟨by rw[KR (Qc h3),h1],(D.keep l (Qc h3) (T.ap l (by rw[h1];exact h2))).trans h3⟩
 have s:∀t,t≠.no->∀l,l<h.length->tw l=t->ZS tw h .no l=t/\h'[l]? = h[l]? := λt h2 l hl h1=>
  ⟨by rw[KR hl,h1],D.keep l hl (T.ap l (by rw[h1];exact h2))⟩
 obtain⟨a,b,c,hl⟩:=T.ln;refine⟨(k _ _ _ T.tp (by simp) T.o).2,(k _ _ _ T.tp (by simp) T.o).1,C,⟨a,b,c,?_⟩,(k _ _ _ T.tl (by simp) hl).1,T.tb.step (s _ (by simp)),T.st.step (s _ (by simp)),λl hl=>?_⟩
 ·show h'[pl]? = some (qX a b c M.lk.t S.YR);rw[hk];exact(k _ _ _ T.tl (by simp) hl).2
 ·by_cases h1:l<h.length
  ·rw[KR h1]at hl;rw[D.same l h1];exact T.ap l hl
  ·rw[DQ (by omega)]at hl;exact absurd rfl hl
def VR.app{own}{tw}{h}{p ps pl pr pt}{S}(T:VR own tw h p ps pl pr pt S)(g):VR (QS own h .no) (ZS tw h .no) (h++g) p ps pl pr pt S:=
 T.core (Zn.app own h g .no) (T.co.QjH g) rfl
def Ja.app{n}(own)(tw:Nat->TT)(h g:List Ob)(t:TT)(hn:n<=h.length):Ja n own tw h (QS own h .no) (ZS tw h t) (h++g):=
 ⟨λl hl=>JY hl,λl hl=>KR hl,λl hl _ _=>QC (by omega),λl hl _=>QC hl,by simp⟩
def VR.jL{own}{tw}{h}{p ps pl pr pt}{S}(T:VR own tw h p ps pl pr pt S)(g):VR (QS own h .no) (ZS tw h .my) (h++g) p ps pl pr pt S:=
 T.step (λl hl=>⟨λ_=>⟨JY hl,QC hl⟩,λ_ _=>⟨KR hl,QC hl⟩⟩) λl hl=>by
  by_cases h1:l<h.length
  ·rw[KR h1]at hl;rw[JY h1];exact T.ap l hl
  ·exact zQ (by omega)
def VR.loc{own}{tw}{h:List Ob}{p ps pl pr pt}{S}(T:VR own tw h p ps pl pr pt S){l}(h1:own l=.no)(h2:tw l=.no\/tw l=.my)(o):VR own tw (h.set l o) p ps pl pr pt S:=
 T.step (λj _=>⟨λhj=>⟨rfl,Qi (λe=>hj.1 (by rw[<- e,h1]))⟩,λhj hm=>⟨rfl,Qi (λe=>h2.elim (λh3=>hj (by rw[<- e,h3])) (λh3=>hm (by rw[<- e,h3])))⟩⟩) T.ap
def VR.part{own}{tw}{h h'}{p ps pl pr pt}{S}(T:VR own tw h p ps pl pr pt S){t}(ht:t≠.no)(s:Step (λl=>tw l=t) h h'):
  kD (QS own h .no) h' ps S.M/\(∀u,u≠.no->u≠t->∀l,l<h.length->tw l=u->ZS tw h t l=u/\h'[l]? = h[l]?)/\(∀l,ZS tw h t l≠.no->QS own h .no l=.no):=by
 refine⟨T.co.step λl hl hv=>⟨JY hl,s.keep l hl λe=>hv.1 (T.ap l (by rw[e];exact ht))⟩,λu hu hn l hl h1=>⟨by rw[KR hl,h1],s.keep l hl λe=>hn (by rw[<- h1,e])⟩,λl hl=>?_⟩;by_cases h1:l<h.length
 ·rw[KR h1]at hl;rw[JY h1];exact T.ap l hl
 ·exact zQ (by omega)
def Ja.part{n}{own}{tw}{h h':List Ob}{t}(ht:t≠.no/\t≠.my)(hn:n<=h.length)(s:Step (λl=>tw l=t) h h'):Ja n own tw h (QS own h .no) (ZS tw h t) h':=
 ⟨λl hl=>JY hl,λl hl=>KR hl,λl hl _ h2=>s.keep l (by omega) λe=>ht.1 (by rw[<- e,h2]),λl hl h2=>s.keep l hl λe=>ht.2 (by rw[<- e,h2]),s.len⟩
def QAC{tw}{h}{t}(l):more (λl=>tw l=t) h l->ZS tw h t l=t:=λhl=>by
 unfold ZS;split
 ·rfl
 ·rcases hl with hl|hl
  ·exact hl
  ·omega
section
variable {own:Nat->Tag}{tw:Nat->TT}{h h':List Ob}{p ps pl pr pt:Nat}{S:ZH}(T:VR own tw h p ps pl pr pt S)
include T
theorem VR.link{u a b c}(s:Step (λl=>tw l=.ln) h h')(hl:h'[pl]? = some (qX a b c S.M.lk.t u)):VR (QS own h .no) (ZS tw h .ln) h' p ps pl pr pt { S with YR:=u }:=by
 obtain⟨C,r,ap⟩:=T.part (by simp) s;have k:∀l o t,tw l=t->t≠.no->t≠.ln->h[l]? = some o->ZS tw h .ln l=t/\h'[l]? = some o:=λl o t h1 h2 h3 h4=>by
  obtain⟨a,b⟩:=r t h2 h3 l (Qc h4) h1;exact⟨a,b.trans h4⟩
 obtain⟨_,_,_,qK⟩:=T.ln;exact⟨(k _ _ _ T.tp (by simp) (by simp) T.o).2,(k _ _ _ T.tp (by simp) (by simp) T.o).1,C,⟨a,b,c,hl⟩,by rw[KR (Qc qK)];exact T.tl,T.tb.step (r _ (by simp) (by simp)),T.st.step (r _ (by simp) (by simp)),ap⟩
theorem VR.stat{st}(s:Step (λl=>tw l=.st) h h')(hs:Yk (more (λl=>tw l=.st) h) h' pt st):VR (QS own h .no) (ZS tw h .st) h' p ps pl pr pt { S with st:=st }:=by
 obtain⟨C,r,ap⟩:=T.part (by simp) s;have k:∀l o t,tw l=t->t≠.no->t≠.st->h[l]? = some o->ZS tw h .st l=t/\h'[l]? = some o:=λl o t h1 h2 h3 h4=>by
  obtain⟨a,b⟩:=r t h2 h3 l (Qc h4) h1;exact⟨a,b.trans h4⟩
 obtain⟨a,b,c,hl⟩:=T.ln;exact⟨(k _ _ _ T.tp (by simp) (by simp) T.o).2,(k _ _ _ T.tp (by simp) (by simp) T.o).1,C,⟨a,b,c,(k _ _ _ T.tl (by simp) (by simp) hl).2⟩,(k _ _ _ T.tl (by simp) (by simp) hl).1,T.tb.step (r _ (by simp) (by simp)),hs.step λl _ hl=>⟨QAC l hl,rfl⟩,ap⟩
theorem VR.clock(c o):VR own tw (h.set p (qW ps pl pr pt c o)) p ps pl pr pt { S with Ql:=c,ops:=o }:=by
 have k:∀l x t,tw l=t->t≠.sys->h[l]? = some x->(h.set p (qW ps pl pr pt c o))[l]? = some x:=λl x t h1 h2 h3=>by
  rw[Qi (λe=>h2 (by rw[<- h1,<- e,T.tp]))];exact h3
 have s:∀t,t≠.sys->∀l,l<h.length->tw l=t->tw l=t/\(h.set p (qW ps pl pr pt c o))[l]? = h[l]? := λt h2 l hl h1=>
  ⟨h1,Qi (λe=>h2 (by rw[<- h1,<- e,T.tp]))⟩
 obtain⟨a,b,d,hl⟩:=T.ln;exact⟨Qv (Qc T.o),T.tp,T.co.step λl _ hv=>⟨rfl,Qi (λe=>hv.1 (T.ap l (by rw[<- e,T.tp];simp)))⟩,⟨a,b,d,k _ _ _ T.tl (by simp) hl⟩,T.tl,T.tb.step (s _ (by simp)),T.st.step (s _ (by simp)),T.ap⟩
theorem VR.rules{g}{RO}{R}(hb:F1 (λl=>h.length<=l) (h++g) RO R):
  VR (QS own h .no) (ZS tw h .F0) ((h++g).set p (qW ps pl RO pt S.Ql S.ops)) p ps pl RO pt { S with R:=R }:=by
 have hp:=Qc T.o;have k:∀l x t,tw l=t->t≠.no->t≠.sys->h[l]? = some x->ZS tw h .F0 l=t/\((h++g).set p (qW ps pl RO pt S.Ql S.ops))[l]? = some x:=λl x t h1 h2 h3 h4=>by
  refine⟨by rw[KR (Qc h4),h1],?_⟩;rw[Qi (λe=>h3 (by rw[<- h1,<- e,T.tp])),QC (Qc h4)];exact h4
 have s:∀t,t≠.no->t≠.sys->∀l,l<h.length->tw l=t->ZS tw h .F0 l=t/\((h++g).set p (qW ps pl RO pt S.Ql S.ops))[l]? = h[l]? := λt h2 h3 l hl h1=>
  ⟨by rw[KR hl,h1],by rw[Qi (λe=>h3 (by rw[<- h1,<- e,T.tp])),QC hl]⟩
 obtain⟨a,b,d,hl⟩:=T.ln;refine⟨Qv (by simp;omega),by rw[KR hp];exact T.tp,T.co.step λl hl hv=>⟨JY hl,by rw[Qi (λe=>hv.1 (T.ap l (by rw[<- e,T.tp];simp))),QC hl]⟩,⟨a,b,d,(k _ _ _ T.tl (by simp) (by simp) hl).2⟩,(k _ _ _ T.tl (by simp) (by simp) hl).1,
  hb.step λl hl h1=>⟨DQ h1,Qi (λe=>by omega)⟩,T.st.step (s _ (by simp) (by simp)),λl hl=>?_⟩
 by_cases h1:l<h.length
 ·rw[KR h1]at hl;rw[JY h1];exact T.ap l hl
 ·exact zQ (by omega)
end
end Go.Fg.X
