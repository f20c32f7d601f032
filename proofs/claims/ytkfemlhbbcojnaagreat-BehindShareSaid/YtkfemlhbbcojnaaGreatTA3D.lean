/- Contracts and laws on the way to the statement. No conditions. -/
import Derived.Test.YtkfemlhbbcojnaaGreatSCaD
import Derived.Test.YtkfemlhbbcojnaaGreatCA3D
import Derived.Test.YtkfemlhbbcojnaaGreatSU1D
set_option maxRecDepth 100000
set_option maxHeartbeats 16000000
set_option linter.unusedVariables false
set_option linter.unusedSimpArgs false
set_option linter.unusedSectionVars false
set_option linter.defProp false
namespace Go.Fg.X
open Go.Proofs Go.Fg
open Go.Proofs.Tryz
@[go_sem] def qu(id:Int)(x:Pk)(r:Bool):List D:=[Qa id,.raw (.int .u64 x.iD),.raw (.int .i64 x.len),.raw (.int .u16 x.wc),.raw (.int .u16 x.wg),.raw (.int .u16 x.wh),.raw (.int .u16 x.wi),QT r]
@[go_sem] def kj:Ob:=⟨.one,0,8,1,λ_=>qu 0 default false⟩
@[go_sem] def qv(x:Pk):Ob:=⟨.one,0,6,1,λ_=>x.cells⟩
def wQ(M:Qk)(now:Nat):(ZE M now).N=M.N/\(ZE M now).T=M.T/\(ZE M now).A=M.A:=by unfold ZE;split<;>exact⟨rfl,rfl,rfl⟩
def vu{M}(I:Qy M)(now):Qy (ZE M now):=by
 unfold ZE;split
 .rename_i h;unfold vr at h;simp only[qB,LV,Pz]at h;exact⟨I.tree,I.wK,I.to,I.nodes,I.V7,I.ks,I.u7,I.kg,I.kh,by show now<=_;omega,I.acc⟩
 .exact I
structure Qmd (own:Nat->Tag) (h:List Ob) (p:Nat) (L:Loc) (M:Qk) (id:Int) (r:Bool) (lb:Nat) (x:Pk) (U:List Int) (k:Nat) (s:St):Prop where
 ex:∃own' H,Zr own' H p L ((U.take k).foldl (Vw x.len.toNat) M)/\Zo own h own' H/\own' h.length=.no/\H[h.length]? = some kj/\own' lb=.no/\H[lb]? = some (qv x) /\
  s=⟨[(0,.ptr p 0 0 0),(4,.ptr h.length 0 0 0),(6,Qa id),(7,QT r),(9,.ptr (L.le id) 0 0 0),(10,.ptr lb 0 0 0),(53,ints U),(54,Qa U.length),(55,Qa k)],H⟩
def Qmd.of{own}{h:List Ob}{p}{L}{M}{id}{r}{lb}{x:Pk}{U:List Int}{k:Nat}{own'}{H:List Ob}(C:Zr own' H p L ((U.take k).foldl (Vw x.len.toNat) M))(D:Zo own h own' H)(h1:own' h.length=.no)(h2:H[h.length]? = some kj)(h3:own' lb=.no)(h4:H[lb]? = some (qv x)):
  Qmd own h p L M id r lb x U k ⟨[(0,.ptr p 0 0 0),(4,.ptr h.length 0 0 0),(6,Qa id),(7,QT r),(9,.ptr (L.le id) 0 0 0),(10,.ptr lb 0 0 0),(53,ints U),(54,Qa U.length),(55,Qa k)],H⟩:=⟨⟨own',H,C,D,h1,h2,h3,h4,rfl⟩⟩
def Td(M:Qk)(now:Nat)(d:D)(M':Qk):Prop:=
 (vr M now=false/\d=.tup [.agg (qu 0 default false),QT false]/\M'=M) \/
 (vr M now=true/\∃o,wP (ZE M now) now o/\match K8 (ZE M now) now o with
  | none=>d=.tup [.agg (qu 0 default false),QT false]/\M'=ZE M now
  | some (id,r)=>d=.tup [.agg (qu id ((Qw M id).q.l.headD default) r),QT true]/\M'=Xb (ZE M now) id r)
def QwD{own}{h}{p}{L}{M}(C:Zr own h p L M)(I:Qy M)(now)
  (QwF:∀o id r,wP (ZE M now) now o->K8 (ZE M now) now o=some (id,r)->∃n,Qh M.N id=some n/\n.c.leaf=true/\n.q.l≠[]/\(1<QR n.c.ls->id∈M.A)) :
  QH prog 188 h [.ptr p 0 0 0,u64 now] (λd h'=>∃own' M',Zr own' h' p L M'/\Qy M'/\Zo own h own' h'/\Td M now d M'):=by
 have ho:=C.ob;have C0:=C.N8 [kj];have D0:=Zo.app own h [kj] .no;have j9:QV own h .no h.length=.no:=by unfold QV;rw[Qd (QB _)]
 have Zp:(h++[kj])[h.length]? = some kj:=by rw[KV rfl];rfl
 refine QQ func188 ntmps188 results188 λbase w pl hb=>?_;have Ql:=Qb ho;simp only[go_sem];refine Zw hb Qdu (QgH C0 now) λd h1 hR=>?_;obtain⟨rfl,C1,D1⟩:=hR;have I1:=vu I now;obtain⟨t1,t2,t3⟩:=wQ M now;have xY:=D0.trans D1;have J5:h1[h.length]? = some kj:=(D1.keep h.length σ j9).trans Zp;have Ll:=Qb J5;obtain⟨Jl,Lm⟩:∃o,o=QV own h .no:=⟨_,rfl⟩;have Yv:∀o,(h1.set h.length o)[h.length]? = some o:=λo=>QE Ll;rw[<- Lm]at xY C1 j9;apply Qg hb;cases ht:vr M now with
 | false=>
  simp only[go_sem,J5,Yv];have hM:ZE M now=M:=by unfold ZE;rw[ht];rfl
  rw[hM]at C1;exact⟨Jl,M,C1.loc j9 _,I,xY.CK (QB _) _,.inl ⟨ht,rfl,rfl⟩⟩
 | true=>
  simp only[go_sem];refine oz hb QqK (Qwy C1 I1 now) λd hR=>?_;obtain⟨o,ss,rfl⟩:=hR;apply Qg hb;have su:K8 (ZE M now) now o=none->∃own' M',Zr own' (h1.set h.length kj) p L M'/\Qy M'/\Zo own h own' (h1.set h.length kj)/\Td M now (.tup [.agg (qu 0 default false),QT false]) M':=λhp=>
   ⟨Jl,ZE M now,C1.loc j9 _,I1,xY.CK (QB _) _,.inr ⟨ht,o,ss,by rw[hp];exact⟨rfl,rfl⟩⟩⟩
  have xZ:∀id r own' H,K8 (ZE M now) now o=some (id,r)->Zr own' H p L (Xb (ZE M now) id r)->Qy (Xb (ZE M now) id r)->Zo own h own' H->Td M now (.tup [.agg (qu id ((Qw M id).q.l.headD default) r),QT true]) (Xb (ZE M now) id r):=λid r own' H hp _ _ _=>
   .inr ⟨ht,o,ss,by rw[hp];exact⟨rfl,rfl⟩⟩
  obtain⟨id,r,Q8,hp⟩|hp:(∃id r,Oj (ZE M now) now o=.tup [Qa id,QT r,QT true]/\K8 (ZE M now) now o=some (id,r))\/(Oj (ZE M now) now o=.tup [Qa 0,QT false,QT false]/\K8 (ZE M now) now o=none):=by
   cases o with
   | some x=>exact .inl ⟨x.ki,true,rfl,rfl⟩
   | none=>
    unfold Oj QgW K8;dsimp only;cases wO (ZE M now) now 17 0 with
    | none=>exact .inr ⟨rfl,rfl⟩
    | some i=>exact .inl ⟨i,false,rfl,rfl⟩
  case inr=>
   obtain⟨hd,hp⟩:=hp;rw[hd];simp only[go_sem,J5,Yv];exact su hp
  rw[Q8];obtain⟨n,hn,hl,hq,K9⟩:=QwF o id r ss hp;have KJ:Qh (ZE M now).N id=some n:=by rw[t1];exact hn
  have ZU:Qw M id=n:=by unfold Qw;rw[hn];rfl
  have sv:Qw (ZE M now) id=n:=by unfold Qw;rw[KJ];rfl
  obtain⟨x,q,Om⟩:∃x q,n.q.l=x::q:=by
   cases yW:n.q.l with
   | nil=>exact absurd yW hq
   | cons x q=>exact⟨x,q,rfl⟩
  have YL:=C1.look KJ;have ZN:=C1.ob;have Lf:=Qb ZN;have ze:=C1.Vv;have QwE:=Qb ze;have BA:=(C1.Jm id n KJ).1;have QgK:=Qb BA;obtain⟨kq,Lc,hQ⟩:=C1.WX id n KJ hl;have Oc:=Qy.id hn;have EK:qD L.lq n=.ptr (L.lq id) 0 0 0:=by unfold qD;rw[Qd hl,Oc]
  rw[EK]at BA;simp only[go_sem,ZN,ze,YL,BA];refine Zw hb QqL (QtZ hQ Om) λd h2 hR=>?_;obtain⟨rfl,Q2,s2⟩:=hR;have C2:=C1.x5 KJ hl Lc Q2 s2;have sw:{ ZE M now with N:=VV (ZE M now).N id λm=>{ m with q:=WI n.q } }=WL (ZE M now) id:=by unfold WL;rw[sv]
  rw[sw]at C2;have D2:=xY.trans (Zo.of (t:=.x5 id) σ s2);have ZB:h2[h.length]? = some kj:=(s2.keep h.length Ll (by rw[j9];simp)).trans J5;have KO:QV Jl h1 (.x5 id) h.length=.no:=by rw[Kg Ll];exact j9
  have Jp:=s2.len;have C3:=C2.N8 [qv x];have D3:=D2.trans (Zo.app _ h2 [qv x] .no);have qn:(h2++[qv x])[h.length]? = some kj:=(QG (Qb ZB)).trans ZB;have yP:QV (QV Jl h1 (.x5 id)) h2 .no h.length=.no:=by rw[Kg (Qb ZB)];exact KO
  have IB:(h2++[qv x])[h2.length]? = some (qv x):=by rw[KV rfl];rfl
  have zy:QV (QV Jl h1 (.x5 id)) h2 .no h2.length=.no:=by unfold QV;rw[Qd (QB _)]
  have I3:=I1.WL id;have zd:=C3.ob;have Li:=Qb zd;generalize sx:h2++[qv x]=H3 at C3 D3 qn IB zd Li;generalize QV (QV Jl h1 (.x5 id)) h2 .no=y9 at C3 D3 yP zy;apply JH hb;have sy:h2++[(⟨.one,0,6,1,λ_=>[.raw (.int .u64 x.iD),.raw (.int .i64 x.len),.raw (.int .u16 x.wc),.raw (.int .u16 x.wg),.raw (.int .u16 x.wh),.raw (.int .u16 x.wi)]⟩:Ob)]=H3:=sx;simp only[sy];simp only[go_sem,zd];apply ZQ hb Ry (oL C3.tr.toR I3.tree.toTreeInv id);apply Qn hb;obtain⟨U,hU⟩:∃U,U=up M.T id:=⟨_,rfl⟩;have hU3:Jr (WL (ZE M now) id).T 16 id=U:=by rw[hU];show up (ZE M now).T id=_;rw[t2]
  rw[hU3];have fh:U.length<=16:=by rw[hU];exact yN
  obtain⟨M3,qV⟩:∃M3,M3=WL (ZE M now) id:=⟨_,rfl⟩;have Qg1:M3.T=M.T:=by rw[qV];exact t2
  have QwG:M3.A=M.A:=by rw[qV];exact t3
  rw[<- qV]at C3 I3;have Wf:NP x:=by
   obtain⟨r2,Q⟩:=hQ;exact Q.lens x (by rw[Om];simp)
  have ex:IntKind.u64.wrap x.len=((x.len.toNat:Nat):Int):=II (by have:=Wf.1;omega) (by have:=Wf.2;omega);obtain⟨n3,QwH,Qg2,QwI⟩:∃m,Qh M3.N id=some m/\m.c=n.c/\m.q=WI n.q:=by
   rw[qV];unfold WL;rw[sv];refine⟨{ n with q:=WI n.q },?_,rfl,rfl⟩;rw[qU (f:=λm=>{ m with q:=WI n.q }) (λ_=>rfl),Qd rfl,KJ];rfl
  refine Z3 (Qmd own h p L M3 id r h2.length x U) U.length QM (Qmd.of (k:=0) C3 D3 yP qn zy IB) ?_;rintro k _ hk ⟨wN,H5,C5,D5,fv,Bx,fw,On,rfl⟩;have sf:=Qb Bx;have Qg3:=Qb On;have I5:=Qy.fu (len:=x.len.toNat) (U.take k) I3;obtain⟨kT,kA,kK,klk,kc,ka,kL⟩:=Lk x.len.toNat (U.take k) M3;by_cases Qj:k<U.length;case pos=>
   have dk:=QU Qj;obtain⟨j,hj⟩:∃j,j=U.getD k 0:=⟨_,rfl⟩;have EM:j∈up M.T id:=by rw[hj,<- hU];exact qg U 0 k Qj
   have Jk:(U.take (k+1)).foldl (Vw x.len.toNat) M3=Vw x.len.toNat ((U.take k).foldl (Vw x.len.toNat) M3) j:=by
    rw[getD_take U 0 k Qj,jo,<- hj];rfl
   obtain⟨M5,Oi⟩:∃M5,M5=(U.take k).foldl (Vw x.len.toNat) M3:=⟨_,rfl⟩;rw[<- Oi]at C5 I5 kT Jk;obtain⟨y,hy⟩:∃y,Qh M5.N j=some y:=by
    have Ya:=Gk EM;rw[<- Qg1,<- kT,I5.find]at Ya;cases hq:Qh M5.N j with
    | none=>rw[hq]at Ya;cases Ya
    | some y=>exact⟨y,rfl⟩
   have xW:=C5.YN j y hy;have fq:=C5.look hy;have CO:=C5.ob;have sb:=Qb CO;have Te:=C5.Vv;have sA:=Qb Te;have Lj:=(C5.Jm j y hy).1;have sg:=Qb Lj;have EN:=(C5.Jm j y hy).2;have Zb:=J9 (show k<4611686018427387904 from ω);have nb:L.le j≠h.length:=λe=>by rw[e,fv]at EN;cases EN
   have nx:L.le j≠h2.length:=λe=>by rw[e,fw]at EN;cases EN
   have GO:∀s,(H5.set (L.le j) ⟨.one,0,60,1,λ_=>KQ (qD L.lq y) s⟩)[L.le j]? = some ⟨.one,0,60,1,λ_=>KQ (qD L.lq y) s⟩:=λs=>QE sg;have Gw:∀s,(H5.set (L.le j) s)[h2.length]? = some (qv x):=λs=>(Qr nx).trans On;apply Qg hb;simp only[go_sem,Qj,<- hj,CO,Te,fq];apply QF hb Eq;simp only[go_sem,Qe,Lj,On,ex,Ss];have hT1:=Qt9 y.sh xW.sh (VO (y.QO+x.len.toNat)) (IG _);have CP:=pN y.cp xW.cp (VO (y.QO+x.len.toNat)) (IG _);apply QF hb Uc;simp only[go_sem,GO];apply Jb hb QqM hT1;apply ZH hb;simp only[go_sem,Qe,GO];apply QF hb Uc;simp only[go_sem,GO];apply Jb hb mU CP;apply ZH hb;simp only[go_sem,Qe,GO];have C6:=C5.wj hy (xX x.len.toNat) (λ_=>rfl) (λ_=>rfl) (QgY xW _);have D6:=Zo.set (own:=wN) (h:=H5) (Yo (qD L.lq y) (xX x.len.toNat y)) (l:=L.le j) (by rw[EN];simp);refine⟨Qj,_,Qz.frame (by simp only[go_sem,Zb]),Qmd.of (by rw[Jk];exact C6) (D5.trans D6) fv (by rw[Qr nb];exact Bx) fw (by rw[Qr nx];exact On)⟩
  have Jf:k=U.length:=ω;have dk:=QI Qj;rw[Jf,q9]at C5 I5 kT kA;obtain⟨M5,Oi⟩:∃M5,M5=U.foldl (Vw x.len.toNat) M3:=⟨_,rfl⟩;obtain⟨n5,Oo,Qg4,QwK,_⟩:=Qg0 x.len.toNat U M3 id QwH;rw[<- Oi]at C5 I5 kT kA Oo;have hl5:n5.c.leaf=true:=by rw[Qg4,Qg2];exact hl
  have fq:=C5.look Oo;have CO:=C5.ob;have sb:=Qb CO;have Lj:=(C5.Jm id n5 Oo).1;have sg:=Qb Lj;apply Qg hb;simp only[go_sem,dk];apply Qg hb;simp only[go_sem,On];refine Zw hb QqN (Qwo C5 I5 Oo hl5 x.len (by have:=Wf.1;omega) (by have:=Wf.2;omega) r) λd H6 hR=>?_;obtain⟨Qg6,C6,D6⟩:=hR;have I6:=I5.VQ Oo x.len r;obtain⟨kT6,kA6,_⟩:=Ol M5 id x.len r;obtain⟨n6,Tf,Qg9,QwL⟩:=QwC M5 id x.len r id Oo;obtain⟨M6,hM6⟩:∃M6,M6=VQ M5 id x.len r:=⟨_,rfl⟩;rw[<- hM6]at C6 I6 kT6 kA6 Tf;have Ew:H6[h.length]? = some kj:=(D6.keep _ sf fv).trans Bx;have fx:Qg6 h.length=.no:=(D6.same _ sf).trans fv;have Gw:H6[h2.length]? = some (qv x):=(D6.keep _ Qg3 fw).trans On;have sB:Qg6 h2.length=.no:=(D6.same _ Qg3).trans fw;have fy:=Qb Ew;have dW:=Qb Gw;have D06:=D5.trans D6;have IJ:n6.c.leaf=true:=by rw[Qg9];exact hl5
  have hq6:n6.q=WI n.q:=by rw[QwL,QwK,QwI]
  have hc6:n6.c=n.c:=by rw[Qg9,Qg4,Qg2]
  have Gz:=C6.ob;have Bp:=Qb Gz;have GO:=(C6.Jm id n6 Tf).1;have QFW:=Qb GO;have QwN:qD L.lq n6=.ptr (L.lq id) 0 0 0:=by unfold qD;rw[Qd IJ,hc6,Oc]
  rw[QwN]at GO;obtain⟨kq6,QFY,hQ6⟩:=C6.WX id n6 Tf IJ;have hql:n6.q.l.length=q.length:=by rw[hq6];unfold WI;rw[Om];rfl
  have Vl:Qx M6.T id=some n6.c:=I6.some Tf;have vS:Xb (ZE M now) id r=VW (if (WI n.q).l=[] then WY M6 id else M6) (up (ZE M now).T id):=by
   unfold Xb;simp only[sv,Om,List.headD_cons];rw[show up (ZE M now).T id=U by rw[t2];exact hU.symm,<- qV,<- Oi,<- hM6]
  have sC:M6.T=M.T:=by rw[kT6,kT,Qg1]
  have hA6:M6.A=M.A:=by rw[kA6,kA,QwG]
  apply Qg hb;simp only[go_sem,GO];apply ZQ hb Np (NS hQ6.toR);apply Qg hb;simp only[go_sem,hql];have dO:∀Aa H8,Zr Aa H8 p L (Xb (ZE M now) id r)->Qy (Xb (ZE M now) id r)->Zo own h Aa H8->H8[h.length]? = some kj->Aa h.length=.no ->
    ∃own' M',Zr own' (H8.set h.length ⟨.one,0,8,1,λ_=>qu id x r⟩) p L M'/\Qy M'/\Zo own h own' (H8.set h.length ⟨.one,0,8,1,λ_=>qu id x r⟩)/\Td M now (.tup [.agg (qu id x r),QT true]) M':=λAa H8 C8 I8 D8 GP Tg=>
   ⟨Aa,_,C8.loc Tg _,I8,D8.CK (QB _) _,by
    have:=xZ id r Aa H8 hp C8 I8 D8;rwa [ZU,Om,List.headD_cons]at this⟩
  have hqz:(WI n.q).l=q:=by unfold WI;rw[Om];rfl
  rw[hqz]at vS;cases hqc:q with
  | cons z q2=>
   have dz:(((q2.length+1:Nat):Int)==0)=false:=Xl ω;rw[hqc,Qc σ]at vS;have ZO:=rS C6 I6 id;rw[sC,<- t2,<- vS]at ZO;simp only[go_sem,dz];refine Zw hb mT ZO λd H8 hR=>?_;obtain⟨Aa,C8,I8,D8⟩:=hR;have GP:H8[h.length]? = some kj:=(D8.keep _ fy fx).trans Ew;have Th:H8[h2.length]? = some (qv x):=(D8.keep _ dW sB).trans Gw;have Tg:Aa h.length=.no:=(D8.same _ fy).trans fx;have sD:=Qb GP;have QwR:=Qb Th;have sF:∀o,(H8.set h.length o)[h.length]? = some o:=λo=>QE sD;apply Qg hb;simp only[go_sem,GP,Th,sF];exact dO Aa H8 C8 I8 (D06.trans D8) GP Tg
  | nil=>
   rw[hqc,Qd rfl]at vS;simp only[go_sem];refine Zw hb QqO (Qwu C6 I6 Tf IJ (by rw[hc6,hA6];exact K9) (QwB I6.tree Vl IJ _)) λd H7 hR=>?_;obtain⟨zz,C7,I7,D7⟩:=hR;have hb7:H7[h.length]? = some kj:=(D7.keep _ fy fx).trans Ew;have hx7:H7[h2.length]? = some (qv x):=(D7.keep _ dW sB).trans Gw;have hn7:zz h.length=.no:=(D7.same _ fy).trans fx;have QwS:zz h2.length=.no:=(D7.same _ dW).trans sB;have Qhi:=Qb hb7;have QwT:=Qb hx7;have ZO:=rS C7 I7 id;have hT7:(WY M6 id).T=M.T:=by
    unfold WY;split
    .rw[(GM _ _).1];exact sC
    .exact sC
   rw[hT7,<- t2,<- vS]at ZO;apply Qn hb;refine Zw hb mT ZO λd H8 hR=>?_;obtain⟨Aa,C8,I8,D8⟩:=hR;have GP:H8[h.length]? = some kj:=(D8.keep _ Qhi hn7).trans hb7;have Th:H8[h2.length]? = some (qv x):=(D8.keep _ QwT QwS).trans hx7;have Tg:Aa h.length=.no:=(D8.same _ Qhi).trans hn7;have sD:=Qb GP;have QwR:=Qb Th;have sF:∀o,(H8.set h.length o)[h.length]? = some o:=λo=>QE sD;apply Qg hb;simp only[go_sem,GP,Th,sF];exact dO Aa H8 C8 I8 ((D06.trans D7).trans D8) GP Tg
structure WM (c:Cf):Prop where
 t1:1<=c.t
 t2:c.t<=65536
 l1:1<=c.ZX
 l2:c.ZX<=16384
def Vf(M:Qk)(id:Int)(x:Pk):Qk:={ M with N:=VV M.N id λm=>{ m with q:=Xa (Qw M id).c.ZD (Qw M id).c.bytes (Qw M id).q x } }
def jg(M:Qk)(a:Nat):Qk:={ M with acc:=a }
def Vx(M:Qk)(cls:Int)(x:Pk):Int:=
 match Qh M.N cls with
 | none=>23
 | some n=>if n.c.leaf=false then 29 else if x.len<1\/M.lk.ZX<x.len then 26 else if 1099511627776<M.acc+x.len.toNat then 28
  else if j7 n.c.ZD n.c.bytes n.q x=true then 30 else 0
def Vy(M:Qk)(now:Nat)(cls:Int)(x:Pk):Qk:=
 if Vx M cls x=30 then Vf M cls x
 else if Vx M cls x=0 then (if (Qw M cls).q.l=[] then Yp (jg (Vf M cls x) (M.acc+x.len.toNat)) now cls x.len else jg (Vf M cls x) (M.acc+x.len.toNat))
 else M
def Qy.Vf{M}(I:Qy M)(id:Int)(x):Qy (Vf M id x):=I.VV id (λm=>{ m with q:=Xa (Qw M id).c.ZD (Qw M id).c.bytes (Qw M id).q x }) λ_=>rfl
def Qy.jg{M}(I:Qy M){a}(h:a<=1099511627776):Qy (jg M a):=⟨I.tree,I.wK,I.to,I.nodes,I.V7,I.ks,I.u7,I.kg,I.kh,I.Qf,h⟩
def Qhj(M:Qk)(now:Nat):(ZE M now).lk=M.lk/\(ZE M now).acc=M.acc:=by unfold ZE;split<;>exact⟨rfl,rfl⟩
def km(M:Qk)(now:Nat)(cls:Int)(x:Pk):Int:=if vr M now=true then Vx (ZE M now) cls x else 27
def Jx(M:Qk)(now:Nat)(cls:Int)(x:Pk):Qk:=if vr M now=true then Vy (ZE M now) now cls x else M
def QwV{own}{h}{p}{L}{M:Qk}(C:Zr own h p L M)(I:Qy M)(K:WM M.lk)(now)(Wo:now<18446744073709551616)(cls)(x)
  (hA:∀n,Qh M.N cls=some n->n.c.leaf=true->n.q.l=[]->cls ∉ M.A) :
  QH prog 148 h [.ptr p 0 0 0,u64 now,Qa cls,.agg x.cells] (λd h'=>∃own' M',Zr own' h' p L M'/\Qy M'/\Zo own h own' h' /\
   d=Qa (km M now cls x)/\M'=Jx M now cls x):=by
 have ho:=C.ob;have C0:=C.N8 [qv x];have D0:=Zo.app own h [qv x] .no;have j9:QV own h .no h.length=.no:=by unfold QV;rw[Qd (QB _)]
 have Zp:(h++[qv x])[h.length]? = some (qv x):=by rw[KV rfl];rfl
 refine QQ func148 ntmps148 results148 λbase w pl hb=>?_;have Ql:=Qb ho;simp only[go_sem];refine Zw hb Qdu (QgH C0 now) λd h1 hR=>?_;obtain⟨rfl,C1,D1⟩:=hR;have I1:=vu I now;obtain⟨t1,t2,t3⟩:=wQ M now;obtain⟨t4,t5⟩:=Qhj M now;have xY:=D0.trans D1;have J5:h1[h.length]? = some (qv x):=(D1.keep h.length σ j9).trans Zp;have Ll:=Qb J5;obtain⟨Jl,Lm⟩:∃o,o=QV own h .no:=⟨_,rfl⟩;rw[<- Lm]at xY C1 j9;have ZN:=C1.ob;have Lf:=Qb ZN;have ze:=C1.Vv;have QwE:=Qb ze;apply Qg hb;cases ht:vr M now with
 | false=>
  have hM:ZE M now=M:=by unfold ZE;rw[ht];rfl
  rw[hM]at C1;simp only[go_sem];exact⟨Jl,M,C1,I,xY,by rw[show km M now cls x=27 from Qc (by rw[ht];exact Ao)],(Qc (by rw[ht];exact Ao)).symm⟩
 | true=>
  have xC:∀own' H M',Zr own' H p L M'->Qy M'->Zo own h own' H->M'=Vy (ZE M now) now cls x->∀e,Vx (ZE M now) cls x=e->∃own' M',Zr own' H p L M'/\Qy M'/\Zo own h own' H/\Qa e=Qa (km M now cls x)/\M'=Jx M now cls x:=
   λown' H M' h1 h2 h3 h4 e he=>⟨own',M',h1,h2,h3,by rw[<- he];unfold km;rw[Qd ht],by unfold Jx;rw[Qd ht];exact h4⟩
  obtain⟨M1,hM1⟩:∃M1,M1=ZE M now:=⟨_,rfl⟩;rw[<- hM1]at C1 I1 t1 t2 t3 t4 t5 xC ZN;cases hf:Qh M1.N cls with
  | none=>
   have hk:=C1.qp.at_ cls;rw[hf,YV]at hk;have hE:Vx M1 cls x=23:=by unfold Vx;rw[hf]
   have hP:Vy M1 now cls x=M1:=by unfold Vy;rw[hE];rfl
   simp only[go_sem,ZN,ze,hk];exact xC Jl h1 M1 C1 I1 xY hP.symm 23 hE
  | some n=>
   have hk:=C1.look hf;have BA:=(C1.Jm cls n hf).1;have QgK:=Qb BA;have Oc:=Qy.id hf;simp only[go_sem,ZN,ze,hk,BA];cases hl:n.c.leaf with
   | false=>
    have hE:Vx M1 cls x=29:=by unfold Vx;rw[hf];simp[hl]
    have hP:Vy M1 now cls x=M1:=by unfold Vy;rw[hE];rfl
    simp only[go_sem];exact xC Jl h1 M1 C1 I1 xY hP.symm 29 hE
   | true=>
    have fA:=J5;have Yv:∀o,(h1.set h.length o)[h.length]? = some o:=λo=>QE Ll;obtain⟨kq,Lc,hQ⟩:=C1.WX cls n hf hl;have EK:qD L.lq n=.ptr (L.lq cls) 0 0 0:=by unfold qD;rw[Qd hl,Oc]
    rw[EK]at BA;have ZU:Qw M1 cls=n:=by unfold Qw;rw[hf];rfl
    have K1:WM M1.lk:=by rw[t4];exact K
    have Jj:=K1.l1;have Jp:=K1.l2;have QwW:=I1.acc;have fE:(x.len<1\/M1.lk.ZX<x.len)->Vx M1 cls x=26:=λh=>by unfold Vx;rw[hf];simp only[hl];rw[Qc σ,Qd h]
    have fP:(x.len<1\/M1.lk.ZX<x.len)->Vy M1 now cls x=M1:=λh=>by unfold Vy;rw[fE h];rfl
    cases d1:decide (x.len<1) with
    | true=>
     have:=X8 d1;simp only[go_sem];apply QF hb Uo;simp only[go_sem,J5,d1];exact xC Jl h1 M1 C1 I1 xY (fP (.inl this)).symm 26 (fE (.inl this))
    | false=>
     have x1:1<=x.len:=by have:=BR d1;omega
     cases d2:decide (M1.lk.ZX<x.len) with
     | true=>
      have:=X8 d2;simp only[go_sem];apply QF hb Uo;simp only[go_sem,J5,ZN,d1,d2];exact xC Jl h1 M1 C1 I1 xY (fP (.inr this)).symm 26 (fE (.inr this))
     | false=>
      have x2:x.len<=M1.lk.ZX:=by have:=BR d2;omega
      have hx:NP x:=⟨x1,ω⟩;have nH:(x.len.toNat:Int)=x.len:=Dh ω;obtain⟨a,ha⟩:∃a,a=x.len.toNat:=⟨_,rfl⟩;rw[<- ha]at nH;have ex:IntKind.u64.wrap x.len=(a:Int):=by rw[ha];exact II ω ω
      have ew:IntKind.u64.wrap ((M1.acc:Int)+(a:Int))=((M1.acc+a:Nat):Int):=by rw[II ω ω];omega
      have ge:¬ (x.len<1\/M1.lk.ZX<x.len):=ω;cases d3:decide ((1099511627776:Int)<((M1.acc+a:Nat):Int)) with
      | true=>
       have d3':=X8 d3;have hE:Vx M1 cls x=28:=by unfold Vx;rw[hf];simp only[hl];rw[Qc σ,Qc ge,Qd (by rw[<- ha];omega)]
       have hP:Vy M1 now cls x=M1:=by unfold Vy;rw[hE];rfl
       simp only[go_sem];apply QF hb Uo;simp only[go_sem,J5,ZN,d1,d2];apply QF hb Ud;simp only[go_sem,J5,ZN,ex,ew,d3];exact xC Jl h1 M1 C1 I1 xY hP.symm 28 hE
      | false=>
       have d3':=BR d3;simp only[go_sem];apply QF hb Uo;simp only[go_sem,J5,ZN,d1,d2];apply QF hb Ud;simp only[go_sem,J5,ZN,ex,ew,d3];apply Vk [5] hb [0,1,2,3,4,1005,6] [];simp only[go_sem,J5,BA];refine jZ hb Qqn (QtY hQ x hx) λd h2 hR=>?_;obtain⟨rfl,Q2,s2⟩:=hR;have KO:QV Jl h1 (.x5 cls) h.length=.no:=by rw[Kg Ll];exact j9
       have ZB:h2[h.length]? = some (qv x):=(s2.keep h.length Ll (by rw[j9];simp)).trans J5;have CQ:=Qb ZB;have C2:=C1.x5 hf hl Lc Q2 s2;have D2:=xY.trans (Zo.of (t:=.x5 cls) σ s2);have sw:{ M1 with N:=VV M1.N cls λm=>{ m with q:=Xa kq n.c.bytes n.q x } }=Vf M1 cls x:=by unfold Vf;rw[ZU,Lc]
       rw[sw]at C2;have I2:=I1.Vf cls x;have jT:∀b,j7 kq n.c.bytes n.q x=b->Vx M1 cls x=if b=true then 30 else 0:=λb hb=>by
        unfold Vx;rw[hf];simp only[hl];rw[Qc σ,Qc ge,Qc (by rw[<- ha];omega),Lc,hb]
       generalize QV Jl h1 (.x5 cls)=JW at C2 D2 KO;apply ZH hb;cases sG:j7 kq n.c.bytes n.q x with
       | true=>
        have hE:Vx M1 cls x=30:=jT _ sG;have hP:Vy M1 now cls x=Vf M1 cls x:=by unfold Vy;rw[hE];rfl
        simp only[go_sem];exact xC JW h2 _ C2 I2 D2 hP.symm 30 hE
       | false=>
        have hE:Vx M1 cls x=0:=jT _ sG;have K6:=C2.ob;have EL:=Qb K6;have QwY:(Vf M1 cls x).acc=M1.acc:=rfl;have QwZ:(Vf M1 cls x).lk=M1.lk:=rfl;have Qw0:(Vf M1 cls x).Qf=M1.Qf:=rfl;have C3:Zr JW (h2.set p (je M1.lk L.t L.b L.o L.v L.m M1.Qf (M1.acc+a))) p L (jg (Vf M1 cls x) (M1.acc+a)):=C2.Qf M1.Qf (M1.acc+a);have I3:Qy (jg (Vf M1 cls x) (M1.acc+a)):=I2.jg ω;have D3:=D2.trans (Zo.set (own:=JW) (h:=h2) (l:=p) (je M1.lk L.t L.b L.o L.v L.m M1.Qf (M1.acc+a)) (by rw[C2.op];decide));have hnp:p≠h.length:=λe=>by have:=C2.op;rw[e,KO]at this;cases this
        have qn:(h2.set p (je M1.lk L.t L.b L.o L.v L.m M1.Qf (M1.acc+a)))[h.length]? = some (qv x):=(Qr hnp).trans ZB;have S5:=Qb qn;generalize sx:h2.set p (je M1.lk L.t L.b L.o L.v L.m M1.Qf (M1.acc+a))=H3 at C3 D3 qn S5;have sy:h2.set p ⟨.one,0,9,1,λ_=>[.raw (.int .i64 M1.lk.t),.raw (.int .i64 M1.lk.ZX),.ptr L.t 0 0 0,.mref L.b 0,.ptr L.o 0 0 0,.ptr L.v 0 0 0,.mref L.m 0,.raw (.int .u64 (M1.Qf:Nat)),.raw (.int .u64 ((M1.acc+a:Nat):Int))]⟩=H3:=sx;have yP:Qh (jg (Vf M1 cls x) (M1.acc+a)).N cls=some { n with q:=Xa kq n.c.bytes n.q x }:=by
         show Qh (Vf M1 cls x).N cls=_;unfold Vf;dsimp only;rw[ZU,Lc,qU (f:=λm:Nd=>{ m with q:=Xa kq n.c.bytes n.q x }) (λ_=>rfl) cls,Qd rfl,hf,KK]
        have BB:=(C3.Jm cls _ yP).1;have Qw2:qD L.lq { n with q:=Xa kq n.c.bytes n.q x }=.ptr (L.lq cls) 0 0 0:=by unfold qD;rw[Qd hl,Oc]
        rw[Qw2]at BB;have fo:=Qb BB;obtain⟨kq3,QF0,hQ3⟩:=C3.WX cls _ yP hl;simp only[go_sem];apply QF hb Eq;simp only[go_sem,ZB,K6,ex,ew,QwY,QwZ,Qw0,sy,BB];have Zh:(Xa kq n.c.bytes n.q x).l.length=n.q.l.length+1:=by unfold Xa;rw[Qc (by rw[sG];exact Ao)];simp
        have hql:({ n with q:=Xa kq n.c.bytes n.q x }:Nd).q.l.length=n.q.l.length+1:=Zh;have zd:=C3.ob;have Li:=Qb zd;apply ZQ hb Np (NS hQ3.toR);apply Qg hb;simp only[go_sem,Zh];cases hq:n.q.l with
        | cons y q=>
         have dz:(((q.length+1+1:Nat):Int)==1)=false:=Xl ω;have hP:Vy M1 now cls x=jg (Vf M1 cls x) (M1.acc+a):=by unfold Vy;rw[hE,ZU,hq,<- ha];rfl
         simp only[go_sem,Kv,dz];exact xC JW H3 _ C3 I3 D3 hP.symm 0 hE
        | nil=>
         have dz:(((0+1:Nat):Int)==1)=true:=rfl;have ZP:JV (jg (Vf M1 cls x) (M1.acc+a)) cls=false:=by
          rw[Xe];intro h9;have h8:=(ft I1.tree (I1.some hf) hl M1.A).1 h9;rw[t3]at h8;exact hA n (by rw[<- t1];exact hf) hl hq h8
         have hP:Vy M1 now cls x=Yp (jg (Vf M1 cls x) (M1.acc+a)) now cls x.len:=by unfold Vy;rw[hE,ZU,hq,<- ha];rfl
         simp only[go_sem,List.length_nil];simp only[go_sem,qn];refine Zw hb Qqo (Qwr C3 I3 yP hl now Wo x.len ω ZP) λd h4 hR=>?_;obtain⟨CS,C4,I4,D4⟩:=hR;apply Qn hb;exact xC CS h4 _ C4 I4 (D3.trans D4) hP.symm 0 hE
@[go_sem] def fB(c:Cf):Ob:=⟨.one,0,2,1,λ_=>c.cells⟩
def M0(c:Cf):Qk:=⟨c,[],[],[],[],[],λid=>decide (id=0),λ_=>[],0,0⟩
def fC(own:Nat->Tag)(b:Nat)(l:Nat):Tag:=
 if l<b then own l else if l<b+2 then .tree else if l<b+5 then .lv else if l<b+8 then .XG 0 else if l=b+8 then .mk else if l=b+9 then .rN else if l=b+10 then .sc else .on
def Qhk(h:List Ob):Wy prog 61 h [] (λd g=>d=.ptr (h.length+1) 0 0 0/\g=[QK .i64 0 [],⟨.one,0,1,1,λ_=>[.mref h.length 0]⟩]):=
 QH.mono (QtL (h.map Ob.ro)) λd h' ⟨h1,h2⟩=>⟨_,h2,by rw[h1,J1],by rw[J1]⟩
def P2(b:Nat):List Ob:=[wB .nil,QK .i64 0 [],Er b (b+1)]
def Qw4(h:List Ob):Wy prog 133 h [] (λd g=>d=.ptr (h.length+2) 0 0 0/\g=P2 h.length):=by
 have:QH prog 133 (h.map Ob.ro) [] (λd h'=>d=.ptr ((h.map Ob.ro).length+2) 0 0 0/\h'=h.map Ob.ro++P2 (h.map Ob.ro).length):=by
  generalize h.map Ob.ro=h;refine QQ func133 ntmps133 results133 λbase w pl hb=>?_;simp only[go_sem];refine Zw hb Qds (Qe3 h) λd h hR=>?_;obtain⟨rfl,rfl⟩:=hR;apply JH hb;rfl
 exact QH.mono this λd h' ⟨h1,h2⟩=>⟨_,h2,by rw[h1,J1],by rw[J1]⟩
def Qhl(h:List Ob):Wy prog 134 h [] (λd g=>d=.ptr (h.length+2) 0 0 0/\g=P2 h.length):=by
 have:QH prog 134 (h.map Ob.ro) [] (λd h'=>d=.ptr ((h.map Ob.ro).length+2) 0 0 0/\h'=h.map Ob.ro++P2 (h.map Ob.ro).length):=by
  generalize h.map Ob.ro=h;refine QQ func134 ntmps134 results134 λbase w pl hb=>?_;simp only[go_sem];refine Zw hb Qds (Qe3 h) λd h hR=>?_;obtain⟨rfl,rfl⟩:=hR;apply JH hb;rfl
 exact QH.mono this λd h' ⟨h1,h2⟩=>⟨_,h2,by rw[h1,J1],by rw[J1]⟩
def sH{H:List Ob}{S}{b}(h0:H[b]? = some (wB .nil))(h1:H[b+1]? = some (QK .i64 0 []))(h2:H[b+2]? = some (Er b (b+1)))(s0:S b)(s1:S (b+1))(s2:S (b+2)):WA S H (b+2) []:=
 ⟨b,b+1,.nil,0,[],h2,⟨h0,trivial,rfl,by simp[Tr.QJ],by simp[Tr.QJ],by simp[Vc]⟩,h1,XW.nil,σ,ω,ω,ω,by simp[Tr.QJ],by simp[Tr.QJ],s2,s0,s1,by simp[Tr.QJ]⟩
def Qhm:JG []:=⟨TreeInv.nil,σ,σ,σ,σ⟩
def Qhn(c):Qy (M0 c):=
 ⟨Qhm,λc hc=>by simp[M0]at hc,rfl,rfl,λa ha=>by simp[M0]at ha,λid=>by simp[M0,Qh],λx hx=>by simp[M0]at hx,λid x hx=>by simp[M0]at hx,λid x hx=>by simp[M0]at hx,by simp[M0],by simp[M0]⟩
def Qw5{own}{h}(c):
  QH prog 79 h [.agg c.cells] (λd h'=>(WM c/\∃own' L p,d=.tup [.ptr p 0 0 0,Qa 0]/\Zr own' h' p L (M0 c)/\Qy (M0 c)/\Zo own h own' h')\/(¬ WM c/\d=.tup [.raw (.pointer none),Qa 1]/\∃g,h'=h++g)):=by
 have Zp:∀g,(h++fB c::g)[h.length]? = some (fB c):=λg=>KV rfl;by_cases K:WM c
 .have d1:decide (c.t<1)=false:=QI (by have:=K.t1;omega);have d2:decide (65536<c.t)=false:=QI (by have:=K.t2;omega);have d3:decide (c.ZX<1)=false:=QI (by have:=K.l1;omega);have d4:decide (16384<c.ZX)=false:=QI (by have:=K.l2;omega);refine QQ func79 ntmps79 results79 λbase w pl hb=>?_;simp only[go_sem,Qe,Qe,d1,d2,d3,d4];apply QF hb [0,1001,1003,1005,1004,1006,7,1002,8,1009,10];simp only[go_sem,Qe];refine Nf hb Qc8 rfl ?_ (Qhk _) rfl λd h hR=>?_
  .simp only[go_sem]
  obtain⟨rfl,rfl⟩:=hR;apply Cs hb;refine Nf hb Qp5 rfl ?_ (Qw4 _) rfl λd h hR=>?_
  .simp only[go_sem]
  obtain⟨rfl,rfl⟩:=hR;apply ZH hb;simp only[go_sem,Qe,P2];refine Nf hb Qdh rfl ?_ (Qhl _) rfl λd h hR=>?_
  .simp only[go_sem]
  obtain⟨rfl,rfl⟩:=hR;apply ZH hb;simp only[go_sem,Qe,P2];refine Qup yG hb rfl rfl rfl rfl (VD (k:=9) rfl) ?_;apply Cs hb;obtain⟨cm,em,SQ,YE⟩:=KW.nil.set .i64 0 0 (.ptr (h.length+6+2) 0 0 0);obtain⟨G,hG⟩:∃G:List Ob,G=[fB c,QK .i64 0 [],⟨.one,0,1,1,λ_=>[.mref (h.length+1) 0]⟩,wB .nil,QK .i64 0 [],Er (h.length+3) (h.length+3+1),wB .nil,QK .i64 0 [],Er (h.length+6) (h.length+6+1),JZ .i64 0 [] 0 (.ptr (h.length+6+2) 0 0 0),QK .i64 0 [],⟨.one,0,9,1,λ_=>[Qa c.t,Qa c.ZX,.ptr (h.length+1+1) 0 0 0,.mref (h.length+10) 0,.raw (.pointer none),.ptr (h.length+3+2) 0 0 0,.mref (h.length+9) 0,u64 0,u64 0]⟩]:=⟨_,rfl⟩;have N6:G.length=12:=by rw[hG];rfl
  have gk:∀k o,G[k]? = some o->(h++G)[h.length+k]? = some o:=λk o e=>by rw[Kb ω,Pq];exact e
  have ht:=gk 2 _ (by rw[hG];rfl);have hm:=gk 1 _ (by rw[hG];rfl);have hs:=gk 11 _ (by rw[hG];rfl);have GQ:=Qb hs;have R:VN (h++G) (h.length+2) []:=VM.toR (S:=λ_=>True) ⟨h.length+1,0,[],ht,hm,Va.nil,trivial,trivial⟩;have ha:=QeX R Qhm;rw[hG]at ha;refine YB hb Qdi rfl ?_ ha rfl λd h' hR=>?_
  .simp only[go_sem]
  rw[<- hG]at hR;obtain⟨rfl,hO,g,rfl⟩:=hR;apply Qg hb;have Jv:((h++G)++g)[h.length+11]? = _:=(QG GQ).trans hs;have CU:=Qb Jv;have hGL:(h++G).length=h.length+12:=by rw[ZW,N6]
  simp only[go_sem,Jv];obtain⟨Qw6,dY⟩:∃o,o=QV own h .no:=⟨_,rfl⟩;obtain⟨Jl,sI⟩:∃o,o=fC Qw6 (h.length+1):=⟨_,rfl⟩;have tg:∀k,k<12->Jl (h.length+k)=if k<1 then .no else if k<3 then .tree else if k<6 then .lv else if k<9 then .XG 0 else if k=9 then .mk else if k=10 then .rN else .sc:=λk hk=>by
   rw[sI];unfold fC;by_cases k1:k<1
   .rw[Qd ω,Qd k1,dY];unfold QV;rw[Qd ω]
   .rw[Qc ω,Qc k1];by_cases k2:k<3
    .rw[Qd ω,Qd k2]
    .rw[Qc ω,Qc k2];by_cases k3:k<6
     .rw[Qd ω,Qd k3]
     .rw[Qc ω,Qc k3];by_cases k4:k<9
      .rw[Qd ω,Qd k4]
      .rw[Qc ω,Qc k4];by_cases k5:k=9
       .rw[Qd ω,Qd k5]
       .rw[Qc ω,Qc k5];by_cases k6:k=10
        .rw[Qd ω,Qd k6]
        .rw[Qc ω,Qc k6,Qd ω]
  have tgo:∀l,h.length+12<=l->Jl l=.on:=λl hl=>by
   rw[sI];unfold fC;rw[Qc ω,Qc ω,Qc ω,Qc ω,Qc ω,Qc ω,Qc ω]
  have tgn:∀l,l<h.length->Jl l=own l:=λl hl=>by
   rw[sI];unfold fC;rw[Qd ω,dY];exact Kg hl
  generalize hS:(⟨.one,0,9,1,_⟩:Ob)=S0;have CV:∀k o,k<11->G[k]? = some o->((h++G++g).set (h.length+11) S0)[h.length+k]? = some o:=λk o hk e=>(Qr ω).trans ((QG ω).trans (gk k o e));have g1:=CV 1 _ ω (by rw[hG];rfl);have g2:=CV 2 _ ω (by rw[hG];rfl);have g3:=CV 3 _ ω (by rw[hG];rfl);have g4:=CV 4 _ ω (by rw[hG];rfl);have g5:=CV 5 _ ω (by rw[hG];rfl);have g6:=CV 6 _ ω (by rw[hG];rfl);have g7:=CV 7 _ ω (by rw[hG];rfl);have g8:=CV 8 _ ω (by rw[hG];rfl);have g9:=CV 9 _ ω (by rw[hG];rfl);have g10:=CV 10 _ ω (by rw[hG];rfl);have g11:((h++G++g).set (h.length+11) S0)[h.length+11]? = some S0:=QE CU;rw[SQ]at g9;have BC:∀id n,Qh (M0 c).N id=some n->False:=by intro id n hn;cases hn
  refine .inl ⟨K,Jl,⟨h.length+2,h.length+10,(h++G).length+3,h.length+5,h.length+9,0,cm,[],em,λ_=>0,λ_=>0,λ_=>h.length+8⟩,h.length+11,rfl,⟨?_,(tg 11 ω).trans rfl,⟨h.length+1,0,[],g2,g1,Va.nil,(tg 2 ω).trans rfl,(tg 1 ω).trans rfl⟩,g10,KW.nil.to λk=>rfl,(tg 10 ω).trans rfl,λid n hn=>(BC id n hn).elim,λid n hn=>(BC id n hn).elim,?_,sH (S:=λl=>Jl l=.lv) g3 g4 g5 ((tg 3 ω).trans rfl) ((tg 4 ω).trans rfl) ((tg 5 ω).trans rfl),g9,YE.to λk=>?_,(tg 9 ω).trans rfl,λid Q8=>?_,λid n hn=>(BC id n hn).elim⟩,Qhn c,⟨tgn,?_,?_⟩⟩
  .rw[g11,<- hS];rfl
  .exact hO.step λl hl ho=>⟨tgo l ω,Qr ω⟩
  .by_cases hk:k=0
   .subst hk;rfl
   .show (if k=0 then _ else _)=if decide (k=0)=true then _ else _;rw[Qc hk,Qc (by simpa using hk)]
  .have:id=0:=by simpa[M0] using Q8
   subst this;exact sH (S:=λl=>Jl l=.XG 0) g6 g7 g8 ((tg 6 ω).trans rfl) ((tg 7 ω).trans rfl) ((tg 8 ω).trans rfl)
  .intro l hl ZP;exact(Qr ω).trans ((QG ω).trans (QG hl))
  .simp only[Wu,ZW];omega
 .have fin:∀d,d=D.tup [.raw (.pointer none),Qa 1]->∃g,h++[fB c]=h++g:=λ_ _=>⟨_,rfl⟩;cases d1:decide (c.t<1) with
  | true=>
   refine QQ func79 ntmps79 results79 λbase w pl hb=>?_;simp only[go_sem,Qe,Qe,d1];exact .inr ⟨K,_,rfl⟩
  | false=>
   cases d2:decide (65536<c.t) with
   | true=>
    refine QQ func79 ntmps79 results79 λbase w pl hb=>?_;simp only[go_sem,Qe,Qe,d1,d2];exact .inr ⟨K,_,rfl⟩
   | false=>
    cases d3:decide (c.ZX<1) with
    | true=>
     refine QQ func79 ntmps79 results79 λbase w pl hb=>?_;simp only[go_sem,Qe,Qe,d1,d2,d3];exact .inr ⟨K,_,rfl⟩
    | false=>
     have d4:decide (16384<c.ZX)=true:=by
      have e1:=BR d1;have e2:=BR d2;have e3:=BR d3;refine QU (kC λe4=>K ⟨ω,ω,ω,ω⟩)
     refine QQ func79 ntmps79 results79 λbase w pl hb=>?_;simp only[go_sem,Qe,Qe,d1,d2,d3,d4];exact .inr ⟨K,_,rfl⟩
def fD{l:List Int}{k}(h:k<l.length):l.getD k 0∈l:=by
 rw[Q5,QP h];exact YU h
def sJ(l:List Int)(F:List Ob)(f nf:Nat)(Qs:List D)(g:Int->Bool):Prop:=∀(h:List Ob) (n:Int),n∈l->Vj F h->Q6 prog f h (ZT nf Qs [Qa n]) (λd=>d=QT (g n))
def Ti(l:List Int)(F:List Ob)(lo:Nat)(f nf:Nat)(Qs:List D)(g:Int->Bool):Prop:=∀(h:List Ob) (n:Int),n∈l->F.length<=h.length->(∀l,l<F.length->l≠lo->h[l]? = F[l]?)->Q6 prog f h (ZT nf Qs [Qa n]) (λd=>d=QT (g n))
section
variable (h:List Ob)(l:List Int)(lo gn off:Nat)(row:Nat->List D)(hlen:l.length<1000000)(ho:(h.map Ob.ro)[lo]? = some ⟨.yl,gn,1,off+l.length,row⟩)(hr:∀i,i<l.length->row (off+i)=[Qa (l.getD i 0)])
include hlen ho hr
theorem Qw9(so:D)(f nf:Nat)(Qs:List D)(hf:Qm prog f)(KZ:Jq so=some (f,nf,Qs))(gk:Int->Bool)(hg:sJ l (h.map Ob.ro) f nf Qs gk):
  Q6 prog 128 h [.ref lo gn off l.length,so] (λd=>d=Qa (wk gk l)):=by
 refine xD func128 ntmps128 results128 λbase w pl F hF Q7 hb=>?_;rw[<- hF]at ho;have Ql:=Qb ho;simp only[go_sem];refine Z3 (λk s=>(∀i,i<k->gk (l.getD i 0)=false)/\s=⟨[(0,.ref lo gn off l.length),(1,so),(7,Qa l.length),(8,Qa k)],F⟩) l.length QM ⟨λi hi=>absurd hi ω,rfl⟩ ?_;rintro k s hk ⟨hn,rfl⟩;apply Qn hb;have Ql:=Qb ho;have Zb:=J9 (show k<4611686018427387904 from ω);first|refine jO hk (λQj=>?_) (λQj=>?_)|refine jP hk (λQj=>?_) (λQj=>?_)
 .have wm:=hr k Qj;have zj:off+k<off+l.length:=ω;simp only[go_sem,ho,Qj,wm,zj];refine Kw hb hf KZ ?_ (hg F (l.getD k 0) (fD Qj) (by rw[<- hF];exact Vj.refl F)) rfl λd2 hR=>?_
  .simp only[go_sem];exact Bd _
  subst hR;apply Qg hb;cases be:gk (l.getD k 0)
  .simp only[go_sem];refine⟨Qj,_,Qz.frame (by simp only[go_sem,Zb]),λi hi=>?_,rfl⟩;by_cases h1:i<k
   .exact hn i h1
   .have:i=k:=ω;subst this;exact be
  .rw[nT Qj hn be];simp only[go_sem];exact⟨[],(JI F).symm⟩
 .have Qj:k=l.length:=ω;subst Qj;simp only[go_sem,Mb];rw[nU hn];apply Qn hb;exact⟨[],(JI F).symm⟩
end
section
variable (h:List Ob)(l:List Int)(lo gn off:Nat)(row:Nat->List D)(hlen:l.length<1000000)(ho:h[lo]? = some ⟨.arr,gn,1,off+l.length,row⟩)(hr:∀i,i<l.length->row (off+i)=[Qa (l.getD i 0)])
include hlen ho hr
theorem Qxa(so:D)(f nf:Nat)(Qs:List D)(hf:Qm prog f)(KZ:Jq so=some (f,nf,Qs))(gk:Int->Bool)(hg:Ti l h lo f nf Qs gk)(IW:Ti l (h.map Ob.ro) lo f nf Qs gk):
  QH prog 65 h [.ref lo gn off l.length,so] (λd h'=>d=.ref lo gn off (Wl gk l).length/\∃JU,h'=h.set lo ⟨.arr,gn,1,off+l.length,JU⟩/\∀i,i<(Wl gk l).length->JU (off+i)=[Qa ((Wl gk l).getD i 0)]):=by
 refine QQ func65 ntmps65 results65 λbase w pl hb=>?_;have Ql:=Qb ho;simp only[go_sem];refine Kw hb H9 rfl ?_ (Qw9 h l lo gn off row hlen (ZC ho) hr so f nf Qs hf KZ gk (λh' n hm hx=>?_)) rfl λd2 hR=>?_
 .simp only[go_sem];exact Cn so
 .obtain⟨g,rfl⟩:=hx;exact IW _ n hm σ λl hl _=>QG hl
 subst hR;have Yv:h.set lo ⟨.arr,gn,1,off+l.length,row⟩=h:=wY λi=>by
  by_cases h1:lo=i
  .subst h1;rw[Wt Ql,ho]
  .rw[Jw h1]
 rcases Qgu (g:=gk) (l:=l) with ⟨h1,h2⟩|⟨i,hi,h1,h2,h3⟩
 .rw[h1,h2];apply Qn hb;exact⟨row,Yv.symm,hr⟩
 .rw[h1];have QA:(((i:Nat):Int)==-1)=false:=σ;have Zb:=J9 (show i<4611686018427387904 from ω);apply Qg hb;simp only[go_sem,QA,Zb];refine Z3 (λk s=>∃r2:Nat->List D,(∀x,x<l.length->(r2 (off+x)).length=1)/\(∀j,j<((l.take (i+1+k)).filter λx=>!gk x).length->r2 (off+j)=[Qa (((l.take (i+1+k)).filter λx=>!gk x).getD j 0)])/\(∀j,i+1+k<=j->j<l.length->r2 (off+j)=[Qa (l.getD j 0)]) /\
   s=⟨[(0,.ref lo gn off l.length),(1,so),(5,Qa ((l.take (i+1+k)).filter λx=>!gk x).length),(6,Qa (i+1+k:Nat))],h.set lo ⟨.arr,gn,1,off+l.length,r2⟩⟩) (l.length - (i+1))
   (s0:=⟨[(0,.ref lo gn off l.length),(1,so),(5,Qa i),(6,Qa (i+1:Nat))],h⟩) QM ⟨row,λx hx=>by rw[hr x hx];rfl,?_,λj _ hj=>hr j hj,?_⟩ ?_
  .rw[BP,h3];intro j hj;simp at hj;rw[hr j ω];simp[Q5,hj,show j<l.length by omega]
  .rw[BP,h3,Yv];simp[Nat.min_eq_left (Nat.le_of_lt hi)]
  rintro k s hk ⟨r2,We,Jy,zw,rfl⟩;have IX:=Qgt l (λx=>!gk x) (i+1+k);obtain⟨M,hM⟩:∃M,M=(l.take (i+1+k)).filter λx=>!gk x:=⟨_,rfl⟩;obtain⟨j,hj⟩:∃j,j=i+1+k:=⟨_,rfl⟩;have Jj:lo<(h.set lo ⟨.arr,gn,1,off+l.length,r2⟩).length:=by simpa using Ql
  have XB:(h.set lo ⟨.arr,gn,1,off+l.length,r2⟩)[lo]? = some ⟨.arr,gn,1,off+l.length,r2⟩:=QE Ql;rw[<- hj]at hM Jy zw IX ⊢;rw[<- hM]at Jy IX ⊢;have xR:j<=l.length:=ω;have Zb:=J9 (show j<4611686018427387904 from ω);have rG:=J9 (show M.length<4611686018427387904 from ω);have rH:∀x,x<h.length->x≠lo->(h.set lo ⟨.arr,gn,1,off+l.length,r2⟩)[x]? = h[x]? := λx _ hx=>Qr (Q3 hx);apply Qn hb;first|refine jO xR (λQj=>?_) (λQj=>?_)|refine jP xR (λQj=>?_) (λQj=>?_)
  .have IY:=zw j (QB _) Qj;have J5:off+j<off+l.length:=ω;simp only[go_sem,Qj,XB,IY,J5];refine Kw hb hf KZ ?_ (hg _ (l.getD j 0) (fD Qj) σ rH) rfl λd2 hR=>?_
   .simp only[go_sem];exact Bd _
   subst hR;have ZO:=rF l (λx=>!gk x) j Qj;rw[<- hM,show l.getD j default=l.getD j 0 from rfl]at ZO;cases be:gk (l.getD j 0)
   .rw[Qd (by simp only[be,Fh])]at ZO;have ZB:M.length<l.length:=ω;have qn:off+M.length<off+l.length:=ω;have rI:List.drop 1 (r2 (off+M.length))=[]:=Pb (by rw[We _ ZB];exact QB _);apply Qg hb;simp only[go_sem,Qe,XB,Zb,rG,ZB,qn,rI];have ej:i+1+(k+1)=j+1:=ω;have Bx:(M++[l.getD j 0]).length=M.length+1:=σ;refine⟨ω,_,Qz.frame (fr':=[(0,.ref lo gn off l.length),(1,so),(5,Qa (M.length+1:Nat)),(6,Qa (j+1:Nat))]) (by simp only[go_sem]),λx=>bif x==off+M.length then [Qa (l.getD j 0)] else r2 x,?_,?_,?_,?_⟩
    .intro x hx;show (bif off+x==off+M.length then [Qa (l.getD j 0)] else r2 (off+x)).length=1;cases (off+x==off+M.length)
     .exact We x hx
     .rfl
    .rw[ej,ZO];intro x hx;simp at hx;by_cases SN:x=M.length
     .subst SN;simp only[Hj,js];simp;rfl
     .have e1:(off+x==off+M.length)=false:=ξ;have:=Jy x ω;simp only[e1,YW,this];rw[Q5,Q5,JC ω];rfl
    .intro x Xz Wf;have e1:(off+x==off+M.length)=false:=ξ;simp only[e1,YW];exact zw x ω Wf
    .rw[ej,ZO,Bx];rfl
   .rw[Qc (by simp only[be,Ap];decide)]at ZO;apply Qg hb;simp only[go_sem,Zb];refine⟨ω,_,Qz.frame (fr':=[(0,.ref lo gn off l.length),(1,so),(5,Qa M.length),(6,Qa (j+1:Nat))]) (by simp only[go_sem]),r2,We,?_,?_,?_⟩
    .rw[show i+1+(k+1)=j+1 by omega,ZO];exact Jy
    .intro x Xz Wf;exact zw x ω Wf
    .rw[show i+1+(k+1)=j+1 by omega,ZO];rfl
  .subst Qj;rw[q9]at hM;have YK:M=Wl gk l:=hM;rw[<- YK];have J5:M.length<=l.length:=ω;apply Qg hb;simp only[go_sem,XB,J5];refine dJ yG hb rfl XB rfl rfl rfl rfl ξ rfl rfl rfl rfl ?_;have rJ:∀r:Ob,(h.set lo r)[lo]? = some r:=λr=>QE Ql;apply Qg hb;simp only[go_sem,Qe,rJ,J5];refine⟨σ,_,rfl,λx hx=>by rw[dH ω];exact Jy x hx⟩
theorem Qxb(so:D)(f nf:Nat)(Qs:List D)(hf:Qm prog f)(KZ:Jq so=some (f,nf,Qs))(gk:Int->Bool)(hg:Ti l h lo f nf Qs gk)(IW:Ti l (h.map Ob.ro) lo f nf Qs gk):
  QH prog 65 h [.ref lo gn off l.length,so] (λd h'=>d=.ref lo gn off (Wl gk l).length/\∃JU,h'=h.set lo ⟨.arr,gn,1,off+(Wl gk l).length,JU⟩/\∀i,i<(Wl gk l).length->JU (off+i)=[Qa ((Wl gk l).getD i 0)]):=by
 refine QH.cut (Qxa h l lo gn off row hlen ho hr so f nf Qs hf KZ gk hg IW) ?_;rintro d h' ⟨rfl,JU,rfl,EH⟩;have:=Xx (λx=>!gk x) l;refine⟨lo,⟨.arr,gn,1,off+l.length,JU⟩,off+(Wl gk l).length,QE (Qb ho),rfl,by simp only[Wl];omega,rfl,JU,by rw[JK],EH⟩
end
section
variable (h:List Ob)(l:List Int)(hlen:l.length<1000000)
include hlen
theorem Qxc(so:D)(f nf:Nat)(Qs:List D)(hf:Qm prog f)(KZ:Jq so=some (f,nf,Qs))(gk:Int->Bool)(hg:sJ l (h.map Ob.ro) f nf Qs gk):
  Q6 prog 128 h [ints l,so] (λd=>d=Qa (wk gk l)):=by
 refine xD func128 ntmps128 results128 λbase w pl F hF Q7 hb=>?_;simp only[go_sem];refine Z3 (λk s=>(∀i,i<k->gk (l.getD i 0)=false)/\s=⟨[(0,ints l),(1,so),(7,Qa l.length),(8,Qa k)],F⟩) l.length QM ⟨λi hi=>absurd hi ω,rfl⟩ ?_;rintro k s hk ⟨hn,rfl⟩;apply Qn hb;have Zb:=J9 (show k<4611686018427387904 from ω);first|refine jO hk (λQj=>?_) (λQj=>?_)|refine jP hk (λQj=>?_) (λQj=>?_)
 .simp only[go_sem,Qj];refine Kw hb hf KZ ?_ (hg F (l.getD k 0) (fD Qj) (by rw[<- hF];exact Vj.refl F)) rfl λd2 hR=>?_
  .simp only[go_sem];exact Bd _
  subst hR;apply Qg hb;cases be:gk (l.getD k 0)
  .simp only[go_sem];refine⟨Qj,_,Qz.frame (by simp only[go_sem,Zb]),λi hi=>?_,rfl⟩;by_cases h1:i<k
   .exact hn i h1
   .have:i=k:=ω;subst this;exact be
  .rw[nT Qj hn be];simp only[go_sem];exact⟨[],(JI F).symm⟩
 .have Qj:k=l.length:=ω;subst Qj;simp only[go_sem,Mb];rw[nU hn];apply Qn hb;exact⟨[],(JI F).symm⟩
theorem sK(so:D)(f nf:Nat)(Qs:List D)(hf:Qm prog f)(KZ:Jq so=some (f,nf,Qs))(gk:Int->Bool)(hg:sJ l (h.map Ob.ro) f nf Qs gk):
  Q6 prog 141 h [ints l,so] (λd=>d=QT (decide (0<=wk gk l))):=by
 refine xD func141 ntmps141 results141 λbase w pl F hF Q7 hb=>?_;simp only[go_sem];refine Kw hb H9 rfl ?_ (Qxc F l hlen so f nf Qs hf KZ gk (λh' n hm hx=>?_)) rfl λd2 hR=>?_
 .simp only[go_sem];exact Cn so
 .rw[hF,nR]at hx;exact hg h' n hm hx
 subst hR;apply Qn hb;exact⟨[],(JI F).symm⟩
end
structure qW (h:List Ob) (p:Nat) (L:Loc) (M:Qk):Prop where
 ob:(h.map Ob.ro)[p]? = some (je M.lk L.t L.b L.o L.v L.m M.Qf M.acc).ro
 tr:VN h L.t M.T
 Vv:(h.map Ob.ro)[L.b]? = some (QK .i64 L.cb L.eb).ro
 qp:KW L.eb (λid=>(Qh M.N id).map λ_=>.ptr (L.le id) 0 0 0)
 Jm:∀id n,Qh M.N id=some n->(h.map Ob.ro)[L.le id]? = some (Yo (qD L.lq n) n).ro
 WX:∀id n,Qh M.N id=some n->n.c.leaf=true->∃k:Nat,n.c.ZD=k/\NR h (L.lq id) k n.c.bytes n.q
 YM:Gr h L.o M.To M.A
 XH:Et h L.v M.Lv
 VP:(h.map Ob.ro)[L.m]? = some (QK .i64 L.cm L.em).ro
 Xr:KW L.em (λid=>if M.ks id=true then some (.ptr (L.lk id) 0 0 0) else none)
 kids:∀id,M.ks id=true->Et h (L.lk id) (M.KT id)
def Zr.ro{own}{h}{p}{L}{M}(C:Zr own h p L M):qW h p L M:=
 ⟨ZC C.ob,C.tr.toR,ZC C.Vv,C.qp,λid n hn=>ZC (C.Jm id n hn).1,λid n hn hl=>by
  obtain⟨k,h1,h2⟩:=C.WX id n hn hl;exact⟨k,h1,h2.toR⟩,C.YM.toR,C.XH.toR,ZC C.VP,C.Xr,λid hk=>(C.kids id hk).toR⟩
def qW.more{h h':List Ob}{p}{L}{M}(e:∀(l:Nat) (o:Ob),(h.map Ob.ro)[l]? = some o->(h'.map Ob.ro)[l]? = some o)(C:qW h p L M):qW h' p L M:=
 ⟨e _ _ C.ob,C.tr.more e,e _ _ C.Vv,C.qp,λid n hn=>e _ _ (C.Jm id n hn),λid n hn hl=>by
  obtain⟨k,h1,h2⟩:=C.WX id n hn hl;exact⟨k,h1,h2.more e⟩,C.YM.more e,C.XH.more e,e _ _ C.VP,C.Xr,λid hk=>(C.kids id hk).more e⟩
def qW.look{h}{p}{L:Loc}{M:Qk}(C:qW h p L M){id}{n}(hn:Qh M.N id=some n):ZL L.eb id=some (.ptr (L.le id) 0 0 0):=by
 rw[C.qp.at_,hn];rfl
def Qxd{h:List Ob}{p bl}{L}{M:Qk}(C:qW h p L M){id}{n:Nd}(hn:Qh M.N id=some n)(hl:n.c.leaf=true)(Q8:n.c.iD=id)(Zp:(h.map Ob.ro)[bl]? = some ⟨.Vt,0,1,1,λ_=>[.ptr p 0 0 0]⟩):
  Q6 prog 181 h [Qa id,.ptr bl 0 0 0] (λd=>d=QT (n.q.l.isEmpty)):=by
 have ho:=C.ob;have hy:=C.Vv;have he:=C.Jm id n hn;have YL:=C.look hn;obtain⟨k,hk,hQ⟩:=C.WX id n hn hl;have EK:qD L.lq n=.ptr (L.lq id) 0 0 0:=by unfold qD;rw[Qd hl,Q8]
 rw[EK]at he;have e:((n.q.l.length:Int)==0)=(n.q.l.isEmpty):=by
  cases n.q.l with
  | nil=>rfl
  | cons x l=>simp;omega
 refine xD func181 ntmps181 results181 λbase w pl F hF Q7 hb=>?_;rw[<- hF]at Zp ho hy he;have Nw:=Qb Zp;have Ql:=Qb ho;have wz:=Qb hy;have WK:=Qb he;simp only[go_sem,Zp,ho,hy,he,YL];apply ZQ hb Np (NS (hQ.more (KC hF)));apply Qg hb;simp only[go_sem,e];exact⟨[],(JI F).symm⟩
def Qxe(h)(so):Q6 prog 65 h [.nil,so] (λd=>d=.nil):=by
 refine xD func65 ntmps65 results65 λbase w pl F hF Q7 hb=>?_;simp only[go_sem];refine Kw hb H9 rfl ?_ (nV F so) rfl λd2 hR=>?_
 .simp only[go_sem];exact Cn so
 subst hR;apply Qn hb;exact⟨[],(JI F).symm⟩
def ko(T:List Qq):List Int:=(T.filter (·.leaf)).map (·.iD)
def EO(M:Qk)(id:Int):Bool:=(Qw M id).q.l.isEmpty
def VF(M:Qk):List Int:=Wl (EO M) (ko M.T)
def fF{M:Qk}(I:Qy M){id}(h:id∈ko M.T):∃n,Qh M.N id=some n/\n.c.leaf=true/\n.c.iD=id:=by
 obtain⟨c,hc,rfl⟩:=Z2.1 h;obtain⟨yu,jx⟩:=Jt.1 hc;have hf:=(J6 I.tree.rising).2 ⟨yu,rfl⟩;rw[I.nodes,rO]at hf;cases hn:Qh M.N c.iD with
 | none=>rw[hn]at hf;cases hf
 | some n=>
  rw[hn,KK,QY]at hf;exact⟨n,rfl,by rw[hf];exact jx,by rw[hf]⟩
section
variable {h:List Ob}{p:Nat}{L:Loc}{M:Qk}(C:qW h p L M)(I:Qy M)
include C I
theorem Qxf:Wy prog 144 h [.ptr p 0 0 0] (λd g=>J7 h.length (h++g) d (VF M)):=by
 have Xy:(ko M.T).length<1000000:=by
  have:=Xx (λc:Qq=>c.leaf) M.T;have h2:=I.tree.len;simp only[ko,J1];omega
 have ho:=C.ob;refine xz Q4 200 func144 rfl ntmps144 results144 rfl λbase w pl F hF Q7 hb=>?_;rw[<- hF]at ho;have Ql:=Qb ho;simp only[go_sem,Qe,ho,Ql];obtain⟨B,hB⟩:∃B:List Ob,B=[⟨.one,0,1,1,λ_=>[.ptr p 0 0 0]⟩]:=⟨_,rfl⟩;have Tj:B.length=1:=by rw[hB];rfl
 have Zp:B[0]? = some ⟨.one,0,1,1,λ_=>[.ptr p 0 0 0]⟩:=by rw[hB];rfl
 have Lo:=hB;rw[<- Lo];have CF:qW F p L M:=C.more (KC hF);have CB:qW (F++B) p L M:=CF.more zZ;obtain⟨m,c,es,ht,hm,hT⟩:=CB.tr;refine Cc hb Qda rfl ?_ (QeP _ L.t m c hT (by have:=I.tree.len;omega) ht hm) rfl λd g hs=>?_
 .simp only[go_sem]
 rw[show (M.T.filter (·.leaf)).map (·.iD)=ko M.T from rfl]at hs;rcases hs with ⟨rfl,h3⟩|⟨lo,gn,off,row,rfl,Zq,zd,hr⟩
 .apply JH hb;refine Kw hb cv rfl ?_ (Qxe _ (.clo 181 0 [.ptr F.length 0 0 0])) rfl λd2 hR=>?_
  .simp only[go_sem]
  subst hR;apply Qn hb;refine⟨_,rfl,.inl ⟨rfl,?_⟩⟩;rw[VF,h3];rfl
 .apply JH hb;have wC:F.length+1<=lo:=by
   have h4:(F++B).length<=lo:=Zq.1;rw[ZW,Tj]at h4;exact h4
  obtain⟨H,hH⟩:∃H,H=F++(B++g):=⟨_,rfl⟩;have fG:∀x:Nat,x<F.length->H[x]? = F[x]? := λx hx=>by rw[hH];exact QG hx
  have K6:H[lo]? = some ⟨.arr,gn,1,off+(ko M.T).length,row⟩:=by rw[hH,<- V9];exact zd
  have hHb:F.length+1<=H.length:=by rw[hH];simp[Tj]
  have sL:H[F.length]? = some ⟨.one,0,1,1,λ_=>[.ptr p 0 0 0]⟩:=by rw[hH,KV rfl,QG ω];exact Zp
  rw[<- hH];have tell:∀H2:List Ob,(∀x:Nat,H[x]? = H2[x]?\/(H2[x]? = (H[x]?).map Ob.ro))->H2.length=H.length->Ti (ko M.T) H2 lo 181 0 [.ptr F.length 0 0 0] (EO M):=by
   intro H2 h2 Jp h' n WH hle sM;have key:∀(x:Nat) (o:Ob),x<F.length+1->(H.map Ob.ro)[x]? = some o->(h'.map Ob.ro)[x]? = some o:=λx o hx e=>by
    have e1:=sM x ω ω;rw[Ks]at e ⊢;rw[e1];rcases h2 x with e2|e2
    .rw[<- e2];exact e
    .rw[e2,Hi,<- e];congr 1;funext o;exact ro_ro o
   obtain⟨nd,hn,hl,Q8⟩:=fF I WH;have ZU:Qw M n=nd:=by unfold Qw;rw[hn];rfl
   have:=Qxd (CF.more (h':=h') λx o e=>key x o (by have:=Qb e;rw[J1]at this;omega) (by rw[Ks,fG x (by have:=Qb e;rw[J1]at this;omega),<- Ks];exact e)) hn hl Q8 (key F.length ⟨.Vt,0,1,1,λ_=>[.ptr p 0 0 0]⟩ ω (by rw[Ks,sL];rfl));unfold EO;rw[ZU];exact this
  refine Zw hb cv (Qxb H (ko M.T) lo gn off row Xy K6 hr (.clo 181 0 [.ptr F.length 0 0 0]) 181 0 [.ptr F.length 0 0 0] Qql rfl (EO M) (tell H (λx=>.inl rfl) rfl) (tell (H.map Ob.ro) (λx=>.inr (by rw[Ks])) σ)) λd h2 hR=>?_;obtain⟨rfl,JU,rfl,EH⟩:=hR;apply Qn hb;refine J7.done Q7 ⟨(B++g).set (lo - F.length) ⟨.arr,gn,1,off+(Wl (EO M) (ko M.T)).length,JU⟩,?_⟩ (.inr ⟨lo,gn,off,JU,rfl,?_,?_,EH⟩)
  .rw[hH,Hg _ _ (by omega:F.length<=lo)]
  .exact⟨by have:=Zq.1;omega,Zq.2⟩
  .exact QE (Qb K6)
theorem sN:Q6 prog 144 h [.ptr p 0 0 0] (λd=>d=ints (VF M)):=J7.closed (Qxf C I)
end
def Tl(l:List Int)(v:Int):Int:=if l.contains v then (l.idxOf v:Nat) else -1
def Qxh(l:List Int)(id)(hl:l.length<2147483648):QW prog 130 [ints l,Qa id] (QN (Qa (Tl l id))):=by
 refine xT 0 func130 ntmps130 results130 λbase w hb=>?_;simp only[go_sem];refine Z3 (λk s=>(l.take k).contains id=false/\s=⟨[(0,ints l),(1,Qa id),(6,ints l),(7,Qa l.length),(8,Qa k)],[]⟩) l.length (s0:=⟨[(0,ints l),(1,Qa id),(6,ints l),(7,Qa l.length),(8,Qa 0)],[]⟩) QM ⟨σ,rfl⟩ ?_;rintro k s hk ⟨ZP,rfl⟩;apply Qn hb;refine YA (λh=>?_) (λh=>?_)
 .have Qj:k<l.length:=by simpa using h
  have e1:=getD_take l 0 k Qj;simp only[go_sem,Qj];refine YA (λh2=>?_) (λh2=>?_)
  .simp only[go_sem];have h3:l=l.take k++id::l.drop (k+1):=by
    conv=>lhs;rw[<- BO (k+1) l,e1]
    simp at h2;simp[h2]
   have:Tl l id=k:=by
    have hc:l.contains id=true:=by rw[h3];simp
    have h4:¬ id∈l.take k:=by simpa using ZP
    rw[Tl,hc];simp only[Vs];rw[h3,LZ,Qc h4];simp;omega
   rw[this]
  .simp only[go_sem];refine⟨ω,_,Qz.frame (by simp only[go_sem,J9 (show k<4611686018427387904 from ω)]),?_,rfl⟩;rw[e1];simp at ZP h2 ⊢;exact⟨ZP,h2⟩
 .have Qj:k=l.length:=by simp at h;omega
  simp only[go_sem];apply Qn hb;subst Qj;simp at ZP;simp[Tl,ZP]
def Qxi(l:List Int)(id)(hl:l.length<2147483648):QW prog 68 [ints l,Qa id] (QN (QT (l.contains id))):=by
 refine xT 0 func68 ntmps68 results68 λbase w hb=>?_;simp only[go_sem];apply ZK hb Qdg (Qxh l id hl);apply Qn hb;unfold Tl;cases l.contains id<;>simp
def Qxj{h:List Ob}{p b1 b2}{L}{M}(C:qW h p L M)(I:Qy M)(id n)(h1:(h.map Ob.ro)[b1]? = some ⟨.Vt,0,1,1,λ_=>[.ptr p 0 0 0]⟩)(h2:(h.map Ob.ro)[b2]? = some ⟨.Vt,0,1,1,λ_=>[Qa id]⟩):
  Q6 prog 179 h [Qa n,.ptr b1 0 0 0,.ptr b2 0 0 0] (λd=>d=QT ((up M.T n).contains id)):=by
 have ho:=C.ob;refine xD func179 ntmps179 results179 λbase w pl F hF Q7 hb=>?_;rw[<- hF]at ho h1 h2;have Ql:=Qb ho;have Kx:=Qb h1;have wx:=Qb h2;simp only[go_sem];apply QF hb [0,1,2,3,4,6,1005,1007,8];simp only[go_sem,ho,h1,h2];apply Wz hb Ry (oL (C.tr.more (KC hF)) I.tree.toTreeInv n);apply ZA hb;have xo:(Jr M.T 16 n).length<=16:=yN (L:=M.T) (n:=16) (id:=n);apply Jb hb Rx (Qxi (Jr M.T 16 n) id ω);apply ZA hb;exact⟨[],(JI F).symm,rfl⟩
def Qxk(g)(l:List Int):(Wl g l).length<=l.length:=Xx _ _
def wR(M:Qk)(id:Int):Bool:=(VF M).any λn=>(up M.T n).contains id
def Qho{M:Qk}(I:Qy M):(VF M).length<=64:=by
 have h1:=Qxk (EO M) (ko M.T);have h2:=Xx (λc:Qq=>c.leaf) M.T;have h3:=I.tree.len;simp only[VF,ko,J1]at h1 ⊢;omega
def Qxl{h}{p}{L}{M}(C:qW h p L M)(I:Qy M)(id):
  Q6 prog 142 h [.ptr p 0 0 0,Qa id] (λd=>d=QT (wR M id)):=by
 have Xy:=Qho I;have ho:=C.ob;refine xz Q4 200 func142 rfl ntmps142 results142 rfl λbase w pl F hF Q7 hb=>?_;rw[<- hF]at ho;have Ql:=Qb ho;simp only[go_sem,Qe];have CF:qW F p L M:=C.more (KC hF);obtain⟨B,hB⟩:∃B:List Ob,B=[⟨.one,0,1,1,λ_=>[.ptr p 0 0 0]⟩,⟨.one,0,1,1,λ_=>[Qa id]⟩]:=⟨_,rfl⟩;have Zp:B[0]? = some ⟨.one,0,1,1,λ_=>[.ptr p 0 0 0]⟩:=by rw[hB];rfl
 have J5:B[1]? = some ⟨.one,0,1,1,λ_=>[Qa id]⟩:=by rw[hB];rfl
 have Lo:=hB;simp only[go_sem]at Lo;rw[<- Lo];have CB:qW (F++B) p L M:=CF.more zZ;apply ZQ hb mQ (sN CB I);apply Qn hb;refine Kw hb RC rfl ?_ (sK (F++B) (VF M) ω (.clo 179 0 [.ptr F.length 0 0 0,.ptr (F.length+1) 0 0 0]) 179 0 [.ptr F.length 0 0 0,.ptr (F.length+1) 0 0 0] Qqj rfl (λn=>(up M.T n).contains id) (λh' n hm hx=>?_)) rfl λd2 hR=>?_
 .simp only[go_sem]
 .have key:∀(l:Nat) (o:Ob),((F++B).map Ob.ro)[l]? = some o->(h'.map Ob.ro)[l]? = some o:=λl o e=>by
   obtain⟨g,rfl⟩:=hx;have e2:=ZC ((QG (Qb e)).trans e:((F++B).map Ob.ro++g)[l]? = some o);rw[e2];rw[Ks]at e;obtain⟨o2,h2,rfl⟩:=VA.1 e;rw[ro_ro]
  exact Qxj (CB.more key) I id n (key _ _ (by rw[Ks,KV rfl,Zp];rfl)) (key _ _ (by rw[Ks,VD rfl,J5];rfl))
 subst hR;apply Qn hb;refine⟨B,rfl,?_⟩;rw[dh];rfl
def Qxm{h:List Ob}{t1 t2 b1 b2}{A B:List Qq}(RA:VN h t1 A)(RB:VN h t2 B)(id)(h1:(h.map Ob.ro)[b1]? = some ⟨.Vt,0,1,1,λ_=>[.ptr t1 0 0 0]⟩)(h2:(h.map Ob.ro)[b2]? = some ⟨.Vt,0,1,1,λ_=>[.ptr t2 0 0 0]⟩)(hA:A.length<100000)(hB:B.length<100000):
  Q6 prog 180 h [Qa id,.ptr b1 0 0 0,.ptr b2 0 0 0] (λd=>d=QT (GI A id || GI B id)):=by
 obtain⟨x,hx⟩:∃x,x=(Qx A id).getD default:=⟨_,rfl⟩;obtain⟨y,hy⟩:∃y,y=(Qx B id).getD default:=⟨_,rfl⟩;have e1:GI A id=decide (1<QR x.rt):=by rw[hx];rfl
 have e2:GI B id=decide (1<QR y.rt):=by rw[hy];rfl
 rw[e1,e2];refine xD func180 ntmps180 results180 λbase w pl F hF Q7 hb=>?_;rw[<- hF]at h1 h2;have Kx:=Qb h1;have wx:=Qb h2;simp only[go_sem,h1];have hgA:=Cw (RA.more (KC hF)) id;have hgB:=λG:List Ob=>Cw ((RB.more (KC hF)).more (zZ (g:=G))) id;rw[<- hx]at hgA;simp only[<- hy]at hgB;apply ZQ hb qf hgA;apply Qg hb;simp only[go_sem,Qe,h2,wx];apply ZQ hb qf (hgB _);apply JH hb;cases dr:decide (1<QR x.rt) with
 | true=>
  apply ZK hb yH (Ch x);apply Qg hb;simp only[go_sem,Qe,dr];exact⟨_,rfl⟩
 | false=>
  apply ZK hb yH (Ch x);apply Qg hb;simp only[go_sem,Qe,dr];apply ZK hb yH (Ch y);apply JH hb;exact⟨_,rfl⟩
def sO{h}{t1 t2}{A B:List Qq}(RA:VN h t1 A)(RB:VN h t2 B)(hA:A.length<100000)(hB:B.length<100000)(hT:(Kf A B).length<1000000):
  Q6 prog 143 h [.ptr t1 0 0 0,.ptr t2 0 0 0] (λd=>d=QT (rM A B)):=by
 refine xz Q4 200 func143 rfl ntmps143 results143 rfl λbase w pl F hF Q7 hb=>?_;simp only[go_sem,Qe];obtain⟨G,hG⟩:∃G:List Ob,G=[⟨.one,0,1,1,λ_=>[.ptr t1 0 0 0]⟩,⟨.one,0,1,1,λ_=>[.ptr t2 0 0 0]⟩]:=⟨_,rfl⟩;have Zp:G[0]? = some ⟨.one,0,1,1,λ_=>[.ptr t1 0 0 0]⟩:=by rw[hG];rfl
 have J5:G[1]? = some ⟨.one,0,1,1,λ_=>[.ptr t2 0 0 0]⟩:=by rw[hG];rfl
 rw[<- hG];have SR:VN (F++G) t1 A:=(RA.more (KC hF)).more zZ;have SS:VN (F++G) t2 B:=(RB.more (KC hF)).more zZ;apply ZQ hb Qdk (QgC SR SS hA hB);apply Qn hb;refine Kw hb RC rfl ?_ (sK (F++G) (Kf A B) hT (.clo 180 0 [.ptr F.length 0 0 0,.ptr (F.length+1) 0 0 0]) 180 0 [.ptr F.length 0 0 0,.ptr (F.length+1) 0 0 0] Qqk rfl (λid=>GI A id || GI B id) (λh' n hm hx=>?_)) rfl λd2 hR=>?_
 .simp only[go_sem]
 .have key:∀(l:Nat) (o:Ob),((F++G).map Ob.ro)[l]? = some o->(h'.map Ob.ro)[l]? = some o:=λl o e=>by
   obtain⟨g,rfl⟩:=hx;have e2:=ZC ((QG (Qb e)).trans e:((F++G).map Ob.ro++g)[l]? = some o);rw[e2];rw[Ks]at e;obtain⟨o2,h2,rfl⟩:=VA.1 e;rw[ro_ro]
  exact Qxm (SR.more key) (SS.more key) n (key _ _ (by rw[Ks,KV rfl,Zp];rfl)) (key _ _ (by rw[Ks,VD rfl,J5];rfl)) hA hB
 subst hR;apply Qn hb;refine⟨G,rfl,?_⟩;rw[dh];rfl
def Xs(c:Qq):Nd:=⟨c,0,default,default,default,⟨[],0,0,0,0,0,0⟩⟩
def Qhr(h:List Ob)(c:Qq)(d:D)(h':List Ob):Prop:=
 d=.ptr (h.length+1) 0 0 0/\∃g lq,h'=h++g/\2<=g.length/\h'[h.length+1]? = some (Yo (if c.leaf=true then .ptr lq 0 0 0 else .raw (.pointer none)) (Xs c)) /\
  (c.leaf=true->∃k:Nat,c.ZD=k/\vn (λl=>h.length+2<=l) h' lq k c.bytes ⟨[],0,0,0,0,0,0⟩)
@[go_sem] theorem QF2(d d2)(n):d2::List.drop 1 (KQ d n)=KQ d2 n:=rfl
def Qxn(h)(c:Qq)(hl:c.leaf=true->1<=c.ZD/\c.ZD<=64/\1<=c.bytes/\c.bytes<=1048576):
  QH prog 145 h [Xm c] (λd h'=>Qhr h c d h'):=by
 obtain⟨i0,p0,lf,r1,r2,r3,k0,b0⟩:=c;cases lf with
 | false=>
  refine QQ func145 ntmps145 results145 λbase w pl hb=>?_;simp only[go_sem,Qe,Qe];refine⟨rfl,_,0,rfl,σ,?_,λe=>by cases e⟩;rw[VD (k:=1) rfl];show some (_:Ob)=some (Yo (.raw (.pointer none)) _);refine congrArg some ?_;unfold Yo KQ Xs;refine congrArg (Ob.mk .one 0 60 1) ?_;funext _;dsimp only;simp only[Qq.cells,YT,zK];rfl
 | true=>
  obtain⟨l1,l2,l3,l4⟩:=hl rfl;dsimp only at l1 l2 l3 l4;obtain⟨k,rfl⟩:∃k:Nat,k0=k:=⟨k0.toNat,ω⟩;refine QQ func145 ntmps145 results145 λbase w pl hb=>?_;simp only[go_sem,Qe,Qe];generalize hE1:(⟨.one,0,14,1,_⟩:Ob)=E1;generalize hE2:(⟨.one,0,60,1,_⟩:Ob)=E2;have hE:E2=Yo (.raw (.pointer none)) (Xs ⟨i0,p0,true,r1,r2,r3,(k:Int),b0⟩):=by
   rw[<- hE2];unfold Yo KQ Xs;refine congrArg (Ob.mk .one 0 60 1) ?_;funext _;dsimp only;simp only[Qq.cells,YT,zK];rfl
  obtain⟨G,hG⟩:∃G:List Ob,G=[E1,E2]:=⟨_,rfl⟩;have N6:G.length=2:=by rw[hG];rfl
  have hq:=QtX (h++G) k b0 ω ω l3 l4;have g1:(h++G)[h.length+1]? = some (Yo (.raw (.pointer none)) (Xs ⟨i0,p0,true,r1,r2,r3,(k:Int),b0⟩)):=by rw[hG,<- hE];exact VD (k:=1) rfl
  have yW:=hq;rw[hG]at yW;refine Zw hb Qqm yW λd h2 hR=>?_;rw[<- hG]at hR;obtain⟨rfl,Q,g,rfl,hg⟩:=hR;have gg:(G++g)[1]? = some (Yo (.raw (.pointer none)) (Xs ⟨i0,p0,true,r1,r2,r3,(k:Int),b0⟩)):=by rw[hG,<- hE];rfl
  have Qxp:=Qb gg;apply Qg hb;simp only[go_sem,Qe,gg];have hgl:(h++G).length=h.length+2:=by rw[ZW,N6]
  refine⟨rfl,_,h.length+G.length+2,rfl,by simp[N6],?_,λ_=>⟨k,rfl,?_⟩⟩
  .rw[VD (k:=1) rfl];rw[QE Qxp];rfl
  .rw[hgl]at Q;rw[N6];refine(Q.step (S':=λl=>h.length+2<=l) λl Jj Jp=>⟨Jp,?_⟩);have Cz:h.length+2<=l:=Jp;have e:∀X:Ob,h++(G++g).set 1 X=(h++G++g).set (h.length+1) X:=λX=>by
    rw[V9,Hg (s:=h) (h.length+1) X ω,Pq]
   rw[e];exact Qr ω
def Lp{own:Nat->Tag}{h:List Ob}{l:Nat}{t0:Tag}(hl:own l=t0)(o:Ob):∀t,t≠t0->∀j,j<h.length->own j=t->own j=t/\(h.set l o)[j]? = h[j]? :=
 λt ht j _ h1=>⟨h1,Qr (λe=>ht (by rw[<- h1,<- e,hl]))⟩
def qX{own:Nat->Tag}{h:List Ob}{l:Nat}{t0:Tag}(hl:own l=t0)(o:Ob){j:Nat}{x:Ob}{t:Tag}(h1:own j=t)(ht:t≠t0)(h2:h[j]? = some x):(h.set l o)[j]? = some x:=
 ((Lp hl o t ht j (Qb h2) h1).2).trans h2
section
variable {own:Nat->Tag}{h:List Ob}{p:Nat}{L:Loc}{M:Qk}(C:Zr own h p L M)
include C
theorem Zr.congrN{N}(e:∀id,Qh N id=Qh M.N id):Zr own h p L { M with N:=N }:=
 ⟨C.ob,C.op,C.tr,C.Vv,C.qp.to λid=>by dsimp only;rw[e],C.ow,λid n hn=>C.Jm id n (by rw[<- e];exact hn),λid n hn=>C.WX id n (by rw[<- e];exact hn),C.YM,C.XH,C.VP,C.Xr,C.om,C.kids,λid n hn=>C.YN id n (by rw[<- e];exact hn)⟩
theorem Zr.Qxr{t2}{T2}(R:VM (λl=>own l=.tree) h t2 T2):Zr own (h.set p (je M.lk t2 L.b L.o L.v L.m M.Qf M.acc)) p { L with t:=t2 } { M with T:=T2 }:=by
 have r:=Lp (h:=h) C.op (je M.lk t2 L.b L.o L.v L.m M.Qf M.acc);exact⟨QE (Qb C.ob),C.op,R.step (r _ σ),qX C.op _ C.ow σ C.Vv,C.qp,C.ow,λj m hm=>⟨qX C.op _ (C.Jm j m hm).2 σ (C.Jm j m hm).1,(C.Jm j m hm).2⟩,λj m hm hl=>by
  obtain⟨k,h1,h2⟩:=C.WX j m hm hl;exact⟨k,h1,h2.step (r _ σ)⟩,C.YM.step (r _ σ),C.XH.step (r _ σ),qX C.op _ C.om σ C.VP,C.Xr,C.om,λj hj=>(C.kids j hj).step (r _ σ),C.YN⟩
theorem Zr.Qxs{o2}{T2}{A2}(R:zn (λl=>own l=.on) h o2 T2 A2):Zr own (h.set p (je M.lk L.t L.b o2 L.v L.m M.Qf M.acc)) p { L with o:=o2 } { M with To:=T2,A:=A2 }:=by
 have r:=Lp (h:=h) C.op (je M.lk L.t L.b o2 L.v L.m M.Qf M.acc);exact⟨QE (Qb C.ob),C.op,C.tr.step (r _ σ),qX C.op _ C.ow σ C.Vv,C.qp,C.ow,λj m hm=>⟨qX C.op _ (C.Jm j m hm).2 σ (C.Jm j m hm).1,(C.Jm j m hm).2⟩,λj m hm hl=>by
  obtain⟨k,h1,h2⟩:=C.WX j m hm hl;exact⟨k,h1,h2.step (r _ σ)⟩,R.step (r _ σ),C.XH.step (r _ σ),qX C.op _ C.om σ C.VP,C.Xr,C.om,λj hj=>(C.kids j hj).step (r _ σ),C.YN⟩
end
def zA(N:List Nd)(id:Int):List Nd:=N.filter λn=>n.c.iD != id
def BD(N)(id j):Qh (zA N id) j=if j=id then none else Qh N j:=by
 unfold Qh zA;rw[List.find?_filter];split
 .rename_i e;subst e;rw[jm];intro x _;simp
 .rename_i e;congr 1;funext x;cases h1:x.c.iD==j with
  | false=>simp
  | true=>
   have:x.c.iD=j:=by simpa using h1
   simp[this,e]
section
variable {own:Nat->Tag}{h:List Ob}{p:Nat}{L:Loc}{M:Qk}(C:Zr own h p L M)
include C
theorem Zr.Qxt(id):Zr own (h.set L.b (QK .i64 L.cb (JS L.eb id))) p { L with eb:=JS L.eb id } { M with N:=zA M.N id }:=by
 have r:=Lp (h:=h) C.ow (QK .i64 L.cb (JS L.eb id));have f:∀j m,Qh (zA M.N id) j=some m->Qh M.N j=some m:=λj m hm=>by
  rw[BD]at hm;split at hm
  .cases hm
  .exact hm
 refine⟨qX C.ow _ C.op σ C.ob,C.op,C.tr.step (r _ σ),QE (Qb C.Vv),(C.qp.del id).to λj=>?_,C.ow,λj m hm=>⟨qX C.ow _ (C.Jm j m (f j m hm)).2 σ (C.Jm j m (f j m hm)).1,(C.Jm j m (f j m hm)).2⟩,λj m hm hl=>?_,C.YM.step (r _ σ),C.XH.step (r _ σ),qX C.ow _ C.om σ C.VP,C.Xr,C.om,λj hj=>(C.kids j hj).step (r _ σ),λj m hm=>C.YN j m (f j m hm)⟩
 .dsimp only;rw[BD];split
  .rfl
  .rfl
 .obtain⟨k,h1,h2⟩:=C.WX j m (f j m hm) hl;exact⟨k,h1,h2.step (r _ σ)⟩
theorem Zr.Qxu(id):Zr own (h.set L.m (QK .i64 L.cm (JS L.em id))) p { L with em:=JS L.em id } { M with ks:=λj=>if j=id then false else M.ks j }:=by
 have r:=Lp (h:=h) C.om (QK .i64 L.cm (JS L.em id));refine⟨qX C.om _ C.op σ C.ob,C.op,C.tr.step (r _ σ),qX C.om _ C.ow σ C.Vv,C.qp,C.ow,λj m hm=>⟨qX C.om _ (C.Jm j m hm).2 σ (C.Jm j m hm).1,(C.Jm j m hm).2⟩,λj m hm hl=>?_,C.YM.step (r _ σ),C.XH.step (r _ σ),QE (Qb C.VP),(C.Xr.del id).to λj=>?_,C.om,λj hj=>?_,C.YN⟩
 .obtain⟨k,h1,h2⟩:=C.WX j m hm hl;exact⟨k,h1,h2.step (r _ σ)⟩
 .dsimp only;by_cases e:j=id<;>simp[e]
 .dsimp only at hj;by_cases e:j=id
  .rw[Qd e]at hj;cases hj
  .rw[Qc e]at hj;exact(C.kids j hj).step (r _ σ)
theorem Zr.Qxv(id){k}(T:WA (λl=>own l=.XG id) h k []):∃c es,JZ .i64 L.cm L.em id (.ptr k 0 0 0)=QK .i64 c es /\
  Zr own (h.set L.m (JZ .i64 L.cm L.em id (.ptr k 0 0 0))) p { L with cm:=c,em:=es,lk:=λj=>if j=id then k else L.lk j } { M with ks:=λj=>if j=id then true else M.ks j,KT:=λj=>if j=id then [] else M.KT j }:=by
 obtain⟨c,es,h1,h2⟩:=C.Xr.set .i64 L.cm id (.ptr k 0 0 0);refine⟨c,es,h1,?_⟩;rw[h1];have r:=Lp (h:=h) C.om (QK .i64 c es);refine⟨qX C.om _ C.op σ C.ob,C.op,C.tr.step (r _ σ),qX C.om _ C.ow σ C.Vv,C.qp,C.ow,λj m hm=>⟨qX C.om _ (C.Jm j m hm).2 σ (C.Jm j m hm).1,(C.Jm j m hm).2⟩,λj m hm hl=>?_,C.YM.step (r _ σ),C.XH.step (r _ σ),QE (Qb C.VP),h2.to λj=>?_,C.om,λj hj=>?_,C.YN⟩
 .obtain⟨k,h1,h2⟩:=C.WX j m hm hl;exact⟨k,h1,h2.step (r _ σ)⟩
 .dsimp only;by_cases e:j=id<;>simp[e]
 .dsimp only at hj ⊢;by_cases e:j=id
  .subst e;rw[Qd rfl,Qd rfl];exact T.step (r _ σ)
  .rw[Qc e]at hj;rw[Qc e,Qc e];exact(C.kids j hj).step (r _ σ)
theorem Zr.Qxw{n:Nd}{e q}(ME:Qh M.N n.c.iD=none)(he:h[e]? = some (Yo (if n.c.leaf=true then .ptr q 0 0 0 else .raw (.pointer none)) n))(ho:own e=.wj n.c.iD)
  (hq:n.c.leaf=true->∃k:Nat,n.c.ZD=k/\vn (λl=>own l=.x5 n.c.iD) h q k n.c.bytes n.q) (ZM:n.Ok):∃c es,JZ .i64 L.cb L.eb n.c.iD (.ptr e 0 0 0)=QK .i64 c es /\
  Zr own (h.set L.b (JZ .i64 L.cb L.eb n.c.iD (.ptr e 0 0 0))) p { L with cb:=c,eb:=es,le:=λj=>if j=n.c.iD then e else L.le j,lq:=λj=>if j=n.c.iD then q else L.lq j } { M with N:=n::M.N }:=by
 obtain⟨c,es,h1,h2⟩:=C.qp.set .i64 L.cb n.c.iD (.ptr e 0 0 0);refine⟨c,es,h1,?_⟩;rw[h1];have r:=Lp (h:=h) C.ow (QK .i64 c es);have hf:∀j,Qh (n::M.N) j=if j=n.c.iD then some n else Qh M.N j:=λj=>by
  unfold Qh;rw[jl];by_cases e:j=n.c.iD
  .subst e;rw[Qd rfl,Hj]
  .rw[Qc e,Xl (λx=>e x.symm)]
 have Q8:∀j m,Qh M.N j=some m->m.c.iD=j:=λj m hm=>Qy.id hm;have qe:∀j m,j≠n.c.iD->Qh M.N j=some m->qD (λj=>if j=n.c.iD then q else L.lq j) m=qD L.lq m:=λj m hj hm=>by
  unfold qD;simp only[Q8 j m hm,Qc hj]
 refine⟨qX C.ow _ C.op σ C.ob,C.op,C.tr.step (r _ σ),QE (Qb C.Vv),h2.to λj=>?_,C.ow,λj m hm=>?_,λj m hm hl=>?_,C.YM.step (r _ σ),C.XH.step (r _ σ),qX C.ow _ C.om σ C.VP,C.Xr,C.om,λj hj=>(C.kids j hj).step (r _ σ),λj m hm=>?_⟩
 .dsimp only;rw[hf];by_cases e:j=n.c.iD
  .rw[Qd e,Qd e,Qd e];rfl
  .rw[Qc e,Qc e,Qc e]
 .dsimp only at hm ⊢;rw[hf]at hm;by_cases e:j=n.c.iD
  .rw[Qd e]at hm;cases hm;rw[Qd e,e];refine⟨?_,ho⟩;rw[qX C.ow _ ho σ he];unfold qD;dsimp only;rw[Qd rfl]
  .rw[Qc e]at hm;rw[Qc e,qe j m e hm];exact⟨qX C.ow _ (C.Jm j m hm).2 σ (C.Jm j m hm).1,(C.Jm j m hm).2⟩
 .dsimp only at hm ⊢;rw[hf]at hm;by_cases e:j=n.c.iD
  .rw[Qd e]at hm;cases hm;rw[Qd e,e];obtain⟨k,g1,g2⟩:=hq hl;exact⟨k,g1,g2.step (r _ σ)⟩
  .rw[Qc e]at hm;rw[Qc e];obtain⟨k,g1,g2⟩:=C.WX j m hm hl;exact⟨k,g1,g2.step (r _ σ)⟩
 .dsimp only at hm;rw[hf]at hm;by_cases e:j=n.c.iD
  .rw[Qd e]at hm;cases hm;exact ZM
  .rw[Qc e]at hm;exact C.YN j m hm
end
def JP(T2:List Qq)(M:Qk)(id:Int):Qk:=
 match Qx T2 id with
 | none=>{ M with N:=zA M.N id,ks:=λj=>if j=id then false else M.ks j }
 | some c=>if c.leaf=true then { M with N:=Xs c::zA M.N id,ks:=λj=>if j=id then false else M.ks j }
  else { M with N:=Xs c::zA M.N id,ks:=λj=>if j=id then true else M.ks j,KT:=λj=>if j=id then [] else M.KT j }
def Vq(M:Qk)(T2:List Qq):Qk:=(Kf M.T T2).foldl (JP T2) { M with T:=T2 }
def kr(M:Qk)(T2:List Qq)(b:Bool):Bool:=(Kf M.T T2).any (wR M) || (rM M.T T2&&(!b || decide (0<(VF M).length)))
def Xc(M:Qk)(T2:List Qq):List Nd:=T2.map λc=>Qw (Vq M T2) c.iD
def wS(T2:List Qq)(A:List Int)(id:Int):List Int:=if 1<QR ((Qx T2 id).getD default).ls then id::A else A
def YO(M:Qk)(T2:List Qq):Qk:={ Vq M T2 with N:=Xc M T2,To:=T2,A:=[] }
def Ab(M:Qk)(T2:List Qq):Qk:={ YO M T2 with A:=(VF (YO M T2)).foldl (wS T2) [] }
def jh(M:Qk)(b:Bool)(l:List JN):Int:=
 if u6 M.T M.lk.t l≠0 then u6 M.T M.lk.t l else if kr M (JA M.T l) b=true then 24 else 0
def x6(M:Qk)(l:List JN):Nat:=if u6 M.T M.lk.t l≠0 then N7 M.T l else 0
def K0(M:Qk)(b:Bool)(l:List JN):Qk:=if jh M b l=0 then Ab M (JA M.T l) else M
def Qxx(h)(c:Qq)(hl:c.leaf=true->1<=c.ZD/\c.ZD<=64/\1<=c.bytes/\c.bytes<=1048576):
  Wy prog 145 h [Xm c] (λd g=>Qhr h c d (h++g)):=by
 refine QH.mono (Qxn (h.map Ob.ro) c hl) ?_;rintro d h' ⟨rfl,g,lq,rfl,h1,h2,h3⟩;refine⟨g,rfl,by rw[J1],g,lq,rfl,h1,?_,λzo=>?_⟩
 .rw[J1]at h2;rw[Kb (by rw[J1];omega),J1]at h2;rw[Kb ω];exact h2
 .obtain⟨k,hk,Q⟩:=h3 zo;refine⟨k,hk,Q.step λl _ Jp=>?_⟩;have Cz:h.length+2<=l:=by
   have:(h.map Ob.ro).length+2<=l:=Jp;rwa [J1]at this
  exact⟨Cz,by rw[Kb ω,Kb (by rw[J1];omega),J1]⟩
def Qhs{c:Qq}(h:Qq.Ok c):(Xs c).Ok:=
 have z:(0:Nat)<18446744073709551616:=π
 ⟨z,⟨⟨Ln.j6,Ln.j6⟩,⟨Ln.j6,Ln.j6⟩,z,Jh _,Jh _⟩,⟨⟨Ln.j6,Ln.j6⟩,z⟩,⟨⟨Ln.j6,Ln.j6⟩,Jh _⟩,h⟩
def Qxy(A B:List Qq):(Kf A B).length<=A.length+B.length:=by
 have h1:=N4 (λi=>(sorted (y0 A B)).getD i 0) (sorted (y0 A B)).length;have h2:(sorted (y0 A B)).length=(y0 A B).length:=Ge _;have h3:(y0 A B).length<=(A.map (·.iD)++B.map (·.iD)).length:=Xx _ _;have h4:(Kf A B).length<=(sorted (y0 A B)).length:=by simpa[Kf,zx] using h1
 simp at h3;omega
section
variable {T2:List Qq}(hr:WU T2)
include hr
theorem Qxz(M:Qk)(j id:Int):Qh (JP T2 M j).N id=if id=j then (Qx T2 id).map Xs else Qh M.N id:=by
 unfold JP;cases hf:Qx T2 j with
 | none=>
  dsimp only;rw[BD];by_cases e:id=j
  .subst e;rw[Qd rfl,Qd rfl,hf];rfl
  .rw[Qc e,Qc e]
 | some c=>
  have fH:=((J6 hr).1 hf).2;have key:Qh (Xs c::zA M.N j) id=if id=j then (Qx T2 id).map Xs else Qh M.N id:=by
   by_cases e:id=j
   .subst e;rw[Qd rfl,hf];unfold Qh;rw[jl,show ((Xs c).c.iD==id)=true by rw[show (Xs c).c.iD=c.iD from rfl,fH];exact Hj _];rfl
   .rw[Qc e];have:Qh (Xs c::zA M.N j) id=Qh (zA M.N j) id:=by
     unfold Qh;rw[jl,show ((Xs c).c.iD==id)=false by rw[show (Xs c).c.iD=c.iD from rfl,fH];exact Xl (λx=>e x.symm)]
    rw[this,BD,Qc e]
  dsimp only;split
  .exact key
  .exact key
theorem EP(id:Int):∀(l:List Int) (M:Qk),Qh (l.foldl (JP T2) M).N id=if id∈l then (Qx T2 id).map Xs else Qh M.N id
 | [],M=>σ
 | j::l,M=>by
  rw[kD,EP id l,Qxz hr];by_cases h1:id∈l
  .rw[Qd h1,Qd (JR _ h1)]
  .rw[Qc h1];by_cases h2:id=j
   .rw[Qd h2,Qd (by rw[h2];exact J2)]
   .rw[Qc h2,Qc (by simp[h1,h2])]
omit hr in
theorem QxA(M:Qk)(j id:Int):(JP T2 M j).ks id=if id=j then (match Qx T2 id with|none=>false|some c=>!c.leaf) else M.ks id:=by
 unfold JP;by_cases e:id=j
 .subst e;rw[Qd rfl];cases hf:Qx T2 id with
  | none=>simp
  | some c=>cases hl:c.leaf<;>simp[hl]
 .rw[Qc e];cases hf:Qx T2 j with
  | none=>simp[e]
  | some c=>cases hl:c.leaf<;>simp[e,hl]
omit hr in
theorem Qht(id):∀(l:List Int) (M:Qk),(l.foldl (JP T2) M).ks id=if id∈l then (match Qx T2 id with|none=>false|some c=>!c.leaf) else M.ks id
 | [],M=>σ
 | j::l,M=>by
  rw[kD,Qht id l,QxA];by_cases h1:id∈l
  .rw[Qd h1,Qd (JR _ h1)]
  .rw[Qc h1];by_cases h2:id=j
   .rw[Qd h2,Qd (by rw[h2];exact J2)]
   .rw[Qc h2,Qc (by simp[h1,h2])]
omit hr in
theorem QxB(M:Qk)(j id:Int){x}(h:x∈(JP T2 M j).KT id):x∈M.KT id:=by
 unfold JP at h;split at h
 .exact h
 .split at h
  .exact h
  .dsimp only at h;split at h
   .cases h
   .exact h
omit hr in
theorem fI(id){x}:∀(l:List Int) (M:Qk),x∈(l.foldl (JP T2) M).KT id->x∈M.KT id
 | [],M,h=>h
 | j::l,M,h=>QxB M j id (fI id l (JP T2 M j) h)
omit hr in
theorem Qhu(M:Qk)(j:Int):(JP T2 M j).T=M.T/\(JP T2 M j).Lv=M.Lv/\(JP T2 M j).lk=M.lk/\(JP T2 M j).Qf=M.Qf/\(JP T2 M j).acc=M.acc:=by
 unfold JP;split
 .exact⟨rfl,rfl,rfl,rfl,rfl⟩
 .split<;>exact⟨rfl,rfl,rfl,rfl,rfl⟩
omit hr in
theorem Lq:∀(l:List Int) (M:Qk),(l.foldl (JP T2) M).T=M.T/\(l.foldl (JP T2) M).Lv=M.Lv/\(l.foldl (JP T2) M).lk=M.lk/\(l.foldl (JP T2) M).Qf=M.Qf/\(l.foldl (JP T2) M).acc=M.acc
 | [],M=>⟨rfl,rfl,rfl,rfl,rfl⟩
 | j::l,M=>by
  obtain⟨a1,a2,a3,a4,a5⟩:=Lq l (JP T2 M j);obtain⟨b1,b2,b3,b4,b5⟩:=Qhu (T2:=T2) M j;rw[kD];exact⟨a1.trans b1,a2.trans b2,a3.trans b3,a4.trans b4,a5.trans b5⟩
end
section
variable {M:Qk}{T2:List Qq}(I:Qy M)(I2:JG T2)
include I I2
theorem Qhv(id:Int):(Qh (Vq M T2).N id).map (·.c)=Qx T2 id:=by
 unfold Vq;rw[EP I2.rising];by_cases h:id∈Kf M.T T2
 .rw[Qd h];cases Qx T2 id<;>rfl
 .rw[Qc h];have:=λe=>h (La.2 e);have e:Qx M.T id=Qx T2 id:=kC this;rw[<- e,I.find]
theorem Qhw{c:Qq}(hc:c∈T2):Qh (Vq M T2).N c.iD=some (Qw (Vq M T2) c.iD)/\(Qw (Vq M T2) c.iD).c=c:=by
 have h1:=Qhv I I2 c.iD;rw[(J6 I2.rising).2 ⟨hc,rfl⟩]at h1;unfold Qw;cases hn:Qh (Vq M T2).N c.iD with
 | none=>rw[hn]at h1;cases h1
 | some n=>
  rw[hn,KK,QY]at h1;exact⟨rfl,h1⟩
theorem Qhx:(Xc M T2).map (·.c)=T2:=by
 unfold Xc;rw[Fl]
 conv=>rhs;rw[<- List.map_id T2]
 exact Pg λc hc=>(Qhw I I2 hc).2
theorem GR:∀id,Qh (Xc M T2) id=Qh (Vq M T2).N id:=λid=>by
 have h1:=rO (Xc M T2) id;rw[Qhx I I2]at h1;have h2:=Qhv I I2 id;cases hn:Qh (Xc M T2) id with
 | none=>
  rw[hn]at h1;rw[h1]at h2;cases hm:Qh (Vq M T2).N id with
  | none=>rfl
  | some m=>rw[hm]at h2;cases h2
 | some n=>
  have WH:n∈Xc M T2:=kF hn;have Q8:=Qy.id (M:=YO M T2) hn;obtain⟨c,hc,rfl⟩:=Z2.1 WH;obtain⟨h3,h4⟩:=Qhw I I2 hc;rw[h4]at Q8;rw[<- Q8,h3]
theorem Tm(K2:kb T2){b}(hb:kr M T2 b=false)(Ac:∀x∈M.Lv,x.ki∈VF M)(Oq:∀id,∀x∈M.KT id,∃n∈VF M,x.ki∈up M.T n):Qy (YO M T2):=by
 obtain⟨s1,s2,s3,s4,s5⟩:=Lq (T2:=T2) (Kf M.T T2) { M with T:=T2 };have hT:(YO M T2).T=T2:=s1;have MU:∀id,wR M id=true->Qx T2 id=Qx M.T id:=λid Tn=>by
  refine kC λe=>?_;have hm:=La.2 (λx=>e x.symm:Qx M.T id≠Qx T2 id);unfold kr at hb;rw[show (Kf M.T T2).any (wR M)=true from BN.2 ⟨id,hm,Tn⟩]at hb;cases hb
 have Cq:∀x n,n∈VF M->x∈up M.T n->wR M x=true:=λx n h1 h2=>BN.2 ⟨n,h1,by simpa using h2⟩;have h0:(0:Int) ∉ Kf M.T T2:=λh=>by
  have f0:∀T:List Qq,JG T->Qx T 0=none:=λT I=>by
   rw[yL];intro c hc e;have:=I.ids c hc;omega
  exact La.1 h (by rw[f0 _ I.tree,f0 _ I2])
 refine⟨by rw[hT];exact I2,by rw[hT];exact K2,hT.symm,hT.trans (Qhx I I2).symm,λa ha=>(Pm ha).elim,λid=>?_,λx hx=>?_,λid x hx=>?_,λid x hx=>?_,?_,?_⟩
 .show (Vq M T2).ks id=true↔id=0\/∃n,Qh (Xc M T2) id=some n/\n.c.leaf=false;rw[GR I I2];unfold Vq;rw[Qht,EP I2.rising];by_cases h:id∈Kf M.T T2
  .rw[Qd h,Qd h];have QA:id≠0:=λe=>h0 (e▸h);cases Qx T2 id with
   | none=>simp[QA]
   | some c=>simp[QA,Xs]
  .rw[Qc h,Qc h];exact I.ks id
 .have Wf:x∈M.Lv:=by rw[<- s2];exact hx
  have hl:=Ac x Wf;obtain⟨n,hn,_,_⟩:=fF I (Jt.1 (show x.ki∈(ko M.T).filter _ from hl)).1;have hs:x.ki∈up M.T x.ki:=by
   rw[dw I.tree,I.some hn];exact J2
  rw[hT,MU _ (Cq _ _ hl hs)];exact I.u7 x Wf
 .have Wf:x∈M.KT id:=fI id (Kf M.T T2) { M with T:=T2 } hx;obtain⟨c,h1,h2⟩:=I.kg id x Wf;obtain⟨n,h3,h4⟩:=Oq id x Wf;exact⟨c,by rw[hT,MU _ (Cq _ _ h3 h4)];exact h1,h2⟩
 .exact I.kh id x (fI id (Kf M.T T2) { M with T:=T2 } hx)
 .show (Vq M T2).Qf<=_;exact s4▸I.Qf
 .show (Vq M T2).acc<=_;exact s5▸I.acc
end
def QxC{c:Qq}(h:KN c=0):c.leaf=true->1<=c.ZD/\c.ZD<=64/\1<=c.bytes/\c.bytes<=1048576:=by
 intro hl;have h2:jR c=true:=by
  cases e:jR c with
  | true=>rfl
  | false=>
   exfalso;unfold KN at h;rw[hl,e]at h;simp only[Fh,Bool.and_true,Bool.true_or,Vs]at h;split at h
   .omega
   .split at h<;>omega
 unfold jR yK at h2;simp only[Zy,XL]at h2;omega
def QxD(T2)(M:Qk)(id:Int):(JP T2 M id).T=M.T:=by
 unfold JP;split
 .rfl
 .split<;>rfl
def sP(T2):∀(l:List Int) (M:Qk),(l.foldl (JP T2) M).T=M.T
 | [],_=>rfl
 | id::l,M=>by rw[kD,sP T2 l,QxD]
def QxE{S}{h}{p}{T}{A}(O:zn S h p T A)(leaf)(c:Qq)(hc:Qx T leaf=some c)(qR:¬ 1<QR c.ls):
  QH prog 146 h [.ptr p 0 0 0,Qa leaf] (λd h'=>d=.tup [.nil,Qa 6]/\h'=h):=by
 obtain⟨b1,b2,b3,c1,c2,c3,Zx,Z1,KP,kl,O⟩:=O;have ho:=O.o;have m1:=O.m1;have k1:=O.f1.at_ leaf;rw[vj,hc]at k1;simp only[Qc qR]at k1;refine QQ func146 ntmps146 results146 λbase w pl hb=>?_;have Ql:=Qb ho;have Sb:=Qb m1;simp only[go_sem,ho,m1,k1]
def Qhy{T2}{a}:∀(l A:List Int),a∈l.foldl (wS T2) A->a∈l\/a∈A
 | [],A,h=>.inr h
 | id::l,A,h=>by
  rw[kD]at h;rcases Qhy l _ h with h|h
  .exact .inl (JR _ h)
  .unfold wS at h;split at h
   .rcases QD.1 h with h|h
    .exact .inl (h▸J2)
    .exact .inr h
   .exact .inr h
def QxF{l:List Int}(h:l.Nodup){k}(hk:k<l.length):l.getD k 0 ∉ l.take k:=λh2=>by
 rw[<- BO k l,JJ]at h;refine h.2.2 _ h2 (l.getD k 0) ?_ rfl;rw[Q5,QP hk,Pa hk];exact J2
def QxG{M:Qk}{id}(h:id∈VF M):id∈ko M.T:=by unfold VF Wl at h;exact(Jt.1 h).1
def QxH{T:List Qq}(h:WU T):(ko T).Nodup:=by
 unfold ko;have h2:(T.filter (·.leaf)).Pairwise (λa b=>a.iD<b.iD):=LY _ h;rw[ik,L6];exact h2.imp λVu=>ω
def QxI{M:Qk}(I:Qy M):(VF M).Nodup:=LY _ (QxH I.tree.rising)
def QxJ{own}{h}{p}{L}{M:Qk}(C:Zr own h p L M)(I:Qy M)(K:WM M.lk)(b)(l:List JN)(hc:∀c∈l,JN.Ok c)(hl:l.length<1000000)
  (Ac:∀x∈M.Lv,x.ki∈VF M) (Oq:∀id,∀x∈M.KT id,∃n∈VF M,x.ki∈up M.T n) :
  QH prog 84 h [.ptr p 0 0 0,QT b,SU l] (λd h'=>∃own' L' M',Zr own' h' p L' M'/\Qy M'/\Zo own h own' h' /\
   d=.tup [Qa (x6 M l),Qa (jh M b l)]/\M'=K0 M b l):=by
 have ho:=C.ob;refine QQ func84 ntmps84 results84 λbase w pl hb=>?_;have Ql:=Qb ho;simp only[go_sem];apply Vk [10] hb [0,1,2,3,4,5,6,7,8,9,1010,11,12,13,14,15,16,17] [];simp only[go_sem,ho];have hT:=Qb C.ob;refine jZ hb Qp7 (Qwi C.tr I.tree I.wK M.lk.t K.t1 K.t2 l hc hl) λd h1 hR=>?_;obtain⟨t2,rfl,sQ,g,rfl⟩:=hR;obtain⟨Jl,Lm⟩:∃o,o=QV own h .tree:=⟨_,rfl⟩;have C1:Zr Jl (h++g) p L M:=by rw[Lm];exact C.step λl hl _=>⟨Kg hl,QG hl⟩
 have D1:Zo own h Jl (h++g):=by rw[Lm];exact Zo.app own h g .tree
 apply ZA hb;by_cases hE:u6 M.T M.lk.t l=0;case neg=>
  have dE:(u6 M.T M.lk.t l != 0)=true:=by simpa using hE
  have e1:jh M b l=u6 M.T M.lk.t l:=by unfold jh;rw[Qd hE]
  have e2:x6 M l=N7 M.T l:=by unfold x6;rw[Qd hE]
  have e3:K0 M b l=M:=by unfold K0;rw[e1,Qc hE]
  simp only[go_sem,dE];exact⟨Jl,L,M,C1,I,D1,by rw[e1,e2],e3.symm⟩
 have dE:(u6 M.T M.lk.t l != 0)=false:=by simpa using hE
 have Kz:N7 M.T l=0\/True:=.inr trivial;have R2:VM (λl=>Jl l=.tree) (h++g) t2 (JA M.T l):=(sQ hE).step λl _ h1=>⟨by rw[Lm];unfold QV;rw[Qd h1],rfl⟩;obtain⟨T2,CP⟩:∃T2,T2=JA M.T l:=⟨_,rfl⟩;rw[<- CP]at R2;obtain⟨I2,K2⟩:=fc I.tree I.wK hc;rw[<- CP]at I2 K2;have ZN:=C1.ob;have Lf:=Qb ZN;have hlen:=I.tree.len;have IX:=I2.len;simp only[go_sem,dE,ZN,Qd hE];have R1:=C1.tr.toR;have Tp:(Kf M.T T2).length<1000000:=by have:=Qxy M.T T2;omega
 apply ZQ hb Qdk (QgC R1 R2.toR ω ω);refine HU Q4 hb 2 ?_;simp only[go_sem];first|refine qa ?_|skip
 refine eN (λst=>kr M T2 b=false/\st=⟨[(0,.ptr p 0 0 0),(1,QT b),(6,Qa 0),(7,Qa 0),(8,.ptr t2 0 0 0),(11,ints (Kf M.T T2))],h++g⟩) ?_ ?_
 .apply Qn hb;refine oz hb RC (sK (h++g) (Kf M.T T2) Tp (.clo 142 1 [.ptr p 0 0 0]) 142 1 [.ptr p 0 0 0] Qp8 rfl (wR M) (λh' n hm hx=>?_)) λd hR=>?_
  .have key:∀(l:Nat) (o:Ob),((h++g).map Ob.ro)[l]? = some o->(h'.map Ob.ro)[l]? = some o:=λl o e=>by
    obtain⟨g2,rfl⟩:=hx;have e2:=ZC ((QG (Qb e)).trans e:((h++g).map Ob.ro++g2)[l]? = some o);rw[e2];rw[Ks]at e;obtain⟨o2,h2,rfl⟩:=VA.1 e;rw[ro_ro]
   exact Qxl (C1.ro.more key) I n
  subst hR;rw[dh];apply Qg hb;obtain⟨own',QF4⟩:∃o,o=Jl:=⟨_,rfl⟩;have sS:kr M T2 b=true->∃own' L' M',Zr own' (h++g) p L' M'/\Qy M'/\Zo own h own' (h++g)/\D.tup [Qa 0,Qa 24]=.tup [Qa (x6 M l),Qa (jh M b l)]/\M'=K0 M b l:=λhB=>by
   have e1:jh M b l=24:=by unfold jh;rw[Qc (by rw[hE];simp),<- CP,Qd hB]
   have e2:x6 M l=0:=by unfold x6;rw[Qc (by rw[hE];simp)]
   have e3:K0 M b l=M:=by unfold K0;rw[e1];rfl
   exact⟨Jl,L,M,C1,I,D1,by rw[e1,e2];rfl,e3.symm⟩
  cases J5:(Kf M.T T2).any (wR M) with
  | true=>
   simp only[go_sem];exact sS (by unfold kr;rw[J5];rfl)
  | false=>
   simp only[go_sem,ZN];cases AW:rM M.T T2 with
   | false=>
    apply ZQ hb mP (sO R1 R2.toR ω ω Tp);apply Qg hb;simp only[go_sem,AW];refine⟨_,⟨by unfold kr;rw[J5,AW];rfl,rfl⟩,?_⟩;exact QM
   | true=>
    cases b with
    | false=>
     apply ZQ hb mP (sO R1 R2.toR ω ω Tp);apply Qg hb;simp only[go_sem,AW];exact sS (by unfold kr;rw[AW];simp)
    | true=>
     apply ZQ hb mP (sO R1 R2.toR ω ω Tp);apply Qg hb;simp only[go_sem,AW];apply ZQ hb mQ (sN C1.ro I);apply Qn hb;cases hd:decide ((0:Int)<((VF M).length:Int)) with
     | true=>
      simp only[go_sem];exact sS (by unfold kr;rw[AW];simp;right;simpa using hd)
     | false=>
      simp only[go_sem];refine⟨_,⟨by unfold kr;rw[J5,AW];simp;simpa using hd,rfl⟩,?_⟩;exact QM
 rintro st ⟨AV,rfl⟩;have C2:=C1.Qxr R2;have D2:=D1.trans (Zo.set (own:=Jl) (h:=h++g) (l:=p) (je M.lk t2 L.b L.o L.v L.m M.Qf M.acc) (by rw[C1.op];decide));generalize hH2:(h++g).set p (je M.lk t2 L.b L.o L.v L.m M.Qf M.acc)=H2 at C2 D2;have QxL:(h++g).set p ⟨.one,0,9,1,λ_=>[.raw (.int .i64 M.lk.t),.raw (.int .i64 M.lk.ZX),.ptr t2 0 0 0,.mref L.b 0,.ptr L.o 0 0 0,.ptr L.v 0 0 0,.mref L.m 0,.raw (.int .u64 (M.Qf:Nat)),.raw (.int .u64 (M.acc:Nat))]⟩=H2:=hH2;apply Qg hb;simp only[go_sem,ZN,QxL];obtain⟨tl,sT⟩:∃tl,tl=Kf M.T T2:=⟨_,rfl⟩;rw[<- sT]at Tp;rw[<- sT];refine Z3 (λk st=>∃JW H L2,Zr JW H p L2 ((tl.take k).foldl (JP T2) { M with T:=T2 })/\L2.t=t2/\Zo own h JW H/\st=⟨[(0,.ptr p 0 0 0),(6,Qa 0),(7,Qa 0),(8,.ptr t2 0 0 0),(71,ints tl),(72,Qa tl.length),(73,Qa k)],H⟩) tl.length (s0:=⟨[(0,.ptr p 0 0 0),(6,Qa 0),(7,Qa 0),(8,.ptr t2 0 0 0),(71,ints tl),(72,Qa tl.length),(73,Qa 0)],H2⟩) QM ⟨Jl,H2,_,C2,rfl,D2,rfl⟩ ?_;rintro k st hk ⟨JW,H,L2,Ck,Cj,Dk,rfl⟩;by_cases Qj:k<tl.length
 .have dk:=QU Qj;obtain⟨id,Q8⟩:∃id,id=tl.getD k 0:=⟨_,rfl⟩;obtain⟨Mk,EJ⟩:∃Mk,Mk=(tl.take k).foldl (JP T2) { M with T:=T2 }:=⟨_,rfl⟩;have Jk:(tl.take (k+1)).foldl (JP T2) { M with T:=T2 }=JP T2 Mk id:=by
   rw[Fo,QP Qj,jo,<- EJ,Q8,Q5,QP Qj];rfl
  have Ot:Mk.T=T2:=by rw[EJ];exact sP _ _ _
  rw[<- EJ]at Ck;have Zb:=J9 (show k<4611686018427387904 from ω);have RT:VN H t2 T2:=by have:=Ck.tr.toR;rwa [Cj,Ot]at this
  obtain⟨x,hx⟩:∃x,x=(Qx T2 id).getD default:=⟨_,rfl⟩;have XB:=Cw RT id;rw[<- hx]at XB;have K6:=Ck.ob;have EL:=Qb K6;have jA:=Ck.Vv;have QxM:=Qb jA;have YE:=Ck.VP;have nN:=Qb YE;have Mv:L2.b≠L2.m:=λe=>by have:=Ck.ow;rw[e,Ck.om]at this;cases this
  have qc:L2.b≠p:=λe=>by have:=Ck.ow;rw[e,Ck.op]at this;cases this
  have hmp:L2.m≠p:=λe=>by have:=Ck.om;rw[e,Ck.op]at this;cases this
  apply Qg hb;simp only[go_sem,Qj,<- Q8];apply ZQ hb qf XB;apply Qg hb;simp only[go_sem,Qe,K6,EL,jA,QxM,YE,nN,Qr Mv,Qr qc];have C3:=Ck.Qxt id;have D3:=Dk.trans (Zo.set (own:=JW) (h:=H) (l:=L2.b) (QK .i64 L2.cb (JS L2.eb id)) (by rw[Ck.ow];decide));have C4:=C3.Qxu id;have D4:=D3.trans (Zo.set (own:=JW) (h:=H.set L2.b (QK .i64 L2.cb (JS L2.eb id))) (l:=L2.m) (QK .i64 L2.cm (JS L2.em id)) (by rw[Ck.om];decide));have C5:=C4.N8 [⟨.one,0,14,1,λ_=>x.cells⟩];have D5:=D4.trans (Zo.app JW _ [⟨.one,0,14,1,λ_=>x.cells⟩] .no);have j4:((H.set L2.b (QK .i64 L2.cb (JS L2.eb id))).set L2.m (QK .i64 L2.cm (JS L2.em id))).length=H.length:=σ;generalize hH5:(H.set L2.b (QK .i64 L2.cb (JS L2.eb id))).set L2.m (QK .i64 L2.cm (JS L2.em id))++[⟨.one,0,14,1,λ_=>x.cells⟩]=H5 at C5 D5;have sU:=hH5;simp only[go_sem]at sU;have Tq:H5[H.length]? = some ⟨.one,0,14,1,λ_=>x.cells⟩:=by rw[<- hH5,<- j4,KV rfl];rfl
  have QxN:=Qb Tq;generalize QV JW ((H.set L2.b (QK .i64 L2.cb (JS L2.eb id))).set L2.m (QK .i64 L2.cm (JS L2.em id))) .no=wN at C5 D5;have CO:=C5.ob;have sb:=Qb CO;have Te:=C5.Vv;have sA:=Qb Te;have hm5:=C5.VP;have QF5:=Qb hm5;cases hf:Qx T2 id with
  | none=>
   have e1:JP T2 Mk id={ Mk with N:=zA Mk.N id,ks:=λj=>if j=id then false else Mk.ks j }:=by unfold JP;rw[hf]
   have C5s:Zr wN H5 p { L2 with eb:=JS L2.eb id,em:=JS L2.em id } (JP T2 Mk id):=by rw[e1];exact C5
   rw[hf]at XB;simp only[go_sem,xh,sU];exact⟨Qj,_,Qz.frame (by simp only[go_sem,Zb]),wN,H5,{ L2 with eb:=JS L2.eb id,em:=JS L2.em id },(by rw[Jk];exact C5s),Cj,D5,rfl⟩
  | some c=>
   have cO:x=c:=by rw[hx,hf];rfl
   obtain⟨WH,fH⟩:=(J6 I2.rising).1 hf;subst cO;have Sy:=QxC (I2.right x WH);have Yy:=Qxx H5 x Sy;simp only[go_sem,za,sU];apply QF hb [0,1,2,3,4,5,1006,1007];simp only[go_sem,CO,Tq];refine Nf hb Qp9 rfl ?_ Yy rfl λd g7 hR=>?_
   .simp only[go_sem]
   obtain⟨rfl,g8,lq,hg8,QF6,NT,QxQ⟩:=hR;obtain rfl:g7=g8:=List.append_cancel_left hg8;subst fH;obtain⟨zz,sV⟩:∃o:Nat->Tag,o=λl=>if l<H5.length then wN l else if l=H5.length then .no else if l=H5.length+1 then .wj x.iD else .x5 x.iD:=⟨_,rfl⟩;have w7:∀l,l<H5.length->zz l=wN l:=λl hl=>by rw[sV];exact Qd hl
   have we:zz (H5.length+1)=.wj x.iD:=by rw[sV];dsimp only;rw[Qc ω,Qc ω,Qd rfl]
   have wq:∀l,H5.length+2<=l->zz l=.x5 x.iD:=λl hl=>by rw[sV];dsimp only;rw[Qc ω,Qc ω,Qc ω]
   have C7:=C5.step (own':=zz) (h':=H5++g7) λl hl _=>⟨w7 l hl,QG hl⟩;have D7:Zo own h zz (H5++g7):=D5.trans ⟨w7,λl hl _=>QG hl,σ⟩;obtain⟨c8,es8,hm8,C8⟩:=C7.Qxw (n:=Xs x) (e:=H5.length+1) (q:=lq) (by dsimp only;rw[BD];exact Qd rfl) NT we (λzo=>by
    obtain⟨k8,Ts,rV⟩:=QxQ zo;exact⟨k8,Ts,rV.step λl _ hl=>⟨wq l hl,rfl⟩⟩) (Qhs (K2 x WH))
   obtain⟨M8,sW⟩:∃M8,M8={ Mk with N:=Xs x::zA Mk.N x.iD,ks:=λj=>if j=x.iD then false else Mk.ks j }:=⟨_,rfl⟩;obtain⟨L8,sX⟩:∃L8:Loc,L8={ L2 with em:=JS L2.em x.iD,cb:=c8,eb:=es8,le:=λj=>if j=x.iD then H5.length+1 else L2.le j,lq:=λj=>if j=x.iD then lq else L2.lq j }:=⟨_,rfl⟩;have C8:Zr zz ((H5++g7).set L2.b (JZ .i64 L2.cb (JS L2.eb x.iD) x.iD (.ptr (H5.length+1) 0 0 0))) p L8 M8:=by rw[sX,sW];exact C8
   have l8t:L8.t=t2:=by rw[sX];exact Cj
   have l8m:L8.m=L2.m:=by rw[sX]
   have D8:=D7.trans (Zo.set (own:=zz) (h:=H5++g7) (l:=L2.b) (JZ .i64 L2.cb (JS L2.eb x.iD) x.iD (.ptr (H5.length+1) 0 0 0)) (by rw[C7.ow];decide));have eH:(H5++g7).set L2.b (JZ .i64 L2.cb (JS L2.eb x.iD) x.iD (.ptr (H5.length+1) 0 0 0))=H5.set L2.b (JZ .i64 L2.cb (JS L2.eb x.iD) x.iD (.ptr (H5.length+1) 0 0 0))++g7:=Us _ _ sA;have QxS:L2.b≠H.length:=λe=>by
    have h1:=Qb Ck.Vv;omega
   have Tt:((H5++g7).set L2.b (JZ .i64 L2.cb (JS L2.eb x.iD) x.iD (.ptr (H5.length+1) 0 0 0)))[H.length]? = some ⟨.one,0,14,1,λ_=>x.cells⟩:=(Qr QxS).trans ((QG QxN).trans Tq);rw[eH]at Tt C8 D8;generalize hH8:H5.set L2.b (JZ .i64 L2.cb (JS L2.eb x.iD) x.iD (.ptr (H5.length+1) 0 0 0))++g7=H8 at Tt C8 D8;have QF9:=Qb Tt;have ho8:=C8.ob;have QGa:=Qb ho8;have QhD:=C8.VP;have QhE:=Qb QhD;apply ZH hb;simp only[go_sem,Qe,Te,sA,hH8];cases zo:x.leaf with
   | true=>
    simp only[go_sem,Tt,zo];have e1:JP T2 Mk x.iD=M8:=by unfold JP;rw[hf,sW];dsimp only;rw[Qd zo]
    exact⟨Qj,_,Qz.frame (by simp only[go_sem,Zb]),zz,H8,L8,(by rw[Jk,e1];exact C8),l8t,D8,rfl⟩
   | false=>
    simp only[go_sem,Tt,zo];have C9:=C8.step (own':=QV zz H8 (.XG x.iD)) (h':=H8++P2 H8.length) λl hl _=>⟨Kg hl,QG hl⟩;have D9:Zo own h (QV zz H8 (.XG x.iD)) (H8++P2 H8.length):=D8.trans (Zo.app zz H8 (P2 H8.length) (.XG x.iD));have un:∀l,H8.length<=l->QV zz H8 (.XG x.iD) l=.XG x.iD:=λl hl=>by unfold QV;rw[Qd hl]
    obtain⟨c10,QxV,QGb,xV⟩:=C9.Qxv x.iD (k:=H8.length+2) (sH (S:=λl=>QV zz H8 (.XG x.iD) l=.XG x.iD) (by rw[KV rfl];rfl) (by rw[VD (k:=1) rfl];rfl) (by rw[VD (k:=2) rfl];rfl) (un _ ω) (un _ ω) (un _ ω));have GL:=D9.trans (Zo.set (own:=QV zz H8 (.XG x.iD)) (h:=H8++P2 H8.length) (l:=L8.m) (JZ .i64 L8.cm L8.em x.iD (.ptr (H8.length+2) 0 0 0)) (by rw[C9.om];decide));have eH2:(H8++P2 H8.length).set L8.m (JZ .i64 L8.cm L8.em x.iD (.ptr (H8.length+2) 0 0 0))=H8.set L8.m (JZ .i64 L8.cm L8.em x.iD (.ptr (H8.length+2) 0 0 0))++P2 H8.length:=Us _ _ QhE;rw[eH2]at xV GL;generalize QxX:H8.set L8.m (JZ .i64 L8.cm L8.em x.iD (.ptr (H8.length+2) 0 0 0))++P2 H8.length=H10 at xV GL;apply QF hb [0,1,2,3,4,1005,1006];simp only[go_sem,ho8];refine Nf hb Qdh rfl ?_ (Qhl H8) rfl λd g9 hR=>?_
    .simp only[go_sem]
    obtain⟨rfl,rfl⟩:=hR;apply ZH hb;simp only[go_sem,Qe,QhD,QhE,QxX];have e1:JP T2 Mk x.iD={ M8 with ks:=λj=>if j=x.iD then true else M8.ks j,KT:=λj=>if j=x.iD then [] else M8.KT j }:=by
     unfold JP;rw[hf,sW];dsimp only;rw[Qc (by rw[zo];exact Ao)];congr 1;funext j;by_cases e:j=x.iD
     .rw[Qd e,Qd e]
     .rw[Qc e,Qc e,Qc e]
    exact⟨Qj,_,Qz.frame (by simp only[go_sem,Zb]),QV zz H8 (.XG x.iD),H10,{ L8 with cm:=c10,em:=QxV,lk:=λj=>if j=x.iD then H8.length+2 else L8.lk j },(by rw[Jk,e1];exact xV),l8t,GL,rfl⟩
 .have Jf:k=tl.length:=ω;subst Jf;have Ou:(tl.take tl.length).foldl (JP T2) { M with T:=T2 }=Vq M T2:=by rw[q9,sT];rfl
  rw[Ou]at Ck;have Ot:(Vq M T2).T=T2:=sP _ _ _;have RT:VN H t2 T2:=by have:=Ck.tr.toR;rwa [Cj,Ot]at this
  have dk:decide (tl.length<tl.length)=false:=QI ω;apply Qg hb;simp only[go_sem,dk];apply Qn hb;refine Zw hb Qdi (QeX RT I2) λd Mm hR=>?_;obtain⟨rfl,hO,g11,rfl⟩:=hR;have sY:=Ck.step (own':=QV JW H .on) (h':=H++g11) λl hl _=>⟨Kg hl,QG hl⟩;have D11:=Dk.trans (Zo.app JW H g11 .on);have HH:zn (λl=>QV JW H .on l=.on) (H++g11) (H.length+3) T2 []:=hO.step λl _ hl=>⟨by unfold QV;rw[Qd hl],rfl⟩;have C12:=sY.Qxs HH;have Tu:=D11.trans (Zo.set (own:=QV JW H .on) (h:=H++g11) (l:=p) (je (Vq M T2).lk L2.t L2.b (H.length+3) L2.v L2.m (Vq M T2).Qf (Vq M T2).acc) (by rw[sY.op];decide));have Ov:Zr _ _ p { L2 with o:=H.length+3 } (YO M T2):=C12.congrN (N:=Xc M T2) (GR I I2);have Ow:Qy (YO M T2):=Tm I I2 K2 AV Ac Oq;have Tv:=sY.ob;have QGc:=Qb Tv;generalize YL:(Vq M T2).lk=sZ at Ov Tu Tv;generalize QGd:(Vq M T2).Qf=QhF at Ov Tu Tv;generalize QwW:(Vq M T2).acc=QhG at Ov Tu Tv;generalize Qx1:(H++g11).set p (je sZ L2.t L2.b (H.length+3) L2.v L2.m QhF QhG)=ta at Ov Tu;have Qx2:(H++g11).set p ⟨.one,0,9,1,λ_=>[.raw (.int .i64 sZ.t),.raw (.int .i64 sZ.ZX),.ptr L2.t 0 0 0,.mref L2.b 0,.ptr (H.length+3) 0 0 0,.ptr L2.v 0 0 0,.mref L2.m 0,.raw (.int .u64 (QhF:Nat)),.raw (.int .u64 (QhG:Nat))]⟩=ta:=Qx1;apply Qg hb;simp only[go_sem,Tv,Qx2];apply ZQ hb mQ (sN Ov.ro Ow);apply Qn hb;obtain⟨ll,Xy⟩:∃ll,ll=VF (YO M T2):=⟨_,rfl⟩;have QGe:ll.length<=64:=by rw[Xy];exact Qho Ow
  rw[<- Xy];refine Z3 (λk st=>∃y9 H3,Zr y9 H3 p { L2 with o:=H.length+3 } { YO M T2 with A:=(ll.take k).foldl (wS T2) [] }/\Qy { YO M T2 with A:=(ll.take k).foldl (wS T2) [] }/\Zo own h y9 H3/\st=⟨[(0,.ptr p 0 0 0),(6,Qa 0),(7,Qa 0),(122,ints ll),(123,Qa ll.length),(124,Qa k)],H3⟩) ll.length (s0:=⟨[(0,.ptr p 0 0 0),(6,Qa 0),(7,Qa 0),(122,ints ll),(123,Qa ll.length),(124,Qa 0)],ta⟩) QM ⟨_,ta,Ov,Ow,Tu,rfl⟩ ?_;rintro k st hk ⟨y9,H3,GS,Lr,tc,rfl⟩;by_cases zj:k<ll.length
  .have dk3:=QU zj;obtain⟨id,Q8⟩:∃id,id=ll.getD k 0:=⟨_,rfl⟩;have Zb:=J9 (show k<4611686018427387904 from ω);obtain⟨Ak,td⟩:∃Ak,Ak=(ll.take k).foldl (wS T2) []:=⟨_,rfl⟩;have Jk:(ll.take (k+1)).foldl (wS T2) []=wS T2 Ak id:=by
    rw[Fo,QP zj,jo,<- td,Q8,Q5,QP zj];rfl
   rw[<- td]at GS Lr;have Qx3:id∈VF (YO M T2):=by rw[<- Xy,Q8];exact fD zj
   obtain⟨nd,hn,zo,hni⟩:=fF Ow (id:=id) (QxG Qx3);have Vl:Qx T2 id=some nd.c:=by have:=Ow.some hn;rwa [show (YO M T2).T=T2 from Ot]at this
   have qR:wS T2 Ak id=if 1<QR nd.c.ls then id::Ak else Ak:=by unfold wS;rw[Vl];rfl
   have ZP:Ja T2 Ak id=false:=by
    rw[Xe];intro h9;have h8:=(ft I2 Vl zo Ak).1 h9;rw[td]at h8;rcases Qhy _ _ h8 with h7|h7
    .have ZU:ll.Nodup:=by rw[Xy];exact QxI Ow
     rw[Q8]at h7;exact QxF ZU zj h7
    .cases h7
   have zd:=GS.ob;have Li:=Qb zd;apply Qg hb;simp only[go_sem,zj,<- Q8,zd];by_cases hs:1<QR nd.c.ls
   .rw[Qd hs]at qR;refine Zw hb mR (QeS GS.YM I2 (by have:=Lr.V7;rwa [show ({ YO M T2 with A:=Ak }:Qk).T=T2 from Ot]at this) id nd.c Vl zo hs ZP) λd h4 hR=>?_;obtain⟨d1,rfl,A7,O4,s4⟩:=hR;have C4:=GS.act O4 s4;have I4:Qy { YO M T2 with A:=id::Ak }:=Lr.act (λa ha=>by
     rcases QD.1 ha with e|e
     .exact⟨nd.c,by rw[e,show ({ YO M T2 with A:=Ak }:Qk).T=T2 from Ot];exact Vl,zo,hs⟩
     .exact Lr.V7 a e)
    have D4:=tc.trans (Zo.of (t:=.on) σ s4);apply Qn hb;exact⟨zj,_,Qz.frame (by simp only[go_sem,Zb]),_,h4,by rw[Jk,qR];exact C4,by rw[Jk,qR];exact I4,D4,rfl⟩
   .rw[Qc hs]at qR;refine Zw hb mR (QxE GS.YM id nd.c Vl hs) λd h4 hR=>?_;obtain⟨rfl,rfl⟩:=hR;apply Qn hb;exact⟨zj,_,Qz.frame (by simp only[go_sem,Zb]),y9,h4,by rw[Jk,qR];exact GS,by rw[Jk,qR];exact Lr,tc,rfl⟩
  .have FL:k=ll.length:=ω;subst FL;have dk3:decide (ll.length<ll.length)=false:=QI ω;have e1:jh M b l=0:=by unfold jh;rw[Qc (by rw[hE];simp),<- CP,Qc (by rw[AV];exact Ao)]
   have e2:x6 M l=0:=by unfold x6;rw[Qc (by rw[hE];simp)]
   have e3:K0 M b l={ YO M T2 with A:=ll.foldl (wS T2) [] }:=by unfold K0;rw[Qd e1,<- CP,Xy];rfl
   rw[q9,<- e3]at GS Lr;apply Qg hb;simp only[go_sem,dk3];apply Qn hb;exact⟨y9,_,_,GS,Lr,tc,by rw[e1,e2];rfl,rfl⟩
section
variable {h:List Ob}{p:Nat}{L:Loc}{M:Qk}(C:qW h p L M)
include C
def Tw(L:List It):Nat:=match L.head? with
 | some x=>min x.ka never
 | none=>never
def zB(M:Qk):Nat:=min (Tw M.Lv) (yT (M.KT 0))
theorem QhI(I:Qy M):Q6 prog 193 h [.ptr p 0 0 0] (λd=>d=u64 (zB M)):=by
 have ho:=C.ob;have hm:=C.VP;have hk0:M.ks 0=true:=(I.ks 0).2 (.inl rfl);have qs:=C.Xr.at_ 0;rw[Qd hk0]at qs;have hK:=C.kids 0 hk0;refine xD func193 ntmps193 results193 λbase w pl F hF Q7 hb=>?_;rw[<- hF]at ho hm;have Ql:=Qb ho;have Zg:=Qb hm;simp only[go_sem];apply QF hb [0,1,2,3,5,6,7,8,9,1004,1010,11,12];simp only[go_sem,ho,hm,qs];have hN:Q6 prog 247 F [.ptr L.v 0 0 0] (λd=>d=u64 (Tw M.Lv)):=Qtf (C.XH.more (KC hF));apply Wz hb QqU hN;apply ZA hb;apply Wz hb mS (o4 (hK.more (KC hF)) (I.kh 0));apply ZA hb;refine⟨[],(JI F).symm,?_⟩;unfold zB;rw[Nat.min_def,Int.min_def];congr 2;split<;>split<;>omega
end
def Qx4{own}{h:List Ob}{p}{L}{M:Qk}(C:Zr own h p L M):QH prog 88 h [.ptr p 0 0 0] (λd h'=>d=.ptr (h.length+1) 0 0 0/\VM (λl=>h.length<=l) h' (h.length+1) M.T/\∃g,h'=h++g/\g.length=2):=by
 have ho:=C.ob;refine QQ func88 ntmps88 results88 λbase w pl hb=>?_;have Ql:=Qb ho;simp only[go_sem,ho];refine Zw hb Qdn (QfG C.tr) λd h2 hR=>?_;obtain⟨rfl,R,g,rfl,hg⟩:=hR;apply Qn hb;exact⟨R,g,rfl,hg⟩
def qW.fJ{h}{p}{L:Loc}{M:Qk}(C:qW h p L M)(I:Qy M):Gr h L.o M.T M.A:=by
 have:=C.YM;rwa [I.to]at this
def Qx5{h}{p}{L:Loc}{M:Qk}(C:qW h p L M)(I:Qy M){id}{n}(hn:Qh M.N id=some n):Q6 prog 154 h [.ptr p 0 0 0,.ptr (L.le id) 0 0 0] (λd=>d=u64 (Wm M id n)):=by
 have ho:=C.ob;have he:=C.Jm id n hn;have hm:=C.VP;have Q8:=Qy.id hn;have xv:=Cy (C.fJ I) I.tree I.V7 id (I.GJ hn);unfold Wm;cases hl:n.c.leaf with
 | true=>
  rw[Qd (.inl rfl)];refine xD func154 ntmps154 results154 λbase w pl F hF Q7 hb=>?_;rw[<- hF]at ho he;have Ql:=Qb ho;have WK:=Qb he;simp only[go_sem];apply QF hb Ue;simp only[go_sem,he,hl,Go.undef];all_goals exact cD
 | false=>
  have qq:M.ks id=true:=(I.ks id).2 (.inr ⟨n,hn,hl⟩);have qs:=C.Xr.at_ id;rw[Qd qq]at qs;have hT:=C.kids id qq;have jV:Ja M.T M.A id=JV M id:=rfl;rw[jV]at xv;cases ha:JV M id with
  | false=>
   rw[ha]at xv;rw[Qd (.inr rfl)];refine xD func154 ntmps154 results154 λbase w pl F hF Q7 hb=>?_;rw[<- hF]at ho he;have Ql:=Qb ho;have WK:=Qb he;simp only[go_sem];apply QF hb Ue;simp only[go_sem,ho,he,hl];have CL:Ja M.T M.A id=false:=ha;refine Qbl hb Gc ?_ (Cy ((C.fJ I).more (KC hF)) I.tree I.V7 id (I.GJ hn)) ?_
   .simp only[go_sem,Q8]
   apply ZH hb;simp only[go_sem,he,Q8,CL];all_goals exact cD
  | true=>
   rw[ha]at xv;rw[Qc σ];have CL:Ja M.T M.A id=true:=ha;refine xD func154 ntmps154 results154 λbase w pl F hF Q7 hb=>?_;rw[<- hF]at ho he hm;have Ql:=Qb ho;have WK:=Qb he;have Zg:=Qb hm;simp only[go_sem];apply QF hb Ue;simp only[go_sem,ho,he,hl];refine Qbl hb Gc ?_ (Cy ((C.fJ I).more (KC hF)) I.tree I.V7 id (I.GJ hn)) ?_
   .simp only[go_sem,Q8]
   apply ZH hb;simp only[go_sem,Q8,CL];apply QF hb Y6;simp only[go_sem,ho,he,hm,qs,Q8];apply Wz hb mS (o4 (hT.more (KC hF)) (I.kh id));apply ZA hb;apply Jb hb Qdv (QfF n.cp.fit (yT (M.KT id)));apply ZA hb;all_goals exact cD
def Qx6(h):Q6 prog 155 h [.raw (.pointer none)] (λd=>d=.agg (⟨[],0,0,0,0,0,0⟩:Qu).Sr):=by
 refine xD func155 ntmps155 results155 λbase w pl F hF Q7 hb=>?_;simp only[go_sem,Qe];exact⟨_,rfl⟩
def QhJ(M:Qk)(id:Int)(n:Nd):List D:=n.c.cells++(QT (JV M id)::u64 n.QO::(n.du.cells++(n.sh.cells++(n.cp.cells++(u64 (Wm M id n)::n.q.Sr)))))
def Qx7{h}{p}{L}{M:Qk}(C:qW h p L M)(I:Qy M){id}{n:Nd}(hn:Qh M.N id=some n)(hq:n.c.leaf=false->n.q=⟨[],0,0,0,0,0,0⟩):
  Q6 prog 89 h [.ptr p 0 0 0,Qa id] (λd=>d=.tup [.agg (QhJ M id n),Qa 0]):=by
 have ho:=C.ob;have hy:=C.Vv;have he:=C.Jm id n hn;have YL:=C.look hn;have Q8:=Qy.id hn;refine xz Q4 200 func89 rfl ntmps89 results89 rfl λbase w pl F hF Q7 hb=>?_;rw[<- hF]at ho hy he;have Ql:=Qb ho;have wz:=Qb hy;have WK:=Qb he;simp only[go_sem,Qe,ho,Ql,hy,wz,YL];apply QF hb [0,1,2,3,4,5,6,7,8,10,11,12,13,14,15,16,17,18,19,20,21,22,23,24,25,26,27,29,30,31,32,1009,1028,1033,34,1035,36];simp only[go_sem,Qe,ho,Ql,he,WK];have CF:=λG:List Ob=>(C.more (KC hF)).more (zZ (g:=G));apply Wz hb Gc (Cy ((CF _).fJ I) I.tree I.V7 id (I.GJ hn));apply ZA hb;apply Wz hb Qdo (Qx5 (CF _) I hn);apply ZA hb;have hC:∀G:List Ob,Q6 prog 155 (F++G) [qD L.lq n] (λd=>d=.agg n.q.Sr):=λG=>by
  unfold qD;cases hl:n.c.leaf with
  | true=>
   obtain⟨k,_,Q⟩:=(CF G).WX id n hn hl;rw[Qd rfl,Q8];exact QtW Q
  | false=>
   rw[Qc Ao,hq hl];exact Qx6 _
 refine Qbl hb Qqd ?_ (hC _) ?_
 .simp only[go_sem];exact Cn _
 apply Cs hb;exact⟨_,rfl,rfl⟩
def QbL:List D:=(default:Qq).cells++(QT false::u64 0::((default:Du).cells++((default:Sh).cells++((default:Cp).cells++(u64 0::(⟨[],0,0,0,0,0,0⟩:Qu).Sr)))))
def QLJ{h}{p}{L}{M:Qk}(C:qW h p L M){id}(hn:Qh M.N id=none):
  Q6 prog 89 h [.ptr p 0 0 0,Qa id] (λd=>d=.tup [.agg QbL,Qa 6]):=by
 have ho:=C.ob;have hy:=C.Vv;have YL:=C.qp.at_ id;rw[hn,YV]at YL;refine xz Q4 200 func89 rfl ntmps89 results89 rfl λbase w pl F hF Q7 hb=>?_;rw[<- hF]at ho hy;have Ql:=Qb ho;have wz:=Qb hy;simp only[go_sem,Qe,ho,Ql,hy,wz,YL];exact⟨_,rfl,rfl⟩
end Go.Fg.X
namespace Go.Fg.X
open Go.Proofs Go.Fg
open Go.Proofs.Tryz
def pks(l:List Pk):D:=.imm 6 l.length (Pk.rows l)
def QGg(n:Nat)(H:List Ob)(d:D)(L:List Pk):Prop:=(d=.nil/\L=[])\/∃lo g row,d=.ref lo g 0 L.length/\n<=lo/\H[lo]? = some ⟨.arr,g,6,L.length,row⟩/\∀i,i<L.length->row i=(L.getD i default).cells
end Go.Fg.X
namespace Go.Fg.X
open Go.Proofs Go.Fg
open Go.Proofs.Tryz
def lnI(M:Qk)(id:Int):Nat:=(Qw M id).q.l.length
def byI(M:Qk)(id:Int):Nat:=XE (Qw M id).q.l
def QhK(f:Int->Nat)(l:List Int):Nat:=(l.map f).sum
structure QGh (p m c:Nat) (es:List Zt) (M:Qk) (F:List Ob) (n:Nat) (s:St):Prop where
 ex:∃seen out H,xB es seen=n/\Vj F H/\out.Perm ((es.filter λe=>seen.contains e.b&&true).map (·.k))/\H[F.length]? = some (XQ m c c seen) /\
  s=⟨[(0,.ptr p 0 0 0),(4,Qa (QhK (lnI M) out)),(5,Qa (QhK (byI M) out)),(14,.mref F.length 0)],H⟩
structure Good (M:Qk):Prop where
 lv:∀x∈M.Lv,∃n,Qh M.N x.ki=some n/\n.c.leaf=true/\n.q.l≠[]
 kt:∀id,∀x∈M.KT id,JV M x.ki=true
 act:∀id,id∈M.A↔∃n,Qh M.N id=some n/\n.c.leaf=true/\n.q.l≠[]/\1<QR n.c.ls
section
variable {M:Qk}(I:Qy M)(G:Good M)
include I G
theorem Good.QhL{id}{n:Nd}(hn:Qh M.N id=some n)(hl:n.c.leaf=true)(hq:n.q.l≠[]):id∈VF M:=by
 have hc:=I.some hn;obtain⟨h1,h2⟩:=(J6 I.tree.rising).1 hc;refine Jt.2 ⟨Z2.2 ⟨n.c,Jt.2 ⟨h1,hl⟩,h2⟩,?_⟩;unfold EO Qw;rw[hn];cases yW:n.q.l with
 | nil=>exact absurd yW hq
 | cons x l=>simp[yW]
theorem Good.hA(cls):∀n,Qh M.N cls=some n->n.c.leaf=true->n.q.l=[]->cls ∉ M.A:=λn hn hl hq ha=>by
 obtain⟨m,hm,_,h3,_⟩:=(G.act cls).1 ha;rw[hn]at hm;cases hm;exact h3 hq
theorem Good.Ac:∀x∈M.Lv,x.ki∈VF M:=λx hx=>by
 obtain⟨n,h1,h2,h3⟩:=G.lv x hx;exact Good.QhL I G h1 h2 h3
theorem Good.Oq:∀id,∀x∈M.KT id,∃n∈VF M,x.ki∈up M.T n:=λid x hx=>by
 obtain⟨a,ha,hu⟩:=XU.1 (G.kt id x hx);obtain⟨n,h1,h2,h3,_⟩:=(G.act a).1 ha;exact⟨a,Good.QhL I G h1 h2 h3,hu⟩
theorem Good.leaf{id}{n:Nd}(hn:Qh M.N id=some n)(hl:n.c.leaf=true)(ha:JV M id=true):n.q.l≠[]/\id∈M.A:=by
 have h1:=(ft I.tree (I.some hn) hl M.A).1 ha;obtain⟨m,hm,_,h3,_⟩:=(G.act id).1 h1;rw[hn]at hm;cases hm;exact⟨h3,h1⟩
theorem Good.share(now):∀k p id,wO M now k p=some id->∃n,Qh M.N id=some n/\n.c.leaf=true/\JV M id=true
 | 0,_,_,h=>by cases h
 | k+1,p,id,h=>by
  unfold wO at h;cases hf:firstM M now p with
  | none=>rw[hf]at h;cases h
  | some x=>
   rw[hf]at h;dsimp only at h;have hm:x∈M.KT p:=kF hf;split at h
   .rename_i hl;cases h;have hs:=I.rP p x hm;rw[I.find]at hs;cases hn:Qh M.N x.ki with
    | none=>rw[hn]at hs;cases hs
    | some n=>exact⟨n,rfl,by unfold Qw at hl;rw[hn]at hl;exact hl,G.kt p x hm⟩
   .exact Good.share now k x.ki id h
theorem Good.QwF(now):∀o id r,wP M now o->K8 M now o=some (id,r)->∃n,Qh M.N id=some n/\n.c.leaf=true/\n.q.l≠[]/\(1<QR n.c.ls->id∈M.A):=λo id r ho hp=>by
 cases o with
 | some x=>
  simp only[K8,QY,Q9]at hp;obtain⟨rfl,rfl⟩:=hp;have hx:x∈M.Lv:=(Jt.1 ho.1).1;obtain⟨n,h1,h2,h3⟩:=G.lv x hx;exact⟨n,h1,h2,h3,λh4=>(G.act x.ki).2 ⟨n,h1,h2,h3,h4⟩⟩
 | none=>
  simp only[K8,VA]at hp;obtain⟨i,hi,he⟩:=hp;cases he;obtain⟨n,h1,h2,h3⟩:=Good.share I G now 17 0 _ hi;obtain⟨h4,h5⟩:=Good.leaf I G h1 h2 h3;exact⟨n,h1,h2,h4,λ_=>h5⟩
omit I in
end
end Go.Fg.X
namespace Go.Fg.X
open Go.Proofs Go.Fg
open Go.Proofs.Tryz
def qw(M:Qk)(p:Int)(x:It):Prop:=∃n,Qh M.N x.ki=some n/\n.c.parent=p/\JV M x.ki=true/\x=⟨n.sh.time,x.ki,Wm M x.ki n,x.ki⟩
def BE(M:Qk)(x:It):Prop:=∃n,Qh M.N x.ki=some n/\n.c.leaf=true/\n.q.l≠[]/\1<QR n.c.rt/\x=⟨n.du.XZ,x.ki,n.du.dead,x.ki⟩
def CW(M:Qk):Prop:=∀x,x∈M.Lv↔BE M x
def Ox(M:Qk):Prop:=∀p x,x∈M.KT p↔qw M p x
def GU(M:Qk):Prop:=∀id,id∈M.A↔∃n,Qh M.N id=some n/\n.c.leaf=true/\n.q.l≠[]/\1<QR n.c.ls
def CX(M:Qk):Prop:=∀id n,Qh M.N id=some n->n.c.leaf=false->n.q=⟨[],0,0,0,0,0,0⟩
def VG(M:Qk):Prop:=∀id n,Qh M.N id=some n->n.Ok
def ER(M:Qk):Prop:=Vc M.Lv/\∀p,Vc (M.KT p)
structure Inv (M:Qk):Prop where
 lv:CW M
 kt:Ox M
 act:GU M
 x7:CX M
 qx:ER M
 ok:VG M
def Inv.ES{M}(V:Inv M):Good M:=
 ⟨λx hx=>by
  obtain⟨n,h1,h2,h3,_⟩:=(V.lv x).1 hx;exact⟨n,h1,h2,h3⟩,λp x hx=>by
  obtain⟨n,_,_,h,_⟩:=(V.kt p x).1 hx;exact h,V.act⟩
def QhM(c):Inv (M0 c):=by
 refine⟨λx=>?_,λp x=>?_,λid=>by simp[M0,Qh],λid n h=>by simp[M0,Qh]at h,⟨by simp[M0,Vc],λp=>by simp[M0,Vc]⟩,λid n h=>by simp[M0,Qh]at h⟩
 .simp[M0,BE,Qh]
 .simp[M0,qw,Qh]
def Qya{a}{i}{L}(h:∀x∈L,x.ki≠i):Yi a i L=none:=by
 unfold Yi;rw[jm];intro x hx hk;exact h x hx (wu.1 hk).2
def te{id}{L}(h:Vc L):Vc (Vd id L):=LY _ h
def Tz{id}{L}{x:It}:x∈Vd id L↔x∈L/\x.ki≠id:=by simp[Vd]
def fK{id}{a b}{L}(h:Vc L):Vc (XX id a b L):=
 oa (te h) (Qya λx hx=>(Tz.1 hx).2)
def GV{id}{a b}{L}{x:It}:x∈XX id a b L↔x=⟨a,id,b,id⟩\/(x∈L/\x.ki≠id):=by
 unfold XX;rw[Gn,Tz]
structure Part (M:Qk) (U:List Int):Prop where
 lv:CW M
 kt:∀p x,x.ki ∉ U->(x∈M.KT p↔qw M p x)
 ka:∀p x,x∈M.KT p->x.ki∈U->JV M x.ki=true
 act:GU M
 x7:CX M
 qx:ER M
 ok:VG M
def Qyb{M}{id j:Int}{m}(h:(Qw M id).c.parent≠j):Wm (Vm M id) j m=Wm M j m:=by
 have h2:JV (Vm M id) j=JV M j:=by
  obtain⟨_,s2,_,s4,_⟩:=N9 M id;unfold JV;rw[s2,s4]
 unfold Wm;rw[h2];have h3:(Vm M id).KT j=M.KT j:=by
  unfold Vm;split
  .dsimp only;rw[Qc (λe=>h e.symm)]
  .rfl
 rw[h3]
def Part.step{M:Qk}(I:Qy M){id}{n:Nd}(hn:Qh M.N id=some n)(V:Part M (id::up M.T n.c.parent)):Part (Vm M id) (up M.T n.c.parent):=by
 obtain⟨s1,s2,s3,s4,s5,s6,s7,s8,s9⟩:=N9 M id;have ZU:Qw M id=n:=by unfold Qw;rw[hn];rfl
 have hA:∀j,JV (Vm M id) j=JV M j:=λj=>by unfold JV;rw[s2,s4]
 have Vl:=I.some hn;have ZP:id ∉ up M.T n.c.parent:=by
  have:=Ec I.tree id;rw[Km I.tree Vl,Zz]at this;exact this.1
 have Mr:∀j m,Qh M.N j=some m->j ∉ up M.T n.c.parent->Wm (Vm M id) j m=Wm M j m:=λj m hm hj=>Qyb λe=>by
  rw[ZU]at e;refine hj ?_;rw[e];exact Xo I.tree (I.some hm)
 have tf:∀p x,x.ki ∉ up M.T n.c.parent->(qw (Vm M id) p x↔qw M p x):=λp x hx=>by
  unfold qw;rw[s1];constructor
  .rintro⟨m,h1,h2,h3,h4⟩;exact⟨m,h1,h2,by rw[<- hA];exact h3,by rw[<- Mr _ m h1 hx];exact h4⟩
  .rintro⟨m,h1,h2,h3,h4⟩;exact⟨m,h1,h2,by rw[hA];exact h3,by rw[Mr _ m h1 hx];exact h4⟩
 have Ls:∀p x,x∈M.KT p->x.ki=id->n.c.parent=p:=λp x hx e=>by
  obtain⟨c,h1,h2⟩:=I.kg p x hx;rw[e,Vl]at h1;cases h1;exact h2
 refine⟨?_,λp x hx=>?_,λp x hx ET=>?_,?_,?_,?_,by unfold VG;rw[s1];exact V.ok⟩
 .intro x;unfold BE;rw[s1,s5];exact V.lv x
 .rw[tf p x hx];by_cases e:x.ki=id
  .cases ha:JV M id with
   | true=>
    have hK:(Vm M id).KT=λj=>if j=n.c.parent then XX id n.sh.time (Wm M id n) (M.KT n.c.parent) else M.KT j:=by
     unfold Vm;rw[Qd ha,ZU]
    rw[hK];dsimp only;split
    .rename_i hp;subst hp;rw[GV];unfold qw;rw[e,hn];constructor
     .rintro (h|h)
      .exact⟨n,rfl,rfl,ha,h⟩
      .exact absurd rfl h.2
     .rintro⟨m,h1,_,_,h4⟩;cases h1;exact .inl h4
    .rename_i hp;constructor
     .intro h;exact absurd (Ls p x h e).symm hp
     .rintro⟨m,h1,h2,_⟩;rw[e,hn]at h1;cases h1;exact absurd h2.symm hp
   | false=>
    have hK:Vm M id=M:=by unfold Vm;rw[Qc (by rw[ha];exact Ao)]
    rw[hK];constructor
    .intro h;have:=V.ka p x h (by rw[e];exact J2);rw[e,ha]at this;cases this
    .rintro⟨m,_,_,h3,_⟩;rw[e,ha]at h3;cases h3
  .have ET:x.ki ∉ id::up M.T n.c.parent:=λh=>(QD.1 h).elim e hx;rw[<- V.kt p x ET];unfold Vm;split
   .dsimp only;split
    .rename_i hp;rw[GV,hp];constructor
     .rintro (h|h)
      .exact absurd (congrArg It.ki h) e
      .exact h.1
     .intro h;exact .inr ⟨h,e⟩
    .exact Iff.rfl
   .exact Iff.rfl
 .rw[hA];have QA:x.ki≠id:=λe=>ZP (e▸ET);refine V.ka p x ?_ (JR _ ET);unfold Vm at hx;split at hx
  .dsimp only at hx;split at hx
   .rename_i hp;rcases GV.1 hx with h|h
    .exact absurd (congrArg It.ki h) QA
    .rw[hp];exact h.1
   .exact hx
  .exact hx
 .intro j;rw[s1,s4];exact V.act j
 .unfold CX;rw[s1];exact V.x7
 .refine⟨by rw[s5];exact V.qx.1,λp=>?_⟩;unfold Vm;split
  .dsimp only;split
   .exact fK (V.qx.2 _)
   .exact V.qx.2 p
  .exact V.qx.2 p
def Part.settle:∀(k:Nat) {M:Qk} (id:Int),Qy M->(up M.T id).length=k->Part M (up M.T id)->Inv (VW M (up M.T id)):=by
 intro k;induction k with
 | zero=>
  intro M id I hk V;have e:=Di.1 hk;rw[e]at V ⊢;exact⟨V.lv,λp x=>V.kt p x σ,V.act,V.x7,V.qx,V.ok⟩
 | succ k ih=>
  intro M id I hk V;cases hf:Qx M.T id with
  | none=>rw[xE I.tree hf]at hk;cases hk
  | some c=>
   obtain⟨n,hn,rfl⟩:=I.Lb hf;have e:=Km I.tree hf;rw[e]at hk V ⊢;obtain⟨s1,s2,_⟩:=N9 M id;have V2:=V.step I hn;have I2:=rQ I hn (V.ok _ _ hn);show Inv (VW (Vm M id) (up M.T n.c.parent));rw[<- s2]at V2 ⊢;exact ih n.c.parent I2 (by rw[s2];simpa using hk) V2
def CY{α:Type}{key:Nd->α}{N N':List Nd}{id:Int}(e:(Qh N' id).map key=(Qh N id).map key){n:Nd}(h:Qh N id=some n):∃m,Qh N' id=some m/\key m=key n:=by
 rw[h]at e;exact VA.1 e
def x8(n:Nd):Qq × Nat × Nat:=(n.c,n.sh.time,n.cp.fit)
def GW(n:Nd):Qq × Bool × Nat × Nat:=(n.c,n.q.l.isEmpty,n.du.XZ,n.du.dead)
def x9(n:Nd):Qq × Bool:=(n.c,n.q.l.isEmpty)
def Oy{l:List Pk}:l≠[]↔l.isEmpty=false:=by cases l<;>simp
def BE.to{M M':Qk}{x:It}(h:(Qh M'.N x.ki).map GW=(Qh M.N x.ki).map GW):BE M x->BE M' x:=λ⟨n,h1,h2,h3,h4,h5⟩=>by
 obtain⟨m,k1,k2⟩:=CY h h1;simp only[GW,Q9]at k2;obtain⟨e1,e2,e3,e4⟩:=k2;exact⟨m,k1,by rw[e1];exact h2,Oy.2 (by rw[e2];exact Oy.1 h3),by rw[e1];exact h4,by rw[e3,e4];exact h5⟩
def CW.of{M M':Qk}(V:CW M)(hL:M'.Lv=M.Lv)(hN:∀id,(Qh M'.N id).map GW=(Qh M.N id).map GW):CW M':=λx=>by
 rw[hL,V x];exact⟨BE.to (hN _),BE.to (hN _).symm⟩
def CW.at_{M M':Qk}(V:CW M){id}{m}(hm:Qh M'.N id=some m)(hN:∀j,j≠id->(Qh M'.N j).map GW=(Qh M.N j).map GW)
  (hL:∀y:It,y.ki≠id->(y∈M'.Lv↔y∈M.Lv)) (hI:∀y:It,y.ki=id->(y∈M'.Lv↔(m.c.leaf=true/\m.q.l≠[]/\1<QR m.c.rt/\y=⟨m.du.XZ,id,m.du.dead,id⟩))):CW M':=λx=>by
 by_cases e:x.ki=id
 .rw[hI x e];unfold BE;rw[e,hm];constructor
  .rintro⟨h1,h2,h3,h4⟩;exact⟨m,rfl,h1,h2,h3,h4⟩
  .rintro⟨m2,h0,h1,h2,h3,h4⟩;cases h0;exact⟨h1,h2,h3,h4⟩
 .rw[hL x e,V x];exact⟨BE.to (hN _ e),BE.to (hN _ e).symm⟩
def GU.at_{M M':Qk}(V:GU M){id}{m}(hm:Qh M'.N id=some m)(hN:∀j,j≠id->(Qh M'.N j).map x9=(Qh M.N j).map x9)
  (hA:∀j,j≠id->(j∈M'.A↔j∈M.A)) (hI:id∈M'.A↔(m.c.leaf=true/\m.q.l≠[]/\1<QR m.c.ls)):GU M':=λj=>by
 by_cases e:j=id
 .subst e;rw[hI,hm];constructor
  .rintro⟨h1,h2,h3⟩;exact⟨m,rfl,h1,h2,h3⟩
  .rintro⟨m2,h0,h1,h2,h3⟩;cases h0;exact⟨h1,h2,h3⟩
 .rw[hA j e,V j];have go:∀{N N':List Nd},(Qh N' j).map x9=(Qh N j).map x9->(∃n,Qh N j=some n/\n.c.leaf=true/\n.q.l≠[]/\1<QR n.c.ls)->∃n,Qh N' j=some n/\n.c.leaf=true/\n.q.l≠[]/\1<QR n.c.ls:=λ{N N'} h ⟨n,h1,h2,h3,h4⟩=>by
   obtain⟨m2,k1,k2⟩:=CY h h1;simp only[x9,Q9]at k2;obtain⟨e1,e2⟩:=k2;exact⟨m2,k1,by rw[e1];exact h2,Oy.2 (by rw[e2];exact Oy.1 h3),by rw[e1];exact h4⟩
  exact⟨go (hN _ e),go (hN _ e).symm⟩
def GU.of{M M':Qk}(V:GU M)(hA:M'.A=M.A)(hN:∀id,(Qh M'.N id).map x9=(Qh M.N id).map x9):GU M':=λj=>by
 rw[hA,V j];have go:∀{N N':List Nd},(Qh N' j).map x9=(Qh N j).map x9->(∃n,Qh N j=some n/\n.c.leaf=true/\n.q.l≠[]/\1<QR n.c.ls)->∃n,Qh N' j=some n/\n.c.leaf=true/\n.q.l≠[]/\1<QR n.c.ls:=λ{N N'} h ⟨n,h1,h2,h3,h4⟩=>by
  obtain⟨m2,k1,k2⟩:=CY h h1;simp only[x9,Q9]at k2;obtain⟨e1,e2⟩:=k2;exact⟨m2,k1,by rw[e1];exact h2,Oy.2 (by rw[e2];exact Oy.1 h3),by rw[e1];exact h4⟩
 exact⟨go (hN _),go (hN _).symm⟩
def th{M M':Qk}{j}{n m}(e:x8 m=x8 n)(ha:JV M' j=JV M j)(hK:M'.KT j=M.KT j):Wm M' j m=Wm M j n:=by
 simp only[x8,Q9]at e;unfold Wm;rw[ha,hK,e.1,e.2.2]
def qw.to{M M':Qk}{p}{x:It}(h:(Qh M'.N x.ki).map x8=(Qh M.N x.ki).map x8)(ha:JV M' x.ki=JV M x.ki)(hK:M'.KT x.ki=M.KT x.ki):qw M p x->qw M' p x:=λ⟨n,h1,h2,h3,h4⟩=>by
 obtain⟨m,k1,k2⟩:=CY h h1;have e:=th k2 ha hK;simp only[x8,Q9]at k2;obtain⟨e1,e2,e3⟩:=k2;exact⟨m,k1,by rw[e1];exact h2,by rw[ha];exact h3,by rw[e,e2];exact h4⟩
def Ox.part{M M':Qk}(V:Ox M){U:List Int}(hK:M'.KT=M.KT)(jV:∀j,j ∉ U->JV M' j=JV M j)(hN:∀j,j ∉ U->(Qh M'.N j).map x8=(Qh M.N j).map x8):
  ∀p x,x.ki ∉ U->(x∈M'.KT p↔qw M' p x):=λp x hx=>by
 rw[hK,V p x];exact⟨qw.to (hN _ hx) (jV _ hx) (by rw[hK]),qw.to (hN _ hx).symm (jV _ hx).symm (by rw[hK])⟩
def Ox.of{M M':Qk}(V:Ox M)(hK:M'.KT=M.KT)(jV:∀j,JV M' j=JV M j)(hN:∀j,(Qh M'.N j).map x8=(Qh M.N j).map x8):Ox M':=λp x=>by
 rw[hK,V p x];exact⟨qw.to (hN _) (jV _) (by rw[hK]),qw.to (hN _).symm (jV _).symm (by rw[hK])⟩
def QnS(n:Nd):Qq × Bool × Du × Sh × Cp:=(n.c,n.q.l.isEmpty,n.du,n.sh,n.cp)
def GX{α β:Type}{key}(f:α->β){N N'}{id:Int}(e:(Qh N' id).map key=(Qh N id).map key):(Qh N' id).map (λn=>f (key n))=(Qh N id).map λn=>f (key n):=by
 have:=congrArg (Option.map f) e;rwa [Hi,Hi]at this
def Inv.num{M M':Qk}(V:Inv M)(hL:M'.Lv=M.Lv)(hK:M'.KT=M.KT)(hT:M'.T=M.T)(hA:M'.A=M.A)(hN:∀id,(Qh M'.N id).map QnS=(Qh M.N id).map QnS)(hq:CX M')(ho:VG M'):Inv M':=
 ⟨V.lv.of hL λid=>GX (λk=>(k.1,k.2.1,k.2.2.1.XZ,k.2.2.1.dead)) (hN id),V.kt.of hK (λj=>by unfold JV;rw[hT,hA]) λid=>GX (λk=>(k.1,k.2.2.2.1.time,k.2.2.2.2.fit)) (hN id),V.act.of hA λid=>GX (λk=>(k.1,k.2.1)) (hN id),hq,⟨by rw[hL];exact V.qx.1,λp=>by rw[hK];exact V.qx.2 p⟩,ho⟩
def Inv.told{M}(V:Inv M)(now):Inv (ZE M now):=by
 unfold ZE;split
 .exact⟨V.lv,V.kt,V.act,V.x7,V.qx,V.ok⟩
 .exact V
def Inv.acc{M}(V:Inv M)(a):Inv (jg M a):=⟨V.lv,V.kt,V.act,V.x7,V.qx,V.ok⟩
def wT{α:Type}{key:Nd->α}{step:Qk->Int->Qk}(hs:∀M j id,(Qh (step M j).N id).map key=(Qh M.N id).map key):∀(l:List Int) (M:Qk) (id:Int),(Qh (l.foldl step M).N id).map key=(Qh M.N id).map key
 | [],M,id=>rfl
 | j::l,M,id=>(wT hs l (step M j) id).trans (hs M j id)
def Lu{step}(hs:∀M j id,id≠j->Qh (step M j).N id=Qh M.N id):∀(l:List Int) (M:Qk) (id:Int),id ∉ l->Qh (l.foldl step M).N id=Qh M.N id
 | [],M,id,_=>rfl
 | j::l,M,id,h=>by
  rw[QD,YX]at h;exact(Lu hs l (step M j) id h.2).trans (hs M j id h.1)
def Lw{α:Type}{key:Nd->α}{N:List Nd}{j:Int}{f:Nd->Nd}(hc:∀n,(f n).c=n.c)(hk:∀n,key (f n)=key n)(id:Int):(Qh (VV N j f) id).map key=(Qh N id).map key:=by
 rw[qU (λn=>by rw[hc])];split
 .rw[Hi];congr 1;funext n;exact hk n
 .rfl
def fM{N}{j}{f}(hc:∀n,(f n).c=n.c)(id)(h:id≠j):Qh (VV N j f) id=Qh N id:=by
 rw[qU (λn=>by rw[hc]),Qc h]
def QAR{N}{j}{f}(hc:∀n,(f n).c=n.c){n}(h:Qh N j=some n):Qh (VV N j f) j=some (f n):=by
 rw[qU (λn=>by rw[hc]),Qd rfl,h];rfl
def GY{N}{j}{f}(hc:∀n,(f n).c=n.c)(hf:∀n,Qh N j=some n->n.Ok->(f n).Ok)(h:∀id n,Qh N id=some n->n.Ok):∀id n,Qh (VV N j f) id=some n->n.Ok:=λid n hn=>by
 rw[qU (λn=>by rw[hc])]at hn;split at hn
 .rename_i e;subst e;obtain⟨m,h1,rfl⟩:=VA.1 hn;exact hf m h1 (h _ _ h1)
 .exact h _ _ hn
def QhN{M M':Qk}(V:CX M)(hN:∀id,(Qh M'.N id).map (λn=>(n.c,n.q))=(Qh M.N id).map λn=>(n.c,n.q)):CX M':=λid n hn hl=>by
 obtain⟨m,h1,h2⟩:=CY (hN id).symm hn;have e1:m.c=n.c:=congrArg Prod.fst h2;have e2:m.q=n.q:=congrArg Prod.snd h2;rw[<- e2];exact V id m h1 (by rw[e1];exact hl)
def Lx(M:Qk)(id:Int)(x:Pk)(j:Int):Qh (Vf M id x).N j=if j=id then (Qh M.N j).map (λm=>{ m with q:=Xa (Qw M id).c.ZD (Qw M id).c.bytes (Qw M id).q x }) else Qh M.N j:=
 qU (f:=λm:Nd=>{ m with q:=Xa (Qw M id).c.ZD (Qw M id).c.bytes (Qw M id).q x }) (λ_=>rfl) j
def QhO{p b}{q:Qu}{x:Pk}(h:j7 p b q x=false):(Xa p b q x).l=q.l++[x]:=by
 unfold Xa;rw[Qc (by rw[h];exact Ao)]
def QnT{M}(V:VG M)(id)(x):VG (Vf M id x):=
 GY (f:=λm:Nd=>{ m with q:=Xa (Qw M id).c.ZD (Qw M id).c.bytes (Qw M id).q x }) (λ_=>rfl) (λn _ h=>⟨h.QO,h.du,h.sh,h.cp,h.c⟩) V
def Qyc{M:Qk}(V:CX M){id}{n:Nd}(hn:Qh M.N id=some n)(hl:n.c.leaf=true)(x):CX (Vf M id x):=λj m hm yv=>by
 rw[Lx]at hm;split at hm
 .rename_i e;subst e;rw[hn]at hm;cases hm;rw[hl]at yv;cases yv
 .exact V j m hm yv
def Inv.push{M:Qk}(V:Inv M){id}{n:Nd}(hn:Qh M.N id=some n)(hl:n.c.leaf=true)(x)(h:j7 n.c.ZD n.c.bytes n.q x=true\/n.q.l≠[]):Inv (Vf M id x):=by
 refine V.num rfl rfl rfl rfl (λj=>?_) (Qyc V.x7 hn hl x) (QnT V.ok id x);have ZU:Qw M id=n:=by unfold Qw;rw[hn];rfl
 rw[Lx,ZU];split
 .rename_i e;subst e;rw[hn];have e:(Xa n.c.ZD n.c.bytes n.q x).l.isEmpty=n.q.l.isEmpty:=by
   unfold Xa;rcases h with h|h
   .rw[Qd h]
   .split
    .rfl
    .cases hq:n.q.l with
     | nil=>exact absurd hq h
     | cons y l=>simp
  simp only[KK,QnS];rw[e]
 .rfl
def Qh9(M:Qk)(now)(id:Int)(head:Int)(j:Int):Qh (VE M now id head).N j=if j=id/\1<QR (Qw M id).c.rt then (Qh M.N j).map (λn=>{ n with du:=z7 (Qw M id).du (Je (Qw M id).c.rt) now head }) else Qh M.N j:=by
 unfold VE;by_cases h:1<QR (Qw M id).c.rt
 .rw[Qd h];dsimp only;rw[qU (f:=λn:Nd=>{ n with du:=z7 (Qw M id).du (Je (Qw M id).c.rt) now head }) (λ_=>rfl)];simp[h]
 .rw[Qc h,Qc (λe=>h e.2)]
def QhP(now:Nat){α:Type}{key:Nd->α}(hk:∀M n,key (xU M now n)=key n)(M:Qk)(j id:Int):(Qh (Wn now M j).N id).map key=(Qh M.N id).map key:=
 Lw (f:=xU M now) (λ_=>rfl) (hk M) id
def QhQ(now):∀(l:List Int) (M:Qk),(l.foldl (Wn now) M).Lv=M.Lv
 | [],M=>rfl
 | j::l,M=>QhQ now l (Wn now M j)
def Inv.tq{M M1:Qk}(I1:Qy M1)(V:Inv M){id}{n n1:Nd}(hn:Qh M.N id=some n)(KJ:Qh M1.N id=some n1)(hl:n.c.leaf=true)(pP:n.q.l=[])(hq:n1.q.l≠[])(vT:(n1.c,n1.du,n1.sh,n1.cp)=(n.c,n.du,n.sh,n.cp))
  (yq:∀j,j≠id->Qh M1.N j=Qh M.N j) (hL:M1.Lv=M.Lv) (hK:M1.KT=M.KT) (hT:M1.T=M.T) (hA:M1.A=M.A) (ho:VG M1) (now:Nat) (Wo:now<18446744073709551616) (head:Int):Inv (Yp M1 now id head):=by
 simp only[Q9]at vT;obtain⟨ec,ed,es,ep⟩:=vT;have ZU:Qw M1 id=n1:=by unfold Qw;rw[KJ];rfl
 have Jj:n1.c.leaf=true:=by rw[ec];exact hl
 have ZP:id ∉ M.A:=λh=>by
  obtain⟨m,h1,_,h3,_⟩:=(V.act id).1 h;rw[hn]at h1;cases h1;exact h3 pP
 have hnl:∀y∈M.Lv,y.ki≠id:=λy hy e=>by
  obtain⟨m,h1,_,h3,_⟩:=(V.lv y).1 hy;rw[e,hn]at h1;cases h1;exact h3 pP
 obtain⟨M2,YK⟩:∃M2,M2=VE M1 now id head:=⟨_,rfl⟩;have I2:Qy M2:=by rw[YK];exact I1.VE KJ now head
 obtain⟨w1,w2,w3,w4⟩:=Le (M:=M1) (now:=now) (id:=id) (head:=head);rw[<- YK]at w1 w2 w3 w4;have hF:∀j,Qh M2.N j=if j=id/\1<QR n1.c.rt then (Qh M1.N j).map (λn=>{ n with du:=z7 n1.du (Je n1.c.rt) now head }) else Qh M1.N j:=λj=>by
  rw[YK,Qh9,ZU]
 have Ht:∀j,j≠id->Qh M2.N j=Qh M.N j:=λj hj=>by rw[hF,Qc (λe=>hj e.1),yq j hj]
 have TA:M2.Lv=if 1<QR n1.c.rt then XX id (z7 n1.du (Je n1.c.rt) now head).XZ (z7 n1.du (Je n1.c.rt) now head).dead M.Lv else M.Lv:=by
  rw[YK];unfold VE;rw[ZU];split
  .dsimp only;rw[hL]
  .exact hL
 obtain⟨m,hm,xQ,Lz,hms,hmp,hmd⟩:∃m,Qh M2.N id=some m/\m.c=n.c/\m.q=n1.q/\m.sh=n.sh/\m.cp=n.cp/\(1<QR n1.c.rt->m.du=z7 n1.du (Je n1.c.rt) now head):=by
  rw[hF,KJ];by_cases h:1<QR n1.c.rt
  .rw[Qd ⟨rfl,h⟩];exact⟨_,rfl,ec,rfl,es,ep,λ_=>rfl⟩
  .rw[Qc (λe=>h e.2)];exact⟨_,rfl,ec,rfl,es,ep,λe=>absurd e h⟩
 have Ac:CW M2:=V.lv.at_ hm (λj hj=>by rw[Ht j hj]) (λy hy=>by
   rw[TA];split
   .rw[GV];exact⟨λh=>h.elim (λe=>absurd (congrArg It.ki e) hy) (·.1),λh=>.inr ⟨h,hy⟩⟩
   .exact Iff.rfl) λy hy=>by
   rw[TA,xQ,Lz];by_cases h:1<QR n1.c.rt
   .rw[Qd h,GV,hmd h];rw[<- ec];exact⟨λe=>e.elim (λe=>⟨Jj,hq,h,e⟩) λe=>absurd hy e.2,λe=>.inl e.2.2.2⟩
   .rw[Qc h];rw[<- ec];exact⟨λe=>absurd hy (hnl y e),λe=>absurd e.2.2.1 h⟩
 have Jf:∀j,(Qh M2.N j).map x8=(Qh M.N j).map x8:=λj=>by
  by_cases e:j=id
  .subst e;rw[hm,hn];simp only[KK,x8,xQ,hms,hmp]
  .rw[Ht j e]
 have QhR:CX M2:=λj k hj xR=>by
  by_cases e:j=id
  .subst e;rw[hm]at hj;cases hj;rw[xQ,hl]at xR;cases xR
  .rw[Ht j e]at hj;exact V.x7 j k hj xR
 have QhS:VG M2:=λj k hj=>by
  rw[hF]at hj;split at hj
  .obtain⟨k0,h1,rfl⟩:=VA.1 hj;have h2:=ho j k0 h1;exact⟨h2.QO,pJ (ho id n1 KJ).du (ho id n1 KJ).c.2.2.2.1.lt Wo head,h2.sh,h2.cp,h2.c⟩
  .exact ho j k hj
 have QhT:Vc M2.Lv:=by
  rw[TA];split
  .exact fK V.qx.1
  .exact V.qx.1
 unfold Yp;rw[ZU,<- YK];by_cases hs:1<QR n1.c.ls
 .rw[Qd hs];obtain⟨M3,qV⟩:∃M3,M3=(Vo M1.T M1.A id).foldl (Wn now) { M2 with A:=id::M1.A }:=⟨_,rfl⟩;rw[<- qV];obtain⟨t1,t2,t3,t4,t5,t6⟩:=GK now (Vo M1.T M1.A id) { M2 with A:=id::M1.A };rw[<- qV]at t1 t2 t3 t4 t5 t6;dsimp only at t1 t2 t3;have tL:=QhQ now (Vo M1.T M1.A id) { M2 with A:=id::M1.A };rw[<- qV]at tL;have Vl:Qx M1.T id=some n1.c:=I1.some KJ;have hUp:M1.T=M3.T:=by rw[t1,w1]
  have I3:Qy M3:=by
   rw[qV];refine Qy.SY _ (I2.act λa ha=>?_);rw[w1];rcases QD.1 ha with rfl|ha
   .exact⟨n1.c,Vl,Jj,hs⟩
   .exact I1.V7 a ha
  rw[hUp];have yF:∀j,j ∉ up M1.T id->j ∉ Vo M1.T M1.A id:=λj hj h=>hj (iu _ h);have fN:∀j,(Qh M3.N j).map (λn=>(n.c,n.q,n.du))=(Qh M2.N j).map λn=>(n.c,n.q,n.du):=λj=>by
   rw[qV];exact wT (key:=λn:Nd=>(n.c,n.q,n.du)) (λM j id=>QhP now (λ_ _=>rfl) M j id) _ _ j
  have TB:∀j,j ∉ up M1.T id->Qh M3.N j=Qh M.N j:=λj hj=>by
   have h1:Qh M3.N j=Qh M2.N j:=by
    rw[qV];exact Lu (λM i id h=>fM (f:=xU M now) (λ_=>rfl) id h) _ _ j (yF j hj)
   rw[h1];exact Ht j λe=>hj (by rw[e];exact Xo I1.tree Vl)
  have QhV:∀j,JV M3 j=true↔j∈up M1.T id\/JV M j=true:=λj=>by
   unfold JV;rw[t1,t2,w1,hA,hT,XU,XU];simp
  refine Part.settle _ id I3 rfl ?_;rw[<- hUp];refine⟨?_,?_,λp x hx ET=>(QhV _).2 (.inl ET),?_,?_,⟨by rw[tL];exact QhT,λp=>by rw[t3,w3,hK];exact V.qx.2 p⟩,?_⟩
  .exact Ac.of tL λj=>GX (λk=>(k.1,k.2.1.l.isEmpty,k.2.2.XZ,k.2.2.dead)) (fN j)
  .refine V.kt.part (by rw[t3,w3,hK]) (λj hj=>?_) λj hj=>by rw[TB j hj]
   rw[vG,QhV];exact⟨λh=>h.resolve_left hj,.inr⟩
  .obtain⟨m3,g1,g2⟩:=CY (fN id) hm;simp only[Q9]at g2;obtain⟨g3,g4,g5⟩:=g2;refine V.act.at_ g1 (λj hj=>?_) (λj hj=>?_) ?_
   .rw[<- Ht j hj];exact GX (λk=>(k.1,k.2.1.l.isEmpty)) (fN j)
   .rw[t2,hA];simp[hj]
   .rw[t2,g3,g4,xQ,Lz,<- ec];exact⟨λ_=>⟨Jj,hq,hs⟩,λ_=>J2⟩
  .exact QhN QhR λj=>GX (λk=>(k.1,k.2.1)) (fN j)
  .rw[qV];have:∀(l:List Int) (M:Qk),Qy M->VG M->VG (l.foldl (Wn now) M):=by
    intro l;induction l with
    | nil=>intro M _ h;exact h
    | cons j l ih=>
     intro M I h;refine ih _ (I.Wn now j) ?_;exact GY (f:=xU M now) (λ_=>rfl) (λn _ hn=>rX I Wo hn) h
   refine this _ _ (I2.act λa ha=>?_) QhS;rw[w1];rcases QD.1 ha with rfl|ha
   .exact⟨n1.c,Vl,Jj,hs⟩
   .exact I1.V7 a ha
 .rw[Qc hs];refine⟨Ac,V.kt.of (by rw[w3,hK]) (λj=>by unfold JV;rw[w1,w2,hT,hA]) Jf,?_,QhR,⟨QhT,λp=>by rw[w3,hK];exact V.qx.2 p⟩,QhS⟩;refine V.act.at_ hm (λj hj=>by rw[Ht j hj]) (λj hj=>by rw[w2,hA]) ?_;rw[w2,hA,xQ,Lz,<- ec];exact⟨λh=>absurd h ZP,λh=>absurd h.2.2 hs⟩
def QhW{M:Qk}{cls}{x:Pk}{n:Nd}(hn:Qh M.N cls=some n):Vx M cls x=if n.c.leaf=false then 29 else if x.len<1\/M.lk.ZX<x.len then 26 else if 1099511627776<M.acc+x.len.toNat then 28
   else if j7 n.c.ZD n.c.bytes n.q x=true then 30 else 0:=by unfold Vx;rw[hn]
def QhX{M:Qk}{cls}{x}{n:Nd}(hn:Qh M.N cls=some n)(h:Vx M cls x=30):n.c.leaf=true/\j7 n.c.ZD n.c.bytes n.q x=true:=by
 rw[QhW hn]at h;split at h
 .cases h
 .rename_i h1;split at h
  .cases h
  .split at h
   .cases h
   .split at h
    .rename_i h4;exact⟨by simpa using h1,h4⟩
    .cases h
def tu{M:Qk}{cls}{x:Pk}{n:Nd}(hn:Qh M.N cls=some n)(h:Vx M cls x=0):n.c.leaf=true/\j7 n.c.ZD n.c.bytes n.q x=false/\1<=x.len/\x.len<=M.lk.ZX/\M.acc+x.len.toNat<=1099511627776:=by
 rw[QhW hn]at h;split at h
 .cases h
 .rename_i h1;split at h
  .cases h
  .rename_i h2;split at h
   .cases h
   .rename_i h3;split at h
    .cases h
    .rename_i h4;exact⟨by simpa using h1,by simpa using h4,ω,ω,ω⟩
def Inv.put{M}(I:Qy M)(V:Inv M)(now)(Wo:now<18446744073709551616)(cls)(x):Inv (Vy M now cls x):=by
 unfold Vy;cases hn:Qh M.N cls with
 | none=>
  have e:Vx M cls x=23:=by unfold Vx;rw[hn]
  rw[e,Qc π,Qc π];exact V
 | some n=>
  have ZU:Qw M cls=n:=by unfold Qw;rw[hn];rfl
  by_cases Ad:Vx M cls x=30
  .rw[Qd Ad];obtain⟨h1,h2⟩:=QhX hn Ad;exact V.push hn h1 x (.inl h2)
  .rw[Qc Ad];by_cases h0:Vx M cls x=0
   .rw[Qd h0,ZU];obtain⟨h1,h2,h3,h4,h5⟩:=tu hn h0;by_cases hq:n.q.l=[]
    .rw[Qd hq];have KJ:Qh (jg (Vf M cls x) (M.acc+x.len.toNat)).N cls=some { n with q:=Xa n.c.ZD n.c.bytes n.q x }:=by
      show Qh (Vf M cls x).N cls=_;rw[Lx,Qd rfl,hn,ZU];rfl
     refine Inv.tq ((I.Vf cls x).jg h5) V hn KJ h1 hq ?_ rfl (λj hj=>?_) rfl rfl rfl rfl (QnT V.ok cls x) now Wo x.len
     .dsimp only;rw[QhO h2];simp
     .show Qh (Vf M cls x).N j=_;rw[Lx,Qc hj]
    .rw[Qc hq];exact(V.push hn h1 x (.inr hq)).acc _
   .rw[Qc h0];exact V
def Inv.Jx{M}(I:Qy M)(V:Inv M)(now)(Wo:now<18446744073709551616)(cls)(x):Inv (Jx M now cls x):=by
 unfold X.Jx;split
 .exact Inv.put (vu I now) (V.told now) now Wo cls x
 .exact V
def Qyf{T}(hr:WU T){p j}:j∈WE T p↔∃c,Qx T j=some c/\c.parent=p:=by
 unfold WE;constructor
 .intro h;obtain⟨c,h1,rfl⟩:=Z2.1 h;obtain⟨h2,h3⟩:=Jt.1 h1;exact⟨c,(J6 hr).2 ⟨h2,rfl⟩,by simpa using h3⟩
 .rintro⟨c,h1,h2⟩;obtain⟨h3,rfl⟩:=(J6 hr).1 h1;exact Z2.2 ⟨c,Jt.2 ⟨h3,by simpa using h2⟩,rfl⟩
def Qyg(M:Qk)(j id:Int)(h:id≠j):Qh (W1 M j).N id=Qh M.N id:=fM (f:=λn:Nd=>{ n with sh:=y7 }) (λ_=>rfl) id h
def Qyh{α:Type}{key:Nd->α}(hk:∀n:Nd,key { n with sh:=y7 }=key n)(M:Qk)(j id:Int):(Qh (W1 M j).N id).map key=(Qh M.N id).map key:=
 Lw (f:=λn:Nd=>{ n with sh:=y7 }) (λ_=>rfl) hk id
def EU{α:Type}{key:Nd->α}(hk:∀n:Nd,key { n with sh:=y7 }=key n)(M:Qk)(j id:Int):(Qh (JO M j).N id).map key=(Qh M.N id).map key:=by
 unfold JO;split
 .exact wT (Qyh hk) _ (Wp M j) id
 .rfl
def fO(M)(j:Int):(JO M j).KT=(Wp M j).KT:=by
 unfold JO;split
 .exact(fp _ (Wp M j)).2.2.1
 .rfl
def QHw{M:Qk}(I:Qy M){j:Int}{c}(h:Qx M.T j=some c):(Qw M j).c=c:=by
 obtain⟨n,h1,h2⟩:=I.Lb h;unfold Qw;rw[h1];exact h2
def QhY{M:Qk}(I:Qy M)(j p:Int)(x:It):x∈(JO M j).KT p↔x∈M.KT p/\x.ki≠j:=by
 rw[fO];unfold Wp;dsimp only;split
 .rename_i e;rw[Tz,e]
 .rename_i e;refine⟨λh=>⟨h,λej=>?_⟩,(·.1)⟩;obtain⟨c,h1,h2⟩:=I.kg p x h;rw[ej]at h1;rw[QHw I h1]at e;exact e h2.symm
def tx:∀(l:List Int) {M:Qk},Qy M->∀(p:Int) (x:It),x∈(l.foldl JO M).KT p↔x∈M.KT p/\x.ki ∉ l
 | [],M,I,p,x=>σ
 | j::l,M,I,p,x=>by
  rw[kD,tx l (I.JO j) p x,QhY I];simp[and_assoc]
def Qyi{M:Qk}(I:Qy M){j p:Int}{x:It}(h:x∈(JO M j).KT p):Qh (JO M j).N x.ki=Qh M.N x.ki:=by
 have h2:=h;rw[fO]at h2;obtain⟨hx,QA⟩:=(QhY I j p x).1 h;obtain⟨c,h3,h4⟩:=I.kg p x hx;unfold JO;split
 .rename_i e;refine Lu Qyg _ (Wp M j) x.ki λhc=>?_;obtain⟨c2,h5,h6⟩:=(Qyf I.tree.rising).1 hc;rw[h3]at h5;cases h5;unfold Wp at h2;dsimp only at h2;rw[Qd (h4.symm.trans h6),e]at h2;cases h2
 .rfl
def QhZ:∀(l:List Int) {M:Qk},Qy M->∀{p:Int} {x:It},x∈(l.foldl JO M).KT p->Qh (l.foldl JO M).N x.ki=Qh M.N x.ki
 | [],M,I,p,x,h=>rfl
 | j::l,M,I,p,x,h=>by
  have h1:=QhZ l (I.JO j) h;exact h1.trans (Qyi I (p:=p) ((tx l (I.JO j) p x).1 h).1)
def Qh0:∀(l:List Int) {M:Qk},Qy M->∀(i:Int),(∀j∈l,(Qw M j).c.parent≠i)->(l.foldl JO M).KT i=M.KT i
 | [],M,I,i,h=>rfl
 | j::l,M,I,i,h=>by
  have e:(JO M j).KT i=M.KT i:=by
   rw[fO];unfold Wp;dsimp only;rw[Qc (λe=>h j J2 e.symm)]
  rw[kD,Qh0 l (I.JO j) i,e];intro k hk;have h1:=EU (key:=λn:Nd=>n.c.parent) (λ_=>rfl) M j k;have h2:(Qw (JO M j) k).c.parent=(Qw M k).c.parent:=by
   unfold Qw;cases h3:Qh M.N k with
   | none=>
    rw[h3,YV,Uy]at h1;rw[h1]
   | some n=>
    rw[h3]at h1;obtain⟨m,h4,h5⟩:=VA.1 h1;rw[h4];exact h5
  rw[h2];exact h k (JR _ hk)
def Qyj{M}(V:VG M)(j):VG (JO M j):=by
 have go:∀(l:List Int) (M:Qk),VG M->VG (l.foldl W1 M):=by
  intro l;induction l with
  | nil=>intro M h;exact h
  | cons j l ih=>
   intro M h;exact ih _ (GY (f:=λn:Nd=>{ n with sh:=y7 }) (λ_=>rfl) (λn _ h=>⟨h.QO,h.du,QgN,h.cp,h.c⟩) h)
 unfold JO;split
 .exact go _ (Wp M j) V
 .exact V
def tz:∀(l:List Int) {M:Qk},VG M->VG (l.foldl JO M)
 | [],M,h=>h
 | j::l,M,h=>tz l (Qyj h j)
def Qh1:∀(l:List Int) {M:Qk},ER M->ER (l.foldl JO M)
 | [],M,h=>h
 | j::l,M,h=>by
  refine Qh1 l ⟨?_,λp=>?_⟩
  .rw[(QgO M j).2.2.2.2.2];exact h.1
  .rw[fO];unfold Wp;dsimp only;split
   .exact te (h.2 _)
   .exact h.2 p
def fQ(len)(M:Qk)(j id:Int)(h:id≠j):Qh (Vw len M j).N id=Qh M.N id:=fM (f:=xX len) (λ_=>rfl) id h
def Qh2(len:Nat){α:Type}{key:Nd->α}(hk:∀n:Nd,key (xX len n)=key n)(M:Qk)(j id:Int):(Qh (Vw len M j).N id).map key=(Qh M.N id).map key:=
 Lw (f:=xX len) (λ_=>rfl) hk id
def tA(len):∀(l:List Int) {M:Qk},VG M->VG (l.foldl (Vw len) M)
 | [],M,h=>h
 | j::l,M,h=>tA len l (GY (f:=xX len) (λ_=>rfl) (λn _ hn=>QgY hn len) h)
def tB(M:Qk)(id:Int)(Jz)(r:Bool)(j:Int):Qh (VQ M id Jz r).N j=if j=id/\1<QR (Qw M id).c.rt then (Qh M.N j).map (λn=>{ n with du:=kf (Qw M id) Jz r }) else Qh M.N j:=by
 unfold VQ;by_cases h:1<QR (Qw M id).c.rt
 .rw[Qd h];dsimp only;rw[qU (f:=λn:Nd=>{ n with du:=kf (Qw M id) Jz r }) (λ_=>rfl)];simp[h]
 .rw[Qc h,Qc (λe=>h e.2)]
def Inv.take{M:Qk}(I:Qy M)(V:Inv M){id}{n:Nd}(hn:Qh M.N id=some n)(hl:n.c.leaf=true)(hq:n.q.l≠[])(r):Inv (Xb M id r):=by
 have ZU:Qw M id=n:=by unfold Qw;rw[hn];rfl
 have Vl:=I.some hn;have vR:id∈up M.T id:=Xo I.tree Vl;have Oz:∀j,Qh (WL M id).N j=if j=id then (Qh M.N j).map (λn=>{ n with q:=WI (Qw M id).q }) else Qh M.N j:=λj=>
  qU (f:=λn:Nd=>{ n with q:=WI (Qw M id).q }) (λ_=>rfl) j
 unfold Xb;dsimp only;rw[ZU];generalize hlen:(n.q.l.headD default).len=len;obtain⟨M2,YK⟩:∃M2,M2=(up M.T id).foldl (Vw len.toNat) (WL M id):=⟨_,rfl⟩;rw[<- YK];have I2:Qy M2:=by rw[YK];exact Qy.fu _ (I.WL id)
 obtain⟨b1,b2,b3,b4,b5,b6,b7⟩:=Lk len.toNat (up M.T id) (WL M id);rw[<- YK]at b1 b2 b3 b4 b5 b6 b7;have Qyk:∀j,j ∉ up M.T id->Qh M2.N j=Qh M.N j:=λj hj=>by
  rw[YK,Lu (fQ len.toNat) _ _ j hj,Oz,Qc (λe=>hj (by rw[e];exact vR))]
 have Jf:∀j,(Qh M2.N j).map (λn=>(n.c,n.q,n.du))=(Qh (WL M id).N j).map λn=>(n.c,n.q,n.du):=λj=>by
  rw[YK];exact wT (key:=λn:Nd=>(n.c,n.q,n.du)) (λM j id=>Qh2 len.toNat (λ_=>rfl) M j id) _ _ j
 have Qyl:(Qh M2.N id).map (λn=>(n.c,n.q,n.du))=some (n.c,WI n.q,n.du):=by
  rw[Jf,Oz,Qd rfl,hn,ZU];rfl
 have Es:∀j,j≠id->(Qh M2.N j).map (λn=>(n.c,n.q,n.du))=(Qh M.N j).map λn=>(n.c,n.q,n.du):=λj hj=>by
  rw[Jf,Oz,Qc hj]
 obtain⟨m2,YE,e2⟩:=VA.1 Qyl;simp only[Q9]at e2;obtain⟨c2,q2,d2⟩:=e2;have Qh3:Qw M2 id=m2:=by unfold Qw;rw[YE];rfl
 have tC:VG M2:=by
  rw[YK];exact tA _ _ (GY (f:=λn:Nd=>{ n with q:=WI (Qw M id).q }) (λ_=>rfl) (λn _ h=>⟨h.QO,h.du,h.sh,h.cp,h.c⟩) V.ok)
 obtain⟨M3,qV⟩:∃M3,M3=VQ M2 id len r:=⟨_,rfl⟩;rw[<- qV];have I3:Qy M3:=by rw[qV];exact I2.VQ YE len r
 obtain⟨a1,a2,a3,a4,a5,a6⟩:=Ol M2 id len r;rw[<- qV]at a1 a2 a3 a4 a5 a6;have hF:∀j,Qh M3.N j=if j=id/\1<QR n.c.rt then (Qh M2.N j).map (λn=>{ n with du:=kf m2 len r }) else Qh M2.N j:=λj=>by
  rw[qV,tB,Qh3,c2]
 have TB:∀j,j ∉ up M.T id->Qh M3.N j=Qh M.N j:=λj hj=>by
  rw[hF,Qc (λe=>hj (by rw[e.1];exact vR)),Qyk j hj]
 have tD:∀j,j≠id->Qh M3.N j=Qh M2.N j:=λj hj=>by rw[hF,Qc (λe=>hj e.1)]
 obtain⟨m,hm,xQ,Lz,hmd⟩:∃m,Qh M3.N id=some m/\m.c=n.c/\m.q=WI n.q/\(1<QR n.c.rt->m.du=kf m2 len r):=by
  rw[hF,YE];by_cases h:1<QR n.c.rt
  .rw[Qd ⟨rfl,h⟩];exact⟨_,rfl,c2,q2,λ_=>rfl⟩
  .rw[Qc (λe=>h e.2)];exact⟨_,rfl,c2,q2,λe=>absurd e h⟩
 have Qh4:VG M3:=λj k hj=>by
  rw[hF]at hj;split at hj
  .obtain⟨k0,h1,rfl⟩:=VA.1 hj;have h2:=tC j k0 h1;exact⟨h2.QO,rU (tC id m2 YE) len r,h2.sh,h2.cp,h2.c⟩
  .exact tC j k hj
 have fR:M3.Lv=if 1<QR n.c.rt then (if (WI n.q).l=[] then Vd id (XX id (kf m2 len r).XZ (kf m2 len r).dead M.Lv) else XX id (kf m2 len r).XZ (kf m2 len r).dead M.Lv) else M.Lv:=by
  rw[qV];unfold VQ;rw[Qh3,c2,q2];split
  .dsimp only;rw[b7];rfl
  .exact b7
 have Ac:CW M3:=V.lv.at_ hm (λj hj=>by
   rw[tD j hj];exact GX (λk=>(k.1,k.2.1.l.isEmpty,k.2.2.XZ,k.2.2.dead)) (Es j hj)) (λy hy=>by
   rw[fR];split
   .split
    .rw[Tz,GV];exact⟨λh=>h.1.elim (λe=>absurd (congrArg It.ki e) hy) (·.1),λh=>⟨.inr ⟨h,hy⟩,hy⟩⟩
    .rw[GV];exact⟨λh=>h.elim (λe=>absurd (congrArg It.ki e) hy) (·.1),λh=>.inr ⟨h,hy⟩⟩
   .exact Iff.rfl) λy hy=>by
   rw[fR,xQ,Lz];by_cases h:1<QR n.c.rt
   .rw[Qd h,hmd h];split
    .rename_i he;rw[Tz];exact⟨λe=>absurd hy e.2,λe=>absurd he e.2.1⟩
    .rename_i he;rw[GV];exact⟨λe=>e.elim (λe=>⟨hl,he,h,e⟩) λe=>absurd hy e.2,λe=>.inl e.2.2.2⟩
   .rw[Qc h];refine⟨λe=>?_,λe=>absurd e.2.2.1 h⟩;obtain⟨k,h1,_,_,h4,_⟩:=(V.lv y).1 e;rw[hy,hn]at h1;cases h1;exact absurd h4 h
 have Qh5:ER M3:=⟨by
   rw[fR];split
   .split
    .exact te (fK V.qx.1)
    .exact fK V.qx.1
   .exact V.qx.1,λp=>by rw[a3,b3];exact V.qx.2 p⟩
 have Qh6:CX M3:=λj k hj xR=>by
  by_cases e:j=id
  .subst e;rw[hm]at hj;cases hj;rw[xQ,hl]at xR;cases xR
  .rw[tD j e]at hj;obtain⟨k0,h1,h2⟩:=CY (Es j e).symm hj;simp only[Q9]at h2;rw[<- h2.2.1];exact V.x7 j k0 h1 (by rw[h2.1];exact xR)
 have jf:M3.T=M.T:=by rw[a1,b1];rfl
 have OA:M3.A=M.A:=by rw[a2,b2];rfl
 have tE:M3.KT=M.KT:=by rw[a3,b3];rfl
 have rT:∀p x,x.ki ∉ up M.T id->(x∈M3.KT p↔qw M3 p x):=V.kt.part tE (λj _=>by unfold JV;rw[jf,OA]) λj hj=>by rw[TB j hj]
 have Qh7:∀j,j≠id->(Qh M3.N j).map x9=(Qh M.N j).map x9:=λj hj=>by
  rw[tD j hj];exact GX (λk=>(k.1,k.2.1.l.isEmpty)) (Es j hj)
 have stay:(id∈M.A↔(WI n.q).l≠[]/\1<QR n.c.ls)->Inv (VW M3 (up M.T id)):=λZO=>by
  rw[<- jf];refine Part.settle _ id I3 rfl ?_;rw[jf];refine⟨Ac,rT,λp x hx ET=>?_,V.act.at_ hm Qh7 (λj _=>by rw[OA]) ?_,Qh6,Qh5,Qh4⟩
  .rw[tE]at hx;obtain⟨_,_,_,h,_⟩:=(V.kt p x).1 hx;show Ja M3.T M3.A x.ki=true;rw[jf,OA];exact h
  .rw[OA,xQ,Lz,ZO];exact⟨λh=>⟨hl,h⟩,λh=>h.2⟩
 have K9:id∈M.A↔1<QR n.c.ls:=by
  rw[V.act id,hn];constructor
  .rintro⟨k,h1,_,_,h4⟩;cases h1;exact h4
  .intro h;exact⟨n,rfl,hl,hq,h⟩
 by_cases fS:(WI n.q).l=[]
 .rw[Qd fS];have LA:Qw M3 id=m:=by unfold Qw;rw[hm];rfl
  unfold WY;rw[LA,xQ];by_cases hs:1<QR n.c.ls
  .rw[Qd hs];have Qym:=K9.2 hs;obtain⟨Mo,Ae⟩:∃Mo,Mo={ M3 with A:=Ka M3.A id }:=⟨_,rfl⟩;have Io:Qy Mo:=by rw[Ae];exact I3.act (I3.V7.off id)
   rw[<- Ae];obtain⟨U,hU⟩:∃U,U=Vo M3.T (Ka M3.A id) id:=⟨_,rfl⟩;rw[<- hU];obtain⟨M4,vv⟩:∃M4,M4=U.foldl JO Mo:=⟨_,rfl⟩;rw[<- vv];have I4:Qy M4:=by rw[vv];exact Qy.S7 _ Io
   obtain⟨s1,s2,s3,s4,s5,s6⟩:=GM U Mo;rw[<- vv]at s1 s2 s3 s4 s5 s6;have GN:M4.T=M.T:=by rw[s1,Ae];exact jf
   have fT:M4.A=Ka M.A id:=by rw[s2,Ae];dsimp only;rw[OA]
   have Eu:Mo.N=M3.N:=by rw[Ae]
   have hoK:Mo.KT=M.KT:=by rw[Ae];exact tE
   have tF:∀j∈U,j∈up M.T id:=λj hj=>by
    rw[hU,jf]at hj;exact iu _ hj
   have WH:∀p x,x∈M4.KT p↔x∈M.KT p/\x.ki ∉ U:=λp x=>by
    rw[vv,tx U Io p x,hoK]
   have jV:∀j,JV M j=true↔j∈up M.T id\/JV M4 j=true:=λj=>by
    unfold JV;rw[GN,fT];exact Ij Qym j
   have Qyn:∀j,j∈up M.T id->j ∉ U->JV M4 j=true:=λj hj EM=>by
    rw[hU,jf,OA]at EM;unfold JV;rw[GN,fT];unfold Vo at EM;have fU:=List.takeWhile_append_dropWhile (p:=λi=>!Ja M.T (Ka M.A id) i) (l:=up M.T id);rw[<- fU]at hj;rcases QX.1 hj with hj|hj
    .exact absurd hj EM
    .cases hd:(up M.T id).dropWhile (λi=>!Ja M.T (Ka M.A id) i) with
     | nil=>rw[hd]at hj;cases hj
     | cons k rest=>
      have hk:Ja M.T (Ka M.A id) k=true:=by
       have:=List.head_dropWhile_not (λi=>!Ja M.T (Ka M.A id) i) (l:=up M.T id) (by rw[hd];simp);simp only[hd,List.head_cons]at this;simpa using this
      rw[hd]at hj fU;have Qyo:k∈up M.T id:=by rw[<- fU];simp
      obtain⟨ck,hck⟩:=As.1 (Gk Qyo);have yq:rest=up M.T ck.parent:=Qr9 I.tree (fU.symm) hck;rcases QD.1 hj with rfl|hj
      .exact hk
      .refine Ii I.tree hk ?_;rw[Km I.tree hck,<- yq];exact JR _ hj
   have fwd:∀p x,x.ki ∉ up M.T id->x∈M4.KT p->qw M4 p x:=λp x hx h=>by
    have hxM:=((WH p x).1 h).1;obtain⟨n0,h1,h2,h3,h4⟩:=(V.kt p x).1 hxM;have TC:Qh M4.N x.ki=some n0:=by
     have h5:Qh M4.N x.ki=Qh Mo.N x.ki:=by
      rw[vv];rw[vv]at h;exact QhZ U Io h
     rw[h5,Eu,TB _ hx,h1]
    have ha4:JV M4 x.ki=true:=((jV _).1 h3).resolve_left hx;refine⟨n0,TC,h2,ha4,?_⟩;have hK4:M4.KT x.ki=M.KT x.ki:=by
     rw[vv,Qh0 U Io x.ki,hoK];intro j hj e;obtain⟨cj,hcj⟩:=As.1 (Gk (tF j hj));have Qyr:Qx Mo.T j=some cj:=by rw[Ae];dsimp only;rw[jf];exact hcj
     rw[QHw Io Qyr]at e;refine hx (up_sub I.tree (tF j hj) ?_);rw[Km I.tree hcj,e];exact JR _ (Xo I.tree (I.some h1))
    rw[th (n:=n0) rfl (by rw[ha4,h3]) hK4];exact h4
   rw[<- GN];refine Part.settle _ id I4 rfl ?_;rw[GN];refine⟨?_,λp x hx=>⟨fwd p x hx,λhd=>?_⟩,λp x h ET=>Qyn _ ET ((WH p x).1 h).2,?_,?_,?_,?_⟩
   .refine Ac.of (by rw[s6,Ae]) λj=>?_;rw[vv,wT (EU (key:=GW) (λ_=>rfl)) U Mo j,Eu]
   .obtain⟨k,h1,h2,h3,h4⟩:=hd;have vT:(Qh M4.N x.ki).map (λn=>n.c)=(Qh M3.N x.ki).map λn=>n.c:=by
     rw[vv,wT (EU (key:=λn:Nd=>n.c) (λ_=>rfl)) U Mo x.ki,Eu]
    obtain⟨n0,h5,h6⟩:=CY vT.symm h1;rw[TB _ hx]at h5;have Qys:(⟨n0.sh.time,x.ki,Wm M x.ki n0,x.ki⟩:It)∈M.KT p:=(V.kt p _).2 ⟨n0,h5,by rw[h6];exact h2,(jV _).2 (.inr h3),rfl⟩;have Qic:=(WH p _).2 ⟨Qys,λhU2=>hx (tF _ hU2)⟩;obtain⟨k2,g1,g2,g3,g4⟩:=fwd p ⟨n0.sh.time,x.ki,Wm M x.ki n0,x.ki⟩ hx Qic;dsimp only at g1 g4;rw[h1]at g1;cases g1;rw[<- g4]at h4;rw[h4];exact Qic
   .refine V.act.at_ (id:=id) (m:=(Qw M4 id)) ?_ (λj hj=>?_) (λj hj=>?_) ?_
    .have vT:(Qh M4.N id).map (λn=>n.c)=(Qh M3.N id).map λn=>n.c:=by
      rw[vv,wT (EU (key:=λn:Nd=>n.c) (λ_=>rfl)) U Mo id,Eu]
     obtain⟨k,h5,_⟩:=CY vT hm;unfold Qw;rw[h5];rfl
    .rw[vv,wT (EU (key:=x9) (λ_=>rfl)) U Mo j,Eu];exact Qh7 j hj
    .rw[fT];simp[Ka,hj]
    .have vT:(Qh M4.N id).map (λn=>n.q)=(Qh M3.N id).map λn=>n.q:=by
      rw[vv,wT (EU (key:=λn:Nd=>n.q) (λ_=>rfl)) U Mo id,Eu]
     obtain⟨k,h5,h6⟩:=CY vT hm;have hk:Qw M4 id=k:=by unfold Qw;rw[h5];rfl
     rw[hk,h6,Lz,fT];simp[Ka,fS]
   .refine QhN Qh6 λj=>?_;rw[vv,wT (EU (key:=λn:Nd=>(n.c,n.q)) (λ_=>rfl)) U Mo j,Eu]
   .rw[vv];refine Qh1 U ?_;rw[Ae];exact Qh5
   .rw[vv];refine tz U ?_;rw[Ae];exact Qh4
  .rw[Qc hs];exact stay ⟨λh=>absurd (K9.1 h) hs,λh=>absurd h.2 hs⟩
 .rw[Qc fS];exact stay (K9.trans ⟨λh=>⟨fS,h⟩,(·.2)⟩)
def Wh(T2:List Qq)(j:Int):Bool:=match Qx T2 j with
 | some c=>!c.leaf
 | none=>false
def Qid{T2}(M:Qk)(j id:Int):(JP T2 M j).KT id=if id=j/\Wh T2 j=true then [] else M.KT id:=by
 unfold JP Wh;cases hf:Qx T2 j with
 | none=>simp
 | some c=>
  dsimp only;by_cases hl:c.leaf=true
  .rw[Qd hl,Qc (λe=>by rw[hl]at e;exact absurd e.2 π)]
  .rw[Qc hl];dsimp only;by_cases e:id=j
   .rw[Qd e,Qd ⟨e,by simpa using hl⟩]
   .rw[Qc e,Qc (λh=>e h.1)]
def Qie{T2}(id):∀(l:List Int) (M:Qk),id ∉ l->(l.foldl (JP T2) M).KT id=M.KT id
 | [],M,_=>rfl
 | j::l,M,h=>by
  rw[QD,YX]at h;rw[kD,Qie id l _ h.2,Qid,Qc (λe=>h.1 e.1)]
def Qyu{T2}{M}(V:ER M)(j):ER (JP T2 M j):=by
 refine⟨by rw[(Qhu (T2:=T2) M j).2.1];exact V.1,λp=>?_⟩;rw[Qid];split
 .simp[Vc]
 .exact V.2 p
def Qif{T2}:∀(l:List Int) {M:Qk},ER M->ER (l.foldl (JP T2) M)
 | [],M,h=>h
 | j::l,M,h=>Qif l (Qyu h j)
def tG(T2)(id:Int):∀(l:List Int) (A:List Int),id∈l.foldl (wS T2) A↔id∈A\/(id∈l/\1<QR ((Qx T2 id).getD default).ls)
 | [],A=>σ
 | j::l,A=>by
  rw[kD,tG T2 id l];unfold wS;constructor
  .rintro (h|⟨h,h2⟩)
   .split at h
    .rename_i h3;rcases QD.1 h with rfl|h
     .exact .inr ⟨J2,h3⟩
     .exact .inl h
    .exact .inl h
   .exact .inr ⟨JR _ h,h2⟩
  .rintro (h|⟨h,h2⟩)
   .refine .inl ?_;split
    .exact JR _ h
    .exact h
   .rcases QD.1 h with rfl|h
    .refine .inl ?_;rw[Qd h2];exact J2
    .exact .inr ⟨h,h2⟩
def CZ{M:Qk}(I:Qy M){id}:id∈VF M↔∃n,Qh M.N id=some n/\n.c.leaf=true/\n.q.l≠[]:=by
 constructor
 .intro h;obtain⟨h1,h2⟩:=Jt.1 (show id∈(ko M.T).filter _ from h);obtain⟨n,h3,h4,h5⟩:=fF I h1;refine⟨n,h3,h4,λe=>?_⟩;unfold EO Qw at h2;rw[h3]at h2;simp[e]at h2
 .rintro⟨n,hn,hl,hq⟩;have hc:=I.some hn;obtain⟨h1,h2⟩:=(J6 I.tree.rising).1 hc;refine Jt.2 ⟨Z2.2 ⟨n.c,Jt.2 ⟨h1,hl⟩,h2⟩,?_⟩;unfold EO Qw;rw[hn];cases yW:n.q.l with
  | nil=>exact absurd yW hq
  | cons x l=>simp[yW]
section
variable {M:Qk}(I:Qy M)(V:Inv M){T2:List Qq}(I2:JG T2)(K2:kb T2){b:Bool}(hb:kr M T2 b=false)
include I V I2 K2 hb
theorem Inv.Tm:Qy (YO M T2):=X.Tm I I2 K2 hb (Good.Ac I V.ES) (Good.Oq I V.ES)
omit I V I2 K2 in
theorem OB{id}(Tn:wR M id=true):id ∉ Kf M.T T2:=λhm=>by
 unfold kr at hb;rw[show (Kf M.T T2).any (wR M)=true from BN.2 ⟨id,hm,Tn⟩]at hb;cases hb
omit V K2 in
theorem fV{id}(Tn:wR M id=true):Qh (Xc M T2) id=Qh M.N id:=by
 rw[GR I I2];unfold Vq;rw[EP I2.rising,Qc (OB hb Tn)]
omit I V I2 K2 hb in
theorem OC{a x}(h1:a∈VF M)(h2:x∈up M.T a):wR M x=true:=BN.2 ⟨a,h1,by simpa using h2⟩
omit V K2 in
theorem Qyv{a}(h1:a∈VF M):∀(k:Nat) (x:Int),(up M.T x).length=k->(x=0\/x∈up M.T a)->up T2 x=up M.T x:=by
 intro k;induction k using Nat.strongRecOn with
 | ind k ih=>
  intro x hk hx;rcases hx with rfl|hx
  .rw[Gj I2,Gj I.tree]
  .obtain⟨c,hc⟩:=As.1 (Gk hx);have h2:Qx T2 x=some c:=by
    refine kC λe=>?_;exact OB hb (OC h1 hx) (La.2 (by rw[hc];exact λe2=>e e2.symm))
   rw[Km I2 h2,Km I.tree hc];rw[Km I.tree hc,Kv]at hk;congr 1;refine ih _ ω c.parent rfl ?_;by_cases h0:c.parent=0
   .exact .inl h0
   .obtain⟨d,hd,_⟩:=I.tree.J8 c (xF I.tree hc) h0;refine .inr (up_sub I.tree hx ?_);rw[Km I.tree hc];exact JR _ (Xo I.tree hd)
omit V K2 in
theorem Qig{a}(h1:a∈VF M):up T2 a=up M.T a:=by
 obtain⟨n,hn,_⟩:=(CZ I).1 h1;exact Qyv I I2 hb h1 _ a rfl (.inr (Xo I.tree (I.some hn)))
theorem Qyw{id}:id∈VF (YO M T2)↔id∈VF M:=by
 have I1:=V.Tm I I2 K2 hb;rw[CZ I1];constructor
 .rintro⟨n,h1,h2,h3⟩;have Ji:Qh (Xc M T2) id=some n:=h1;rw[GR I I2]at Ji;unfold Vq at Ji;rw[EP I2.rising]at Ji;split at Ji
  .obtain⟨c,_,rfl⟩:=VA.1 Ji;exact absurd rfl h3
  .exact(CZ I).2 ⟨n,Ji,h2,h3⟩
 .intro h;obtain⟨n,h1,h2,h3⟩:=(CZ I).1 h;refine⟨n,?_,h2,h3⟩;show Qh (Xc M T2) id=some n;rw[fV I I2 hb (OC h (Xo I.tree (I.some h1)))];exact h1
theorem tH{id}:id∈(Ab M T2).A↔id∈M.A:=by
 show id∈(VF (YO M T2)).foldl (wS T2) []↔_;rw[tG,Qyw I V I2 K2 hb,V.act id];constructor
 .rintro (h|⟨h1,h2⟩)
  .cases h
  .obtain⟨n,h3,h4,h5⟩:=(CZ I).1 h1;refine⟨n,h3,h4,h5,?_⟩;have hs:id ∉ Kf M.T T2:=OB hb (OC h1 (Xo I.tree (I.some h3)));have h6:Qx T2 id=Qx M.T id:=kC λe=>hs (La.2 λe2=>e e2.symm);rw[h6,I.some h3]at h2;exact h2
 .rintro⟨n,h3,h4,h5,h6⟩;have h1:id∈VF M:=(CZ I).2 ⟨n,h3,h4,h5⟩;refine .inr ⟨h1,?_⟩;have hs:id ∉ Kf M.T T2:=OB hb (OC h1 (Xo I.tree (I.some h3)));have h7:Qx T2 id=Qx M.T id:=kC λe=>hs (La.2 λe2=>e e2.symm);rw[h7,I.some h3];exact h6
theorem tI(id):JV (Ab M T2) id=JV M id:=by
 have hT:(Ab M T2).T=T2:=(Lq (T2:=T2) (Kf M.T T2) { M with T:=T2 }).1;rw[vG];unfold JV;rw[hT,XU,XU];have hl:∀a∈M.A,a∈VF M:=λa ha=>by
  obtain⟨n,h1,h2,h3,_⟩:=(V.act a).1 ha;exact(CZ I).2 ⟨n,h1,h2,h3⟩
 constructor
 .rintro⟨a,ha,hu⟩;have CL:=(tH I V I2 K2 hb).1 ha;exact⟨a,CL,by rw[<- Qig I I2 hb (hl a CL)];exact hu⟩
 .rintro⟨a,ha,hu⟩;exact⟨a,(tH I V I2 K2 hb).2 ha,by rw[Qig I I2 hb (hl a ha)];exact hu⟩
theorem Inv.change:Inv (Ab M T2):=by
 obtain⟨f1,f2,f3,f4,f5⟩:=Lq (T2:=T2) (Kf M.T T2) { M with T:=T2 };have hL:(Ab M T2).Lv=M.Lv:=f2;have h0:(0:Int) ∉ Kf M.T T2:=λh=>La.1 h (by rw[Ig I.tree,Ig I2]);have aB:∀{id:Int} {n:Nd},Qh M.N id=some n->n.c.leaf=true->n.q.l≠[]->Qh (Ab M T2).N id=some n:=λ{id n} h1 h2 h3=>by
  show Qh (Xc M T2) id=some n;rw[fV I I2 hb (OC ((CZ I).2 ⟨n,h1,h2,h3⟩) (Xo I.tree (I.some h1)))];exact h1
 have FZ:∀{id:Int} {n:Nd},Qh (Ab M T2).N id=some n->n.q.l≠[]->Qh M.N id=some n:=λ{id n} h1 h3=>by
  have Ji:Qh (Xc M T2) id=some n:=h1;rw[GR I I2]at Ji;unfold Vq at Ji;rw[EP I2.rising]at Ji;split at Ji
  .obtain⟨c,_,rfl⟩:=VA.1 Ji;exact absurd rfl h3
  .exact Ji
 have Vu:∀{id:Int},JV M id=true->wR M id=true:=λ{id} h=>by
  obtain⟨a,ha,hu⟩:=XU.1 h;obtain⟨n,h1,h2,h3,_⟩:=(V.act a).1 ha;exact OC ((CZ I).2 ⟨n,h1,h2,h3⟩) hu
 have Qih:∀{id:Int},id ∉ Kf M.T T2->(Ab M T2).KT id=M.KT id:=λ{id} h=>Qie id (Kf M.T T2) { M with T:=T2 } h;have Mr:∀{id:Int} {n:Nd},JV M id=true->Wm (Ab M T2) id n=Wm M id n:=λ{id n} h=>th rfl (tI I V I2 K2 hb id) (Qih (OB hb (Vu h)));have tf:∀p x,qw (Ab M T2) p x↔qw M p x:=λp x=>by
  constructor
  .rintro⟨n,h1,h2,h3,h4⟩;rw[tI I V I2 K2 hb]at h3;have h5:Qh M.N x.ki=some n:=by
    have:Qh (Xc M T2) x.ki=some n:=h1;rwa [fV I I2 hb (Vu h3)]at this
   exact⟨n,h5,h2,h3,by rw[<- Mr h3];exact h4⟩
  .rintro⟨n,h1,h2,h3,h4⟩;refine⟨n,?_,h2,by rw[tI I V I2 K2 hb];exact h3,by rw[Mr h3];exact h4⟩;show Qh (Xc M T2) x.ki=some n;rw[fV I I2 hb (Vu h3)];exact h1
 have Ls:∀{p:Int} {x:It},qw M p x->p ∉ Kf M.T T2:=λ{p x} ⟨n,h1,h2,h3,_⟩=>by
  by_cases hp:p=0
  .rw[hp];exact h0
  .refine OB hb (Vu (Ii I.tree h3 ?_));have Vl:=I.some h1;obtain⟨d,hd,_⟩:=I.tree.J8 n.c (xF I.tree Vl) (by rw[h2];exact hp);rw[Km I.tree Vl,<- h2];exact JR _ (Xo I.tree hd)
 refine⟨λx=>?_,λp x=>?_,λid=>?_,λid n h hl=>?_,Qif _ V.qx,λid n h=>?_⟩
 .rw[hL,V.lv x];constructor
  .rintro⟨n,h1,h2,h3,h4,h5⟩;exact⟨n,aB h1 h2 h3,h2,h3,h4,h5⟩
  .rintro⟨n,h1,h2,h3,h4,h5⟩;exact⟨n,FZ h1 h3,h2,h3,h4,h5⟩
 .rw[tf];constructor
  .intro h;have h2:x∈M.KT p:=fI p (Kf M.T T2) { M with T:=T2 } h;exact(V.kt p x).1 h2
  .intro h;rw[Qih (Ls h)];exact(V.kt p x).2 h
 .rw[tH I V I2 K2 hb,V.act id];constructor
  .rintro⟨n,h1,h2,h3,h4⟩;exact⟨n,aB h1 h2 h3,h2,h3,h4⟩
  .rintro⟨n,h1,h2,h3,h4⟩;exact⟨n,FZ h1 h3,h2,h3,h4⟩
 .have Ji:Qh (Xc M T2) id=some n:=h;rw[GR I I2]at Ji;unfold Vq at Ji;rw[EP I2.rising]at Ji;split at Ji
  .obtain⟨c,_,rfl⟩:=VA.1 Ji;rfl
  .exact V.x7 id n Ji hl
 .have Ji:Qh (Xc M T2) id=some n:=h;rw[GR I I2]at Ji;unfold Vq at Ji;rw[EP I2.rising]at Ji;split at Ji
  .obtain⟨c,hc,rfl⟩:=VA.1 Ji;exact Qhs (K2 c (xF I2 hc))
  .exact V.ok id n Ji
end
def wP.uniq{M}{now}{o o'}(a:wP M now o)(b:wP M now o'):o=o':=by
 unfold wP at a b;cases o with
 | none=>
  cases o' with
  | none=>rfl
  | some y=>
   have h1:_=[]:=a;have h2:=VL.mem b;rw[h1]at h2;cases h2
 | some x=>
  cases o' with
  | none=>
   have h1:_=[]:=b;have h2:=VL.mem a;rw[h1]at h2;cases h2
  | some y=>exact congrArg some (VL.uniq a b)
def wP.Qyx{M:Qk}{now}{o:Option It}(h:wP M now o)(hn:now<=4611686018427387904):o.isSome=true↔∃x∈M.Lv,x.ka<=now:=by
 have e:min now 9223372036854775807=now:=ω;unfold wP at h;rw[e]at h;cases o with
 | none=>
  have h1:M.Lv.filter (λx=>decide (x.ka<=now))=[]:=h;constructor
  .intro h;cases h
  .rintro⟨x,hx,h2⟩;have:x∈M.Lv.filter (λx=>decide (x.ka<=now)):=Jt.2 ⟨hx,by simpa using h2⟩;rw[h1]at this;cases this
 | some x=>
  refine⟨λ_=>?_,λ_=>rfl⟩;obtain⟨h1,h2⟩:=Jt.1 (VL.mem h);exact⟨x,h1,by simpa using h2⟩
def Qyy{L}(hs:Vc L){now}(hn:now<=4611686018427387904):Tw L<=now↔∃x∈L,x.ka<=now:=by
 unfold Tw;cases L with
 | nil=>simp[never];omega
 | cons y L=>
  simp only[List.head?_cons];have TD:never=9223372036854775808:=rfl;constructor
  .intro h;exact⟨y,J2,ω⟩
  .rintro⟨x,hx,h⟩;have h2:y.ka<=x.ka:=by
    rcases QD.1 hx with rfl|hx
    .exact QB _
    .have h3:y.lt x:=(yj.1 hs).1 x hx;unfold It.lt Ku at h3;omega
   omega
def Qii{L}{now}(hn:now<=4611686018427387904):yT L<=now↔∃x∈L,x.va<=now:=by
 obtain⟨h1,h2,h3⟩:=oZ L never;have TD:never=9223372036854775808:=rfl;unfold yT;constructor
 .intro h;rcases h3 with h3|⟨x,hx,h3⟩
  .omega
  .exact⟨x,hx,ω⟩
 .rintro⟨x,hx,h⟩;have:=h2 x hx;omega
def Qij{M:Qk}{now}(hn:now<=4611686018427387904){p:Int}:(firstM M now p).isSome=true↔∃x∈M.KT p,x.va<=now:=by
 unfold firstM;rw[List.find?_isSome];have e:min now 9223372036854775807=now:=ω;simp[e]
def tJ(T)(id:Int):(up T id).length<=16:=yN
def Qik{M:Qk}(I:Qy M)(V:Inv M){now}(hn:now<=4611686018427387904):∀(k:Nat) (p:Int),17<=k+(up M.T p).length->(∃x∈M.KT p,x.va<=now)->(wO M now k p).isSome=true
 | 0,p,hk,_=>by
  have:=tJ M.T p;omega
 | k+1,p,hk,h=>by
  have h1:=(Qij hn).2 h;unfold wO;cases hf:firstM M now p with
  | none=>rw[hf]at h1;cases h1
  | some x=>
   dsimp only;have hx:x∈M.KT p:=kF hf;have hv:x.va<=now:=by
    have:=vJ hf;simp only[XL]at this;omega
   obtain⟨n,h2,h3,h4,h5⟩:=(V.kt p x).1 hx;have ZU:Qw M x.ki=n:=by unfold Qw;rw[h2];rfl
   rw[ZU];by_cases hl:n.c.leaf=true
   .rw[Qd hl];rfl
   .rw[Qc hl];have h6:x.va=Wm M x.ki n:=congrArg It.va h5;unfold Wm at h6;rw[Qc (by rw[h4];simp[hl])]at h6;have h7:yT (M.KT x.ki)<=now:=ω;refine Qik I V hn k x.ki ?_ ((Qii hn).1 h7);rw[Km I.tree (I.some h2),h3,Kv];omega
def Qyz{M}(I:Qy M)(V:Inv M){now}(hn:now<=4611686018427387904){o:Option It}(ho:wP M now o):(K8 M now o).isSome=true↔zB M<=now:=by
 have h1:=ho.Qyx hn;have h2:=Qyy V.qx.1 hn;have h3:=Qii (L:=M.KT 0) hn;have h4:zB M<=now↔Tw M.Lv<=now\/yT (M.KT 0)<=now:=by unfold zB;omega
 rw[h4,h2,h3];cases o with
 | some x=>simp only[K8,za,true_iff];exact .inl (h1.1 rfl)
 | none=>
  have h5:¬ ∃x∈M.Lv,x.ka<=now:=λh=>by cases h1.2 h
  simp only[K8,Option.isSome_map];constructor
  .intro h;refine .inr ?_;unfold wO at h;cases hf:firstM M now 0 with
   | none=>rw[hf]at h;cases h
   | some x=>exact(Qij hn).1 (by rw[hf];rfl)
  .rintro (h|h)
   .exact absurd h h5
   .exact Qik I V hn 17 0 (by rw[Gj I.tree];simp) h
def OD(c:Cf):Bool:=decide (1<=c.t)&&decide (c.t<=65536)&&decide (1<=c.ZX)&&decide (c.ZX<=16384)
def Qil(c:Cf):QW prog 17 [.agg c.cells] (QN (QT (OD c))):=by
 unfold OD;refine xT 0 func17 ntmps17 results17 λbase w hb=>?_;simp only[go_sem];all_goals (cases h1:decide (1<=c.t)<;>cases h2:decide (c.t<=65536)<;>cases h3:decide (1<=c.ZX)<;>cases h4:decide (c.ZX<=16384)<;>simp only[go_sem,h2,h3,h4])
def TE:List It->Option It
 | []=>none
 | x::l=>match TE l with
  | none=>some x
  | some y=>some (zW x y)
def Qim:∀L:List It,xH (TE L) L
 | []=>rfl
 | x::l=>by
  have h:=Qim l;unfold TE;cases hb:TE l with
  | none=>
   rw[hb]at h;have h2:l=[]:=h;subst h2;exact VL.one x
  | some y=>
   rw[hb]at h;exact VL.join (VL.one x) h
def Qin(M:Qk)(now:Nat):Option It:=TE (M.Lv.filter λx=>decide (x.ka<=min now 9223372036854775807))
def LB(M)(now):wP M now (Qin M now):=Qim _
def Sl(M:Qk)(now:Nat):Option (Int × Bool):=if vr M now=true then K8 (ZE M now) now (Qin (ZE M now) now) else none
def takeN(M:Qk)(now:Nat):Qk:=match Sl M now with
 | none=>ZE M now
 | some x=>Xb (ZE M now) x.1 x.2
def Kq(M:Qk)(now:Nat):Int:=match Sl M now with
 | none=>0
 | some x=>x.1
def Kh(M:Qk)(now:Nat):Pk:=match Sl M now with
 | none=>default
 | some x=>(Qw M x.1).q.l.headD default
def Yq(M:Qk)(now:Nat):Bool:=match Sl M now with
 | none=>false
 | some x=>x.2
def Xt(M:Qk)(now:Nat):Bool:=(Sl M now).isSome
def QyA{M M'}{now}{d}(h:Td M now d M'):M'=takeN M now/\d=.tup [.agg (qu (Kq M now) (Kh M now) (Yq M now)),QT (Xt M now)]:=by
 rcases h with ⟨h1,rfl,rfl⟩|⟨h1,o,h2,h3⟩
 .have e:Sl M' now=none:=by unfold Sl;rw[Qc (by rw[h1];exact Ao)]
  have e2:ZE M' now=M':=by unfold ZE;rw[Qc (by rw[h1];exact Ao)]
  unfold takeN Kq Kh Yq Xt;rw[e];exact⟨e2.symm,rfl⟩
 .have e:Sl M now=K8 (ZE M now) now o:=by unfold Sl;rw[Qd h1,(LB (ZE M now) now).uniq h2]
  unfold takeN Kq Kh Yq Xt;rw[e];cases hp:K8 (ZE M now) now o with
  | none=>
   rw[hp]at h3;exact⟨h3.2,h3.1⟩
  | some x=>
   rw[hp]at h3;exact⟨h3.2,h3.1⟩
structure zC (own:Nat->Tag) (h:List Ob) (p:Nat) (M:Qk):Prop where
 ex:∃L,Zr own h p L M
 I:Qy M
 V:Inv M
 K:WM M.lk
def zC.step{own own'}{h h':List Ob}{p}{M}(C:zC own h p M)(e:∀l,l<h.length->Live (own l)->own' l=own l/\h'[l]? = h[l]?):zC own' h' p M:=
 ⟨C.ex.imp λ_ c=>c.step e,C.I,C.V,C.K⟩
def zC.N8{own}{h}{p}{M}(C:zC own h p M)(g):zC (QV own h .no) (h++g) p M:=C.step λl hl _=>⟨Kg hl,QG hl⟩
def Qio(l:List Int)(M:Qk):(VW M l).lk=M.lk:=(CM l M).2.2.2.2.2.2.2.2
def QyB(M:Qk)(id:Int):(WY M id).lk=M.lk:=by
 unfold WY;split
 .exact(GM _ _).2.2.1
 .rfl
def QyC(M:Qk)(id)(r:Bool):(Xb M id r).lk=M.lk:=by
 unfold Xb;dsimp only;rw[Qio];have h1:(VQ ((up M.T id).foldl (Vw ((Qw M id).q.l.headD default).len.toNat) (WL M id)) id ((Qw M id).q.l.headD default).len r).lk=M.lk:=by
  rw[(Ol _ _ _ _).2.2.2.1,(Lk _ _ _).2.2.2.1];rfl
 split
 .rw[QyB,h1]
 .exact h1
def QyD(M:Qk)(now)(id)(head:Int):(Yp M now id head).lk=M.lk:=by
 unfold Yp;split
 .rw[Qio,(GK _ _ _).2.2.2.1];exact Le.2.2.2
 .exact Le.2.2.2
def fW(M:Qk)(now:Nat):(ZE M now).lk=M.lk:=(Qhj M now).1
def QyE(M:Qk)(now)(cls)(x:Pk):(Vy M now cls x).lk=M.lk:=by
 unfold Vy;split
 .rfl
 .split
  .split
   .rw[QyD];rfl
   .rfl
  .rfl
def LC(M:Qk)(now)(cls)(x:Pk):(Jx M now cls x).lk=M.lk:=by
 unfold Jx;split
 .rw[QyE,fW]
 .rfl
def Qip(M:Qk)(now:Nat):(takeN M now).lk=M.lk:=by
 unfold takeN;split
 .exact fW M now
 .rw[QyC,fW]
def OE(M:Qk)(b)(l:List JN):(K0 M b l).lk=M.lk:=by
 unfold K0;split
 .exact(Lq _ _).2.2.1
 .rfl
def QyF{M:Qk}{now}(h:vr M now=true):M.Qf<=now/\now<=4611686018427387904:=by
 unfold vr at h;simp only[qB,LV,Pz]at h;omega
def Inv.pick{M:Qk}(I:Qy M)(V:Inv M){now}{o}(ho:wP M now o){id}{r}(hp:K8 M now o=some (id,r)):∃n,Qh M.N id=some n/\n.c.leaf=true/\n.q.l≠[]/\(1<QR n.c.ls->id∈M.A):=Good.QwF I V.ES now o id r ho hp
def Inv.takeN{M}(I:Qy M)(V:Inv M)(now):Inv (takeN M now):=by
 unfold X.takeN;cases hp:Sl M now with
 | none=>exact V.told now
 | some x=>
  unfold Sl at hp;split at hp
  .obtain⟨n,h1,h2,h3,_⟩:=(V.told now).pick (vu I now) (LB _ _) hp;exact(V.told now).take (vu I now) h1 h2 h3 x.2
  .cases hp
def Inv.K0{M}(I:Qy M)(V:Inv M)(b)(l)(hc:∀c∈l,JN.Ok c):Inv (K0 M b l):=by
 unfold X.K0;split
 .rename_i h;have h2:kr M (JA M.T l) b=false:=by
   unfold jh at h;split at h
   .rename_i h3;exact absurd h h3
   .split at h
    .cases h
    .rename_i h4;simpa using h4
  obtain⟨h3,h4⟩:=fc I.tree I.wK hc;exact V.change I h3 h4 h2
 .exact V
def Qiq{c}:OD c=true↔WM c:=by
 unfold OD;simp only[Zy,XL];exact⟨λh=>⟨h.1.1.1,h.1.1.2,h.1.2,h.2⟩,λh=>⟨⟨⟨h.t1,h.t2⟩,h.l1⟩,h.l2⟩⟩
section
variable {own:Nat->Tag}{h:List Ob}{p:Nat}{M:Qk}(C:zC own h p M)
include C
theorem QyG(now)(Wo:now<18446744073709551616)(cls)(x):
  QH prog 148 h [.ptr p 0 0 0,u64 now,Qa cls,.agg x.cells] (λd h'=>d=Qa (km M now cls x)/\∃own',zC own' h' p (Jx M now cls x)/\Zo own h own' h'):=by
 obtain⟨L,c⟩:=C.ex;refine QH.mono (QwV c C.I C.K now Wo cls x (Good.hA C.I C.V.ES cls)) ?_;rintro d h' ⟨own',M',c',I',D,hd,rfl⟩;exact⟨hd,own',⟨⟨L,c'⟩,I',C.V.Jx C.I now Wo cls x,by rw[LC];exact C.K⟩,D⟩
theorem QyH(now):
  QH prog 188 h [.ptr p 0 0 0,u64 now] (λd h'=>d=.tup [.agg (qu (Kq M now) (Kh M now) (Yq M now)),QT (Xt M now)]/\∃own',zC own' h' p (takeN M now)/\Zo own h own' h'):=by
 obtain⟨L,c⟩:=C.ex;refine QH.mono (QwD c C.I now λo id r ho hp=>?_) ?_
 .obtain⟨n,h1,h2,h3,h4⟩:=(C.V.told now).pick (vu C.I now) ho hp;exact⟨n,by rw[<- (wQ M now).1];exact h1,h2,h3,by rw[<- (wQ M now).2.2];exact h4⟩
 .rintro d h' ⟨own',M',c',I',D,hR⟩;obtain⟨rfl,hd⟩:=QyA hR;exact⟨hd,own',⟨⟨L,c'⟩,I',C.V.takeN C.I now,by rw[Qip];exact C.K⟩,D⟩
theorem QyI(b)(l:List JN)(hc:∀c∈l,JN.Ok c)(hl:l.length<1000000):
  QH prog 84 h [.ptr p 0 0 0,QT b,SU l] (λd h'=>d=.tup [Qa (x6 M l),Qa (jh M b l)]/\∃own',zC own' h' p (K0 M b l)/\Zo own h own' h'):=by
 obtain⟨L,c⟩:=C.ex;refine QH.mono (QxJ c C.I C.K b l hc hl (Good.Ac C.I C.V.ES) (Good.Oq C.I C.V.ES)) ?_;rintro d h' ⟨own',L',M',c',I',D,hd,rfl⟩;exact⟨hd,own',⟨⟨L',c'⟩,I',C.V.K0 C.I b l hc,by rw[OE];exact C.K⟩,D⟩
end
def QyJ(own)(h){c}(K:WM c):
  QH prog 79 h [.agg c.cells] (λd h'=>∃own' p,d=.tup [.ptr p 0 0 0,Qa 0]/\zC own' h' p (M0 c)/\Zo own h own' h'):=by
 refine QH.mono (Qw5 (own:=own) c) ?_;rintro d h' (⟨_,own',L,p,hd,c',I',D⟩|⟨hk,_⟩)
 .exact⟨own',p,hd,⟨⟨L,c'⟩,I',QhM c,K⟩,D⟩
 .exact absurd K hk
end Go.Fg.X
namespace Go.Fg
open Go.RowKit (Below)
def Qz.Qir{w0}{fr}{h}(t sz)(ht:get fr t=.nil):
  Qz w0 ⟨fr,h⟩ ⟨put fr t (.ref h.length 0 0 0),h++[(⟨.arr,0,sz,0,λ_=>[]⟩:Ob)]⟩:=by
 intro Z z base nt pl a w r b;have hlen:pl.length=h.length:=r.o.len;have R1:=r.o.BS ⟨.arr,0,sz,0,λ_=>[]⟩ rfl;have T1:Tr h pl w (h++[(⟨.arr,0,sz,0,λ_=>[]⟩:Ob)]) (pl++[none]) w:=Tr.push r.o (λ_ _=>rfl) _ _ (by intro b q e;simp at e);have hph:(h++[(⟨.arr,0,sz,0,λ_=>[]⟩:Ob)])[h.length]? = some ⟨.arr,0,sz,0,λ_=>[]⟩:=σ;have k2:=r.fr t;rw[show get (St.fr ⟨fr,h⟩) t=.nil from ht]at k2;obtain⟨a0,hv⟩:=Dp k2;have r2:Rel Z base nt ⟨fr,h++[⟨.arr,0,sz,0,λ_=>[]⟩]⟩ (pl++[none]) a w:=⟨r.nt,r.defers,λu=>(r.fr u).tr T1,R1⟩;refine⟨pl++[none],r2.tell (t:=t) ?_,b.step T1 (Below.refl _ _)⟩;rw[hv];refine .ref _ _ _ _ ⟨.arr,0,sz,0,λ_=>[]⟩ none a0 0 hph ?_ rfl (QB _) (λ_=>.inl ⟨rfl,rfl⟩);rw[<- hlen];simp
end Go.Fg
namespace Go.Fg.X
open Go.Proofs Go.Fg
open Go.Proofs.Tryz
def Zj(M:Qk)(id:Int):List Pk:=(Qw M id).q.l
def BF(n:Nd):List Pk:=n.q.l
def TF{M M':Qk}{id:Int}(h:(Qh M'.N id).map BF=(Qh M.N id).map BF):Zj M' id=Zj M id:=by
 unfold Zj Qw;cases h1:Qh M.N id with
 | none=>
  rw[h1,YV,Uy]at h;rw[h]
 | some n=>
  rw[h1]at h;obtain⟨m,h2,h3⟩:=VA.1 h;rw[h2];exact h3
def QyL(M:Qk)(now)(id)(head:Int)(j:Int):(Qh (Yp M now id head).N j).map BF=(Qh M.N j).map BF:=by
 have h1:(Qh (VE M now id head).N j).map BF=(Qh M.N j).map BF:=by
  rw[Qh9];split
  .cases Qh M.N j<;>rfl
  .rfl
 unfold Yp;split
 .rw[(CM _ _).1,wT (key:=BF) (λM j id=>QhP now (λ_ _=>rfl) M j id)];exact h1
 .exact h1
def QyM{M}(now)(cls)(x)(leaf):Zj (Vy M now cls x) leaf=if Vx M cls x=0/\cls=leaf then Zj M leaf++[x] else Zj M leaf:=by
 have push:∀j,j≠cls->Zj (Vf M cls x) j=Zj M j:=λj hj=>TF (by rw[Lx,Qc hj]);cases hn:Qh M.N cls with
 | none=>
  have e:Vx M cls x=23:=by unfold Vx;rw[hn]
  unfold Vy;rw[e,Qc π,Qc π,Qc (λh=>absurd h.1 π)]
 | some n=>
  have ZU:Qw M cls=n:=by unfold Qw;rw[hn];rfl
  have at_:Zj (Vf M cls x) cls=(Xa n.c.ZD n.c.bytes n.q x).l:=by
   unfold Zj Qw;rw[Lx,Qd rfl,hn,ZU];rfl
  have q0:Zj M cls=n.q.l:=by unfold Zj;rw[ZU]
  by_cases Ad:Vx M cls x=30
  .obtain⟨_,h2⟩:=QhX hn Ad;unfold Vy;rw[Qd Ad,Qc (λh=>by rw[Ad]at h;exact absurd h.1 π)];by_cases e:leaf=cls
   .rw[e,at_,q0];unfold Xa;rw[Qd h2]
   .exact push leaf e
  .by_cases h0:Vx M cls x=0
   .obtain⟨_,h2,_⟩:=tu hn h0;have h3:Zj (Vy M now cls x) leaf=Zj (Vf M cls x) leaf:=by
     unfold Vy;rw[Qc Ad,Qd h0];split
     .exact TF (QyL _ _ _ _ _)
     .rfl
    rw[h3];by_cases e:leaf=cls
    .rw[Qd ⟨h0,e.symm⟩,e,at_,q0,QhO h2]
    .rw[Qc (λh=>e h.2.symm)];exact push leaf e
   .unfold Vy;rw[Qc Ad,Qc h0,Qc (λh=>h0 h.1)]
def tK(M)(now:Nat)(id):Zj (ZE M now) id=Zj M id:=TF (by rw[(wQ M now).1])
def OF(M)(now)(cls)(x)(leaf):Zj (Jx M now cls x) leaf=if km M now cls x=0/\cls=leaf then Zj M leaf++[x] else Zj M leaf:=by
 unfold Jx km;split
 .rw[QyM,tK]
 .rw[Qc (λh=>absurd h.1 π)]
def QyN(M)(id)(r)(j:Int):Zj (Xb M id r) j=if j=id then (Zj M j).tail else Zj M j:=by
 have h1:Zj (Xb M id r) j=Zj (WL M id) j:=by
  refine TF ?_;unfold Xb;dsimp only;rw[(CM _ _).1];have h2:(Qh (VQ ((up M.T id).foldl (Vw ((Qw M id).q.l.headD default).len.toNat) (WL M id)) id ((Qw M id).q.l.headD default).len r).N j).map BF=(Qh (WL M id).N j).map BF:=by
   rw[tB];have h4:=wT (key:=BF) (step:=Vw ((Qw M id).q.l.headD default).len.toNat) (λM2 j id2=>Qh2 _ (λ_=>rfl) M2 j id2) (up M.T id) (WL M id) j;rw[<- h4];split
   .cases Qh ((up M.T id).foldl (Vw ((Qw M id).q.l.headD default).len.toNat) (WL M id)).N j<;>rfl
   .rfl
  split
  .unfold WY;split
   .rw[wT (key:=BF) (EU (λ_=>rfl))];exact h2
   .exact h2
  .exact h2
 rw[h1];have Oz:Qh (WL M id).N j=if j=id then (Qh M.N j).map (λn=>{ n with q:=WI (Qw M id).q }) else Qh M.N j:=
  qU (f:=λn:Nd=>{ n with q:=WI (Qw M id).q }) (λ_=>rfl) j
 by_cases e:j=id
 .rw[Qd e];unfold Zj Qw;rw[Oz,Qd e,e];unfold Qw;cases h5:Qh M.N id<;>rfl
 .rw[Qc e];exact TF (by rw[Oz,Qc e])
def EV(M)(now)(j:Int):Zj (takeN M now) j=if Xt M now=true/\Kq M now=j then (Zj M j).tail else Zj M j:=by
 unfold takeN Xt Kq;cases hp:Sl M now with
 | none=>rw[Qc (λh=>by cases h.1)];exact tK M now j
 | some x=>
  dsimp only;rw[QyN,tK];by_cases e:j=x.1
  .rw[Qd e,Qd ⟨rfl,e.symm⟩]
  .rw[Qc e,Qc (λh=>e h.2.symm)]
def fX{M}(I:Qy M)(V:Inv M){now}(h:Xt M now=true):∃x l,Zj M (Kq M now)=x::l/\Kh M now=x:=by
 unfold Xt at h;obtain⟨y,hp⟩:=As.1 h;have hj:Kq M now=y.1:=by unfold Kq;rw[hp]
 have hk:Kh M now=(Zj M y.1).headD default:=by unfold Kh;rw[hp];rfl
 unfold Sl at hp;split at hp
 .obtain⟨n,h1,h2,h3,_⟩:=(V.told now).pick (vu I now) (LB _ _) hp;rw[(wQ M now).1]at h1;have hq:Zj M y.1=n.q.l:=by unfold Zj Qw;rw[h1];rfl
  cases hl:n.q.l with
  | nil=>exact absurd hl h3
  | cons x l=>exact⟨x,l,by rw[hj,hq,hl],by rw[hk,hq,hl];rfl⟩
 .cases hp
def QyP{c}(b)(l)(j):Zj (K0 (M0 c) b l) j=[]:=by
 unfold K0;split
 .have h1:∀(L:List Int) (T2:List Qq) (M:Qk),(∀id n,Qh M.N id=some n->n.q.l=[])->∀id n,Qh (L.foldl (JP T2) M).N id=some n->n.q.l=[]:=by
   intro L T2;induction L with
   | nil=>intro M h;exact h
   | cons i L ih=>
    intro M h;refine ih _ λid n hn=>?_;unfold JP at hn;split at hn
    .rw[BD]at hn;split at hn
     .cases hn
     .exact h id n hn
    .have go:∀(k:Qq) (N:List Nd),Qh (Xs k::zA N i) id=some n->(∀n,Qh N id=some n->n.q.l=[])->n.q.l=[]:=λk N hn h=>by
      unfold Qh at hn;rw[jl]at hn;split at hn
      .cases hn;rfl
      .have KO:Qh (zA N i) id=some n:=hn;rw[BD]at KO;split at KO
       .cases KO
       .exact h n KO
     split at hn
     .exact go _ _ hn (h id)
     .exact go _ _ hn (h id)
  have h2:=h1 (Kf (M0 c).T (JA (M0 c).T l)) (JA (M0 c).T l) { M0 c with T:=JA (M0 c).T l } (λid n hn=>by simp[M0,Qh]at hn);have h3:∀id,(Qw (Vq (M0 c) (JA (M0 c).T l)) id).q.l=[]:=λid=>by
   unfold Qw Vq;cases hf:Qh ((Kf (M0 c).T (JA (M0 c).T l)).foldl (JP (JA (M0 c).T l)) { M0 c with T:=JA (M0 c).T l }).N id with
   | none=>rfl
   | some n=>exact h2 id n hf
  unfold Zj Qw;show ((Qh (Xc (M0 c) (JA (M0 c).T l)) j).getD default).q.l=[];cases hf:Qh (Xc (M0 c) (JA (M0 c).T l)) j with
  | none=>rfl
  | some n=>
   have hm:n∈Xc (M0 c) (JA (M0 c).T l):=kF hf;obtain⟨k,_,rfl⟩:=Z2.1 hm;exact h3 _
 .rfl
end Go.Fg.X
namespace Go.Fg.X
open Go.Proofs Go.Fg
open Go.Proofs.Tryz
def c6:Cf:=⟨1,100⟩
end Go.Fg.X
namespace Go.Fg.X
open Go.Proofs Go.Fg
open Go.Proofs.Tryz
def QyQ(M:Qk)(l:List Int):Nat:=(l.map λj=>(Qw M j).QO).sum
structure QGi (M:Qk):Prop where
 leaf:∀id n,Qh M.N id=some n->n.c.leaf=true->n.QO=n.q.bo
 inner:∀id n,Qh M.N id=some n->n.c.leaf=false->n.QO=VO (QyQ M (WE M.T id))
def QGj(n:Nd):Qq × Nat × Nat:=(n.c,n.QO,n.q.bo)
def QyR{α:Type}{key:Nd->α}{M M':Qk}{id:Int}(h:(Qh M'.N id).map key=(Qh M.N id).map key):key (Qw M' id)=key (Qw M id):=by
 unfold Qw;cases h1:Qh M.N id with
 | none=>
  rw[h1,YV,Uy]at h;rw[h]
 | some n=>
  rw[h1]at h;obtain⟨m,h2,h3⟩:=VA.1 h;rw[h2];exact h3
def QyS(M:Qk)(now)(id)(head:Int):(Yp M now id head).T=M.T:=by
 unfold Yp;split
 .rw[(CM _ _).2.1,(GK _ _ _).1];exact Le.1
 .exact Le.1
def QyT(M:Qk)(id)(r:Bool):(Xb M id r).T=M.T:=by
 unfold Xb;dsimp only;rw[(CM _ _).2.1];have h1:(VQ ((up M.T id).foldl (Vw ((Qw M id).q.l.headD default).len.toNat) (WL M id)) id ((Qw M id).q.l.headD default).len r).T=M.T:=by
  rw[(Ol _ _ _ _).1,(Lk _ _ _).1];rfl
 split
 .unfold WY;split
  .rw[(GM _ _).1];exact h1
  .exact h1
 .exact h1
def Qis(len):∀(l:List Int) (M:Qk) (j:Int),l.Nodup->j∈l->Qh (l.foldl (Vw len) M).N j=(Qh M.N j).map (xX len)
 | [],_,_,_,h=>by cases h
 | a::l,M,j,hn,h=>by
  rw[Zz]at hn;rw[kD];by_cases e:j=a
  .subst e;rw[Lu (fQ len) l _ j hn.1];exact(qU (f:=xX len) (λ_=>rfl) j).trans (Qd rfl)
  .rw[Qis len l _ j hn.2 ((QD.1 h).resolve_left e),fQ len M a j e]
def Qy.up{M:Qk}(I:Qy M){id j}(h:j∈X.up M.T id):∃n,Qh M.N j=Option.some n:=by
 obtain⟨c,hc⟩:=As.1 (Gk h);obtain⟨n,h1,_⟩:=I.Lb hc;exact⟨n,h1⟩
def Qy.fY:∀(l:List Int) {M:Qk},Qy M->VG M->(∀j∈l,∃n,Qh M.N j=Option.some n)->Qy (VW M l)
 | [],M,I,_,_=>I
 | id::l,M,I,V,h=>by
  obtain⟨n,hn⟩:=h id J2;have s1:=(N9 M id).1;exact Qy.fY l (rQ I hn (V id n hn)) (by unfold VG;rw[s1];exact V) (by rw[s1];exact λj hj=>h j (JR _ hj))
def QyU{M:Qk}(V:VG M){id}{n}(hn:Qh M.N id=some n)(Jz)(r):VG (VQ M id Jz r):=by
 have ZU:Qw M id=n:=by unfold Qw;rw[hn];rfl
 unfold VQ;split
 .exact GY (f:=λm:Nd=>{ m with du:=kf (Qw M id) Jz r }) (λ_=>rfl) (λm _ h=>⟨h.QO,by rw[ZU];exact rU (V id n hn) Jz r,h.sh,h.cp,h.c⟩) V
 .exact V
def QyV{M}(V:VG M)(id):VG (WY M id):=by
 unfold WY;split
 .exact tz _ (M:={ M with A:=Ka M.A id }) V
 .exact V
def Qy.Xb{M:Qk}(I:Qy M)(V:VG M){id}{n}(hn:Qh M.N id=Option.some n)(r):Qy (Xb M id r):=by
 unfold X.Xb;dsimp only;generalize ((Qw M id).q.l.headD default).len=len;obtain⟨M2,YK⟩:∃M2,M2=(X.up M.T id).foldl (X.Vw len.toNat) (X.WL M id):=⟨_,rfl⟩;rw[<- YK];have I2:Qy M2:=by rw[YK];exact Qy.fu _ (I.WL id)
 obtain⟨b1,_⟩:=Lk len.toNat (X.up M.T id) (X.WL M id);rw[<- YK]at b1;have V2:VG M2:=by
  rw[YK];exact tA _ _ (GY (f:=λn:Nd=>{ n with q:=WI (Qw M id).q }) (λ_=>rfl) (λn _ h=>⟨h.QO,h.du,h.sh,h.cp,h.c⟩) V)
 have CP:M2.T=M.T:=b1;obtain⟨n2,KO⟩:=I2.up (id:=id) (j:=id) (by rw[CP];exact Xo I.tree (I.some hn));have I3:=I2.VQ KO len r;have V3:=QyU V2 KO len r;have jf:(X.VQ M2 id len r).T=M.T:=(Ol M2 id len r).1.trans CP;split
 .have I4:=I3.WY id;have GN:(X.WY (X.VQ M2 id len r) id).T=M.T:=by
   unfold X.WY;split
   .rw[(GM _ _).1];exact jf
   .exact jf
  exact I4.fY _ (QyV V3 id) λj hj=>I4.up (id:=id) (by rw[GN];exact hj)
 .exact I3.fY _ V3 λj hj=>I3.up (id:=id) (by rw[jf];exact hj)
def QyW{M:Qk}(V:VG M){id}{n}(hn:Qh M.N id=some n)(now)(Wo:now<18446744073709551616)(head):VG (VE M now id head):=λj k hj=>by
 have ZU:Qw M id=n:=by unfold Qw;rw[hn];rfl
 rw[Qh9,ZU]at hj;split at hj
 .obtain⟨k0,h1,rfl⟩:=VA.1 hj;have h2:=V j k0 h1;exact⟨h2.QO,pJ (V id n hn).du (V id n hn).c.2.2.2.1.lt Wo head,h2.sh,h2.cp,h2.c⟩
 .exact V j k hj
def Qit{now}(Wo:now<18446744073709551616):∀(l:List Int) (M:Qk),Qy M->VG M->VG (l.foldl (Wn now) M)
 | [],M,_,V=>V
 | j::l,M,I,V=>Qit Wo l _ (I.Wn now j) (GY (f:=xU M now) (λ_=>rfl) (λn _ hn=>rX I Wo hn) V)
def Qy.Yp{M:Qk}(I:Qy M)(V:VG M){id}{n:Nd}(hn:Qh M.N id=Option.some n)(hl:n.c.leaf=true)(now)(Wo:now<18446744073709551616)(head):Qy (Yp M now id head):=by
 have ZU:Qw M id=n:=by unfold Qw;rw[hn];rfl
 have I2:=I.VE hn now head;have V2:=QyW V hn now Wo head;obtain⟨w1,w2,w3,w4⟩:=Le (M:=M) (now:=now) (id:=id) (head:=head);unfold X.Yp;rw[ZU];split
 .rename_i hs;have I3:Qy { X.VE M now id head with A:=id::M.A }:=I2.act λa ha=>by
   rw[w1];rcases QD.1 ha with rfl|ha
   .exact⟨n.c,I.some hn,hl,hs⟩
   .exact I.V7 a ha
  have I4:=Qy.SY (now:=now) (Vo M.T M.A id) I3;have V4:=Qit Wo (Vo M.T M.A id) _ I3 V2;obtain⟨t1,_⟩:=GK now (Vo M.T M.A id) { X.VE M now id head with A:=id::M.A };exact I4.fY _ V4 λj hj=>I4.up (id:=id) (by rw[t1];show j∈X.up (X.VE M now id head).T id;rw[w1];exact hj)
 .exact I2
def Qy.Vy{M}(I:Qy M)(V:VG M)(now)(Wo:now<18446744073709551616)(cls)(x):Qy (Vy M now cls x):=by
 unfold X.Vy;cases hn:Qh M.N cls with
 | none=>
  have e:Vx M cls x=23:=by unfold Vx;rw[hn]
  rw[e,Qc π,Qc π];exact I
 | some n=>
  have ZU:Qw M cls=n:=by unfold Qw;rw[hn];rfl
  by_cases Ad:Vx M cls x=30
  .rw[Qd Ad];exact I.Vf cls x
  .rw[Qc Ad];by_cases h0:Vx M cls x=0
   .rw[Qd h0,ZU];obtain⟨h1,h2,h3,h4,h5⟩:=tu hn h0;have I2:=(I.Vf cls x).jg h5;split
    .refine I2.Yp (QnT V cls x) (n:={ n with q:=Xa n.c.ZD n.c.bytes n.q x }) ?_ h1 now Wo x.len;show Qh (X.Vf M cls x).N cls=_;rw[Lx,Qd rfl,hn,ZU];rfl
    .exact I2
   .rw[Qc h0];exact I
def Qy.Jx{M}(I:Qy M)(V:Inv M)(now)(Wo:now<18446744073709551616)(cls)(x):Qy (Jx M now cls x):=by
 unfold X.Jx;split
 .exact(vu I now).Vy (V.told now).ok now Wo cls x
 .exact I
def Qy.takeN{M}(I:Qy M)(V:Inv M)(now):Qy (takeN M now):=by
 unfold X.takeN;cases hp:Sl M now with
 | none=>exact vu I now
 | some x=>
  unfold Sl at hp;split at hp
  .obtain⟨n,h1,h2,h3,_⟩:=(V.told now).pick (vu I now) (LB _ _) hp;exact(vu I now).Xb (V.told now).ok h1 x.2
  .cases hp
def Qy.K0{M}(I:Qy M)(V:Inv M)(b)(l)(hc:∀c∈l,JN.Ok c):Qy (K0 M b l):=by
 unfold X.K0;split
 .rename_i h;have h2:kr M (JA M.T l) b=false:=by
   unfold jh at h;split at h
   .rename_i h3;exact absurd h h3
   .split at h
    .cases h
    .rename_i h4;simpa using h4
  obtain⟨h3,h4⟩:=fc I.tree I.wK hc;have I1:=V.Tm I h3 h4 h2;have hT:(YO M (JA M.T l)).T=JA M.T l:=(Lq (T2:=JA M.T l) (Kf M.T (JA M.T l)) { M with T:=JA M.T l }).1;refine I1.act λa ha=>?_;rcases (tG (JA M.T l) a (VF (YO M (JA M.T l))) []).1 ha with h5|⟨h5,h6⟩
  .cases h5
  .obtain⟨n,h7,h8,h9⟩:=(CZ I1).1 h5;have qE:=I1.some h7;refine⟨n.c,qE,h8,?_⟩;rw[hT]at qE;rw[qE]at h6;exact h6
 .exact I
def Qiu(l:List Int)(M:Qk):(VW M l).Qf=M.Qf:=(CM l M).2.2.2.2.2.2.1
def QyX(M:Qk)(id:Int):(WY M id).Qf=M.Qf:=by
 unfold WY;split
 .exact(GM _ _).2.2.2.1
 .rfl
def QyY(M:Qk)(id)(r:Bool):(Xb M id r).Qf=M.Qf:=by
 unfold Xb;dsimp only;rw[Qiu];have h1:(VQ ((up M.T id).foldl (Vw ((Qw M id).q.l.headD default).len.toNat) (WL M id)) id ((Qw M id).q.l.headD default).len r).Qf=M.Qf:=by
  rw[(Ol _ _ _ _).2.2.2.2.1,(Lk _ _ _).2.2.2.2.1];rfl
 split
 .rw[QyX,h1]
 .exact h1
def Qiv(M:Qk)(now)(id)(head:Int):(VE M now id head).Qf=M.Qf:=by
 unfold VE;split<;>rfl
def QyZ(M:Qk)(now)(id)(head:Int):(Yp M now id head).Qf=M.Qf:=by
 unfold Yp;split
 .rw[Qiu,(GK _ _ _).2.2.2.2.1];exact Qiv M now id head
 .exact Qiv M now id head
def Qy0(M:Qk)(now)(cls)(x:Pk):(Vy M now cls x).Qf=M.Qf:=by
 unfold Vy;split
 .rfl
 .split
  .split
   .rw[QyZ];rfl
   .rfl
  .rfl
def tM(M:Qk)(now:Nat):(ZE M now).Qf=M.Qf\/((ZE M now).Qf=now/\now<=4611686018427387904):=by
 unfold ZE;split
 .rename_i h;exact .inr ⟨rfl,(QyF h).2⟩
 .exact .inl rfl
def Qy1{M:Qk}(I:Qy M)(V:Inv M){now}(hn:now<=4611686018427387904)(hc:M.Qf<=now):Xt M now=decide (zB M<=now/\zB M<9223372036854775808):=by
 have ht:vr M now=true:=by
  unfold vr;simp only[qB,LV,Pz];omega
 have h1:=Qyz (vu I now) (V.told now) hn (LB (ZE M now) now);have h2:zB (ZE M now)=zB M:=by unfold ZE;split<;>rfl
 rw[h2]at h1;unfold Xt Sl;rw[Qd ht,vG,h1,XL];omega
def VR(M:Qk):Nat:=(M.T.map λc=>(Zj M c.iD).length).sum
def Qiw{f f':Int->Nat}{q:Int}:∀{l:List Qq},(l.map (·.iD)).Nodup->q∈l.map (·.iD)->f' q+1=f q->(∀j,j≠q->f' j=f j)->(l.map λc=>f' c.iD).sum+1=(l.map λc=>f c.iD).sum
 | [],_,h,_,_=>by cases h
 | a::l,hn,h,h1,h2=>by
  simp only[JQ,Zz,Qn9]at hn ⊢;by_cases e:a.iD=q
  .have e2:(l.map λc=>f' c.iD)=l.map λc=>f c.iD:=Pg λc hc=>h2 _ λe3=>hn.1 (by rw[e,<- e3];exact Z2.2 ⟨c,hc,rfl⟩);rw[e2,e];omega
  .have h3:=Qiw hn.2 ((QD.1 h).resolve_left λe2=>e e2.symm) h1 h2;rw[h2 _ e];omega
def fZ(M:Qk)(now:Nat):(takeN M now).T=M.T:=by
 unfold takeN;split
 .exact(wQ M now).2.1
 .rw[QyT];exact(wQ M now).2.1
def Qy2{M}(I:Qy M)(V:Inv M){now}(h:Xt M now=true):VR (takeN M now)+1=VR M:=by
 obtain⟨x,l,h1,h2⟩:=fX I V h;unfold VR;rw[fZ];have ZU:(M.T.map (·.iD)).Nodup:=by
  have h:M.T.Pairwise (λa b=>a.iD<b.iD):=I.tree.rising;rw[ik,L6];exact h.imp λVu=>ω
 refine Qiw (q:=Kq M now) (f:=λj=>(Zj M j).length) (f':=λj=>(Zj (takeN M now) j).length) ZU ?_ ?_ λj hj=>?_
 .unfold Zj Qw at h1;cases hf:Qh M.N (Kq M now) with
  | none=>rw[hf]at h1;cases h1
  | some n=>
   obtain⟨h3,h4⟩:=(J6 I.tree.rising).1 (I.some hf);exact Z2.2 ⟨n.c,h3,h4⟩
 .rw[EV,Qd ⟨h,rfl⟩,h1];simp
 .rw[EV,Qc λe=>hj e.2.symm]
def Af(now until_ due:Nat):Nat:=min (max (max now until_) due) 9223372036854775808
def Qy3{M:Qk}(I:Qy M)(V:Inv M){Qf until_ end_}(hc:M.Qf<=Qf)(he:end_<=4611686018427387904)(h:Af Qf until_ (zB M)<=end_):
  Xt M (Af Qf until_ (zB M))=true/\until_<=Af Qf until_ (zB M)/\Qf<=Af Qf until_ (zB M):=by
 have h1:Af Qf until_ (zB M)=max (max Qf until_) (zB M):=by unfold Af at h ⊢;omega
 have h2:=Qy1 I V (now:=Af Qf until_ (zB M)) ω ω;rw[h2];refine⟨QU ⟨ω,ω⟩,ω,ω⟩
structure ji where
 p:Nat
 b:Nat
 r:Nat
 w:Nat
 l:Nat
instance:Inhabited ji:=⟨⟨0,0,0,0,0⟩⟩
def ji.Ok(r:ji):Prop:=r.p<18446744073709551616/\r.b<18446744073709551616/\r.r<18446744073709551616/\r.w<18446744073709551616/\r.l<18446744073709551616
structure Da where
 Jc:Int->List Nat
 rows:Int->ji
def vw(s:Da)(cls:Int)(at_:Nat):Da:={ s with Jc:=λk=>if k=cls then s.Jc k++[at_] else s.Jc k }
def ya(r:ji)(a done:Nat)(bytes:Int)(real:Bool):ji:=
 ⟨(r.p+1) % 18446744073709551616,(r.b+bytes.toNat) % 18446744073709551616,if real=true then (r.r+1) % 18446744073709551616 else r.r,(r.w+(done - a)) % 18446744073709551616,max r.l (done - a)⟩
def YP(s:Da)(cls:Int)(done:Nat)(bytes:Int)(real:Bool):Da:=match s.Jc cls with
 | []=>s
 | a::l=>if bytes<1 then s else if done<a then s else
  ⟨λk=>if k=cls then l else s.Jc k,λk=>if k=cls then ya (s.rows k) a done bytes real else s.rows k⟩
def ZR(x:Pk):List Int:=[x.wc,x.wg,x.wh,x.wi]
def JT.mask(r:JT):List Int:=[r.yI,r.yJ,r.DV,r.Cg]
def JT.want(r:JT):List Int:=[r.Ia,r.Ib,r.Ic,r.DW]
def vz(a b:Int):Int:=bits .and .u16 a b
def TG(h m:List Int):List Int:=List.zipWith vz h m
def qY(r:JT)(h:List Int):Bool:=TG h r.mask==r.want
def yc(r:JT):Bool:=decide (1<=r.cls)&&decide (r.cls<=65536)&&(TG r.want r.mask==r.want)
def Kr(R:List JT)(h:List Int):Int:=match R.find? λr=>qY r h with
 | some r=>r.cls
 | none=>0
def qy(R:List JT):Int:=if 32<R.length then 2 else if R.all yc=true then 0 else 1
structure ZF where
 M:Qk
 XI:Nat
 R:List JT
 st:Da
 Qf:Nat
 ops:Nat
def YQ(c:Cf)(len:Int):Nat:=len.toNat*c.t.toNat
def inE(op at_:Nat)(cls:Int)(x:Pk):Ev:=⟨op,true,false,at_,0,cls,x.iD,x.len,x.wc,x.wg,x.wh,x.wi⟩
def vA(op:Nat)(real:Bool)(at_ done:Nat)(cls:Int)(x:Pk):Ev:=⟨op,false,real,at_,done,cls,x.iD,x.len,x.wc,x.wg,x.wh,x.wi⟩
def Js(S:ZF)(op now:Nat):ZF × List Ev:=
 if now<S.XI then (S,[]) else
 if Xt S.M now=true then
  ({ S with M:=takeN S.M now,XI:=now+YQ S.M.lk (Kh S.M now).len,st:=YP S.st (Kq S.M now) (now+YQ S.M.lk (Kh S.M now).len) (Kh S.M now).len (Yq S.M now) },
   [vA op (Yq S.M now) now (now+YQ S.M.lk (Kh S.M now).len) (Kq S.M now) (Kh S.M now)])
 else ({ S with M:=takeN S.M now },[])
def Zs(S:ZF):Nat:=Af S.Qf S.XI (zB S.M)
def Vg(op e:Nat):Nat->ZF->ZF × List Ev
 | 0,S=>({ S with Qf:=e },[])
 | n+1,S=>if e<Zs S then ({ S with Qf:=e },[]) else
  let a:=Js { S with Qf:=Zs S } op (Zs S);let b:=Vg op e n a.1
  (b.1,a.2++b.2)
structure kv where
 err:Int
 place:Int
 cls:Int
instance:Inhabited kv:=⟨⟨0,0,0⟩⟩
structure OG where
 S:ZF
 r:kv
 l:List Ev
def qZ(S:ZF)(op Wi:Nat):OG:=
 if 4611686018427387904 - S.Qf<Wi then ⟨S,⟨27,0,0⟩,[]⟩ else
 ⟨(Vg op (S.Qf+Wi) (VR S.M+1) S).1,⟨0,0,0⟩,(Vg op (S.Qf+Wi) (VR S.M+1) S).2⟩
def YR(S:ZF)(op:Nat)(x:Pk):OG:=
 if Kr S.R (ZR x)=0 then ⟨S,⟨31,0,0⟩,[]⟩ else
 if km S.M S.Qf (Kr S.R (ZR x)) x=0 then
  let a:=Js { S with M:=Jx S.M S.Qf (Kr S.R (ZR x)) x,st:=vw S.st (Kr S.R (ZR x)) S.Qf } op S.Qf
  ⟨a.1,⟨0,0,Kr S.R (ZR x)⟩,inE op S.Qf (Kr S.R (ZR x)) x::a.2⟩
 else ⟨{ S with M:=Jx S.M S.Qf (Kr S.R (ZR x)) x },⟨km S.M S.Qf (Kr S.R (ZR x)) x,0,Kr S.R (ZR x)⟩,[]⟩
def VX(S:ZF)(op:Nat)(o:ZV):OG:=
 if o.kind=1 then ⟨{ S with M:=K0 S.M (decide (S.XI<=S.Qf)) o.changes },⟨jh S.M (decide (S.XI<=S.Qf)) o.changes,x6 S.M o.changes,0⟩,[]⟩
 else if o.kind=2 then (if qy o.rules=0 then ⟨{ S with R:=o.rules },⟨0,0,0⟩,[]⟩ else ⟨S,⟨qy o.rules,0,0⟩,[]⟩)
 else if o.kind=3 then YR S op o.ZI
 else if o.kind=4 then qZ S op o.Wi.toNat
 else ⟨S,⟨1,0,0⟩,[]⟩
def JM(S:ZF)(o:ZV):OG:=VX { S with ops:=S.ops+1 } S.ops o
def S0(c:Cf):ZF:=⟨M0 c,0,[],⟨λ_=>[],λ_=>default⟩,0,0⟩
def Zn(S:ZF):List ZV->ZF × List kv × List Ev
 | []=>(S,[],[])
 | o::l=>((Zn (JM S o).S l).1,(JM S o).r::(Zn (JM S o).S l).2.1,(JM S o).l++(Zn (JM S o).S l).2.2)
def Qix:∀(l m:List ZV) (S:ZF),Zn S (l++m)=((Zn (Zn S l).1 m).1,(Zn S l).2.1++(Zn (Zn S l).1 m).2.1,(Zn S l).2.2++(Zn (Zn S l).1 m).2.2)
 | [],m,S=>rfl
 | o::l,m,S=>by simp only[YT,Zn,Qix l m,V9]
structure Jd (S:ZF):Prop where
 I:Qy S.M
 V:Inv S.M
 K:WM S.M.lk
 len:∀j,∀x∈Zj S.M j,1<=x.len/\x.len<=S.M.lk.ZX
 mc:S.M.Qf<=S.Qf
 cl:S.Qf<=4611686018427387904
 un:S.XI<=4611686018427387904+1073741824
 st:∀k,(S.st.rows k).Ok
 ca:∀k,∀a∈S.st.Jc k,a<18446744073709551616
def Qiy{P:List Pk->Prop}(h0:P [])(T2:List Qq)(id:Int):∀(L:List Int) (M:Qk),(∀n,Qh M.N id=some n->P n.q.l)->∀n,Qh (L.foldl (JP T2) M).N id=some n->P n.q.l
 | [],M,h=>h
 | i::L,M,h=>Qiy h0 T2 id L _ λn hn=>by
  have go:∀(k:Qq),Qh (Xs k::zA M.N i) id=some n->P n.q.l:=λk hn=>by
   unfold Qh at hn;rw[jl]at hn;split at hn
   .cases hn;exact h0
   .have KO:Qh (zA M.N i) id=some n:=hn;rw[BD]at KO;split at KO
    .cases KO
    .exact h n KO
  unfold JP at hn;split at hn
  .rw[BD]at hn;split at hn
   .cases hn
   .exact h n hn
  .split at hn
   .exact go _ hn
   .exact go _ hn
def Qy4{P:List Pk->Prop}(h0:P []){M:Qk}{j:Int}(h:P (Zj M j))(n:Nd)(hn:Qh M.N j=some n):P n.q.l:=by
 unfold Zj Qw at h;rw[hn]at h;exact h
def Qiz{P:List Pk->Prop}(h0:P []){M:Qk}(b:Bool)(l:List JN){j:Int}(h:P (Zj M j)):P (Zj (K0 M b l) j):=by
 unfold K0;split
 .have h2:∀id,P (Zj M id)->P (Qw (Vq M (JA M.T l)) id).q.l:=λid Q8=>by
   unfold Qw Vq;cases hf:Qh ((Kf M.T (JA M.T l)).foldl (JP (JA M.T l)) { M with T:=JA M.T l }).N id with
   | none=>exact h0
   | some n=>exact Qiy h0 _ id _ { M with T:=JA M.T l } (Qy4 h0 Q8) n hf
  unfold Zj Qw;show P ((Qh (Xc M (JA M.T l)) j).getD default).q.l;cases hf:Qh (Xc M (JA M.T l)) j with
  | none=>exact h0
  | some n=>
   have hm:n∈Xc M (JA M.T l):=kF hf;have hi:=vJ hf;obtain⟨k,hk,rfl⟩:=Z2.1 hm;have hj:k.iD=j\/(Qw (Vq M (JA M.T l)) k.iD).q.l=[]:=by
    by_cases e:(Qw (Vq M (JA M.T l)) k.iD).c.iD=k.iD
    .left;rw[<- e];simpa using hi
    .right;unfold Qw at e ⊢;cases zg:Qh (Vq M (JA M.T l)).N k.iD with
     | none=>rfl
     | some n=>
      rw[zg]at e;have:=vJ zg;exact absurd (by simpa using this) e
   rcases hj with rfl|hj
   .exact h2 _ h
   .show P (Qw (Vq M (JA M.T l)) k.iD).q.l;rw[hj];exact h0
 .exact h
def Qy5{r:ji}(h:r.Ok){a done}(hd:done<18446744073709551616)(bytes)(real:Bool):(ya r a done bytes real).Ok:=by
 obtain⟨h1,h2,h3,h4,h5⟩:=h;unfold ya;refine⟨X6 _ π,X6 _ π,?_,X6 _ π,?_⟩
 .dsimp only;split
  .exact X6 _ π
  .exact h3
 .dsimp only;omega
def LD(M:Qk)(now:Nat):(takeN M now).lk=M.lk:=Qip M now
def Qy6(M:Qk)(now:Nat):(takeN M now).Qf=M.Qf\/((takeN M now).Qf=now/\now<=4611686018427387904):=by
 unfold takeN;split
 .exact tM M _
 .rw[QyY];exact tM M _
def Qy7(M:Qk)(now)(cls)(x:Pk):(Jx M now cls x).Qf=M.Qf\/((Jx M now cls x).Qf=now/\now<=4611686018427387904):=by
 unfold Jx;split
 .rw[Qy0];exact tM M _
 .exact .inl rfl
def Qy8(M:Qk)(b)(l:List JN):(K0 M b l).Qf=M.Qf:=by
 unfold K0;split
 .exact(Lq _ _).2.2.2.1
 .rfl
def QiA{M:Qk}{now}{cls}{x:Pk}(h:km M now cls x=0):1<=x.len/\x.len<=M.lk.ZX:=by
 unfold km at h;split at h
 .have hl:(ZE M now).lk=M.lk:=fW M now;unfold Vx at h;split at h
  .cases h
  .split at h
   .cases h
   .split at h
    .cases h
    .rename_i h2;rw[hl]at h2;omega
 .cases h
def Qy9{s:Da}(h:(∀k,(s.rows k).Ok)/\∀k,∀a∈s.Jc k,a<18446744073709551616)(cls){done}(hd:done<18446744073709551616)(bytes)(real:Bool):(∀k,((YP s cls done bytes real).rows k).Ok)/\∀k,∀a∈(YP s cls done bytes real).Jc k,a<18446744073709551616:=by
 unfold YP;cases hc:s.Jc cls with
 | nil=>exact h
 | cons a l=>
  dsimp only;split
  .exact h
  .split
   .exact h
   .refine⟨λk=>?_,λk x hx=>?_⟩
    .dsimp only;split
     .exact Qy5 (h.1 k) hd _ _
     .exact h.1 k
    .dsimp only at hx;split at hx
     .rename_i e;exact h.2 cls x (by rw[hc];exact JR _ hx)
     .exact h.2 k x hx
def gh{c:Cf}(K:WM c){len}(h:1<=len/\len<=c.ZX):1<=YQ c len/\YQ c len<=1073741824:=by
 have h1:=K.t1;have h2:=K.t2;have h3:=K.l2;unfold YQ;have a1:1<=len.toNat:=ω;have a2:len.toNat<=16384:=ω;have a3:1<=c.t.toNat:=ω;have a4:c.t.toNat<=65536:=ω;exact⟨qC a1 a3,qC a2 a4⟩
def Jd.take_len{S:ZF}(T:Jd S){now:Nat}(h:Xt S.M now=true):1<=(Kh S.M now).len/\(Kh S.M now).len<=S.M.lk.ZX:=by
 obtain⟨x,l,h1,h2⟩:=fX T.I T.V h;rw[h2];exact T.len _ x (by rw[h1];exact J2)
def Jd.takeN{S:ZF}(T:Jd S):Jd { S with M:=takeN S.M S.Qf } where
 I:=T.I.takeN T.V _
 V:=T.V.takeN T.I _
 K:=by show WM (X.takeN S.M S.Qf).lk;rw[LD];exact T.K
 len:=λj x hx=>by
  have hx:x∈Zj (X.takeN S.M S.Qf) j:=hx;show 1<=x.len/\x.len<=(X.takeN S.M S.Qf).lk.ZX;rw[LD];rw[EV]at hx;split at hx
  .exact T.len j x (List.mem_of_mem_tail hx)
  .exact T.len j x hx
 mc:=by
  show (X.takeN S.M S.Qf).Qf<=S.Qf;have:=T.mc;rcases Qy6 S.M S.Qf with h|h<;>omega
 cl:=T.cl
 un:=T.un
 st:=T.st
 ca:=T.ca
def Jd.GZ{S:ZF}(T:Jd S)(op):Jd (Js S op S.Qf).1:=by
 unfold Js;split
 .exact T
 .split
  .rename_i h;have h1:=gh T.K (T.take_len h);have h2:=T.cl;have T2:=T.takeN;have h3:=Qy9 ⟨T.st,T.ca⟩ (Kq S.M S.Qf) (done:=S.Qf+YQ S.M.lk (Kh S.M S.Qf).len) ω (Kh S.M S.Qf).len (Yq S.M S.Qf);exact⟨T2.I,T2.V,T2.K,T2.len,T2.mc,T.cl,by dsimp only;omega,h3.1,h3.2⟩
  .exact T.takeN
def Jd.at_{S:ZF}(T:Jd S){e}(h1:S.Qf<=e)(h2:e<=4611686018427387904):Jd { S with Qf:=e }:=
 ⟨T.I,T.V,T.K,T.len,Ki T.mc h1,h2,T.un,T.st,T.ca⟩
def OH(S:ZF)(op now:Nat):(Js S op now).1.Qf=S.Qf/\(Js S op now).1.ops=S.ops/\(Js S op now).1.R=S.R:=by
 unfold Js;split
 .exact⟨rfl,rfl,rfl⟩
 .split<;>exact⟨rfl,rfl,rfl⟩
def gi(S:ZF)(h:S.Qf<=4611686018427387904):S.Qf<=Zs S:=by
 unfold Zs Af;omega
def Jd.go{op e}(he:e<=4611686018427387904):∀(n:Nat) {S:ZF},Jd S->S.Qf<=e->Jd (Vg op e n S).1
 | 0,S,T,h=>T.at_ h he
 | n+1,S,T,h=>by
  unfold Vg;split
  .exact T.at_ h he
  .rename_i h2;have T2:=(T.at_ (gi S T.cl) (show Zs S<=4611686018427387904 from ω)).GZ op;refine Jd.go he n T2 ?_;have:=(OH { S with Qf:=Zs S } op (Zs S)).1;rw[this];show Zs S<=e;omega
def Jd.put{S:ZF}(T:Jd S)(cls)(x):Jd { S with M:=Jx S.M S.Qf cls x } where
 I:=T.I.Jx T.V _ (by have:=T.cl;omega) _ _
 V:=T.V.Jx T.I _ (by have:=T.cl;omega) _ _
 K:=by show WM (Jx S.M S.Qf cls x).lk;rw[LC];exact T.K
 len:=λj y hy=>by
  have hy:y∈Zj (Jx S.M S.Qf cls x) j:=hy;show 1<=y.len/\y.len<=(Jx S.M S.Qf cls x).lk.ZX;rw[LC];rw[OF]at hy;split at hy
  .rename_i h;rcases QX.1 hy with h2|h2
   .exact T.len j y h2
   .simp only[q8]at h2;subst h2;exact QiA h.1
  .exact T.len j y hy
 mc:=by
  show (Jx S.M S.Qf cls x).Qf<=S.Qf;have:=T.mc;rcases Qy7 S.M S.Qf cls x with h|h<;>omega
 cl:=T.cl
 un:=T.un
 st:=T.st
 ca:=T.ca
def Jd.Jc{S:ZF}(T:Jd S)(cls)(a)(ha:a<18446744073709551616):Jd { S with st:=vw S.st cls a }:=
 ⟨T.I,T.V,T.K,T.len,T.mc,T.cl,T.un,T.st,λk b hb=>by
  have hb:b∈(if k=cls then S.st.Jc k++[a] else S.st.Jc k):=hb;split at hb
  .rcases QX.1 hb with h|h
   .exact T.ca k b h
   .simp only[q8]at h;omega
  .exact T.ca k b hb⟩
def Jd.change{S:ZF}(T:Jd S)(b){l}(hl:∀c∈l,JN.Ok c):Jd { S with M:=K0 S.M b l } where
 I:=T.I.K0 T.V b l hl
 V:=T.V.K0 T.I b l hl
 K:=by show WM (K0 S.M b l).lk;rw[OE];exact T.K
 len:=λj=>by
  show ∀x∈Zj (K0 S.M b l) j,1<=x.len/\x.len<=(K0 S.M b l).lk.ZX;rw[OE];exact Qiz (P:=λq=>∀x∈q,1<=x.len/\x.len<=S.M.lk.ZX) (λx hx=>by cases hx) b l (T.len j)
 mc:=by show (K0 S.M b l).Qf<=S.Qf;rw[Qy8];exact T.mc
 cl:=T.cl
 un:=T.un
 st:=T.st
 ca:=T.ca
def Jd.one{S}(T:Jd S)(op){o:ZV}(ho:∀c∈o.changes,JN.Ok c):Jd (VX S op o).S:=by
 unfold VX;split
 .exact T.change _ ho
 .split
  .split
   .exact⟨T.I,T.V,T.K,T.len,T.mc,T.cl,T.un,T.st,T.ca⟩
   .exact T
  .split
   .unfold YR;split
    .exact T
    .split
     .exact Jd.GZ (S:={ S with M:=Jx S.M S.Qf (Kr S.R (ZR o.ZI)) o.ZI,st:=vw S.st (Kr S.R (ZR o.ZI)) S.Qf }) ((T.put _ _).Jc _ _ (by have:=T.cl;show S.Qf<_;omega)) op
     .exact T.put _ _
   .split
    .unfold qZ;split
     .exact T
     .have:=T.cl;exact T.go ω _ ω
    .exact T
def Jd.ops{S}(T:Jd S)(n):Jd { S with ops:=n }:=⟨T.I,T.V,T.K,T.len,T.mc,T.cl,T.un,T.st,T.ca⟩
def Jd.do{S}(T:Jd S){o:ZV}(ho:∀c∈o.changes,JN.Ok c):Jd (JM S o).S:=(T.ops _).one _ ho
def QiB(op e):∀(n:Nat) (S:ZF),(Vg op e n S).1.ops=S.ops/\(Vg op e n S).1.Qf=e
 | 0,S=>⟨rfl,rfl⟩
 | n+1,S=>by
  unfold Vg;split
  .exact⟨rfl,rfl⟩
  .obtain⟨h1,h2⟩:=QiB op e n (Js { S with Qf:=Zs S } op (Zs S)).1;exact⟨h1.trans (OH _ _ _).2.1,h2⟩
def Qza(S:ZF)(op)(o:ZV):(VX S op o).S.ops=S.ops:=by
 unfold VX;split
 .rfl
 .split
  .split<;>rfl
  .split
   .unfold YR;split
    .rfl
    .split
     .exact(OH _ _ _).2.1
     .rfl
   .split
    .unfold qZ;split
     .rfl
     .exact(QiB _ _ _ _).1
    .rfl
def QiC(S:ZF)(o:ZV):(JM S o).S.ops=S.ops+1:=Qza _ _ _
def ahead(hi:Int):Int->List Ev->Prop
 | _,[]=>True
 | a,v::l=>a<=v.at_/\v.at_<=hi/\(v.J8=true->v.done=0)/\(v.J8=false->v.at_<v.done)/\ahead hi v.at_ l
def Qzb{S}(T:Jd S)(op){e}(he:e<=4611686018427387904)(h:Zs S<=e):
  Jd (Js { S with Qf:=Zs S } op (Zs S)).1/\VR (Js { S with Qf:=Zs S } op (Zs S)).1.M+1=VR S.M/\S.Qf<=Zs S/\(Js { S with Qf:=Zs S } op (Zs S)).1.Qf=Zs S:=by
 obtain⟨h1,h2,h3⟩:=Qy3 T.I T.V (until_:=S.XI) T.mc he h;have T2:=(T.at_ (gi S T.cl) (show Zs S<=4611686018427387904 from ω));refine⟨T2.GZ op,?_,h3,(OH _ _ _).1⟩;have h1:Xt S.M (Zs S)=true:=h1;have h2:S.XI<=Zs S:=h2;unfold Js;rw[Qc (show ¬Zs S<S.XI from ω)];show VR (if Xt S.M (Zs S)=true then _ else _:ZF × List Ev).1.M+1=VR S.M;rw[Qd h1];exact Qy2 T.I T.V h1
structure QGk (S:ZF) (D:OG):Prop where
 next:D.S.Qf<Zs D.S
 Qf:S.Qf<=D.S.Qf
 ev:ahead D.S.Qf S.Qf D.l
def qz(r:JT):Bool:=r.yI==65535&&(r.yJ==65535&&(r.DV==65535&&r.Cg==65535))
def TH(n:Int):Prop:=0<=n/\n<65536
def gj{a}(h:TH a):vz a 65535=a:=by
 obtain⟨n,rfl⟩:∃n:Nat,a=n:=⟨a.toNat,by have:=h.1;omega⟩;have hn:n<65536:=by have:=h.2;omega
 have h1:(BitVec.ofInt 16 (n:Int)).toNat=n:=by
  rw[BitVec.ofInt_natCast,BitVec.toNat_ofNat];exact jq ω
 show IntKind.u16.wrap ((BitVec.ofInt 16 (n:Int) &&& BitVec.ofInt 16 65535).toNat:Int)=_;rw[BitVec.toNat_and,h1,show (BitVec.ofInt 16 65535).toNat=2 ^ 16 - 1 from rfl,Nat.and_two_pow_sub_one_eq_mod];rw[show IntKind.u16.wrap ((n % 2 ^ 16:Nat):Int)=((n % 2 ^ 16:Nat):Int) % 65536 by simp[IntKind.wrap,IntKind.bits,IntKind.signed]];omega
def JB(R:List JT)(i:Nat):JT:=R.getD i default
def tN(p:JT->Bool):∀(R:List JT) (i:Nat),i<R.length->p (JB R i)=true->(∀j,j<i->p (JB R j)=false)->R.find? p=some (JB R i)
 | [],i,hi,_,_=>by simp at hi
 | r::R,0,hi,hp,_=>by
  have hp:p r=true:=hp;rw[jl,hp];rfl
 | r::R,i+1,hi,hp,hn=>by
  have h0:p r=false:=hn 0 ω;rw[jl,h0];exact tN p R i (by simpa using hi) hp λj hj=>hn (j+1) ω
def QiD(p:JT->Bool):∀(R:List JT),(∀j,j<R.length->p (JB R j)=false)->R.find? p=none
 | [],_=>rfl
 | r::R,hn=>by
  have h0:p r=false:=hn 0 σ;rw[jl,h0];exact QiD p R λj hj=>hn (j+1) (by simpa using hj)
structure Yr (R:List JT) (n:Nat) (es:List Xi) (ms:List Nat):Prop where
 yes:∀k d,WT es k=some d->∃i:Nat,d=Qa i/\i<n/\qz (JB R i)=true/\(JB R i).want=k/\∀j,j<i->¬(qz (JB R j)=true/\(JB R j).want=k)
 no:∀k,WT es k=none->∀j,j<n->¬(qz (JB R j)=true/\(JB R j).want=k)
 mem:∀j,j∈ms↔j<n/\qz (JB R j)=false
 inc:ms.Pairwise (·<·)
 four:∀e∈es,e.k.length=4
def Yr.nil(R:List JT):Yr R 0 [] []:=⟨λk d h=>(by cases h),λk h j hj=>absurd hj (WZ j),λj=>σ,.nil,λe h=>(by cases h)⟩
def tO:∀(es:List Xi) (e:Xi) (k:List Int),WT (es++[e]) k=match WT es k with
  | some d=>some d
  | none=>if e.k=k then some e.v else none
 | [],e,k=>by simp[WT]
 | x::es,e,k=>by
  simp only[YT,WT];split
  .rfl
  .exact tO es e k
def Yr.mask{R}{n}{es}{ms}(T:Yr R n es ms)(h:qz (JB R n)=false):Yr R (n+1) es (ms++[n]) where
 yes:=λk d hd=>by
  obtain⟨i,h1,h2,h3⟩:=T.yes k d hd;exact⟨i,h1,ω,h3⟩
 no:=λk hk j hj=>by
  rcases vM.1 hj with h1|rfl
  .exact T.no k hk j h1
  .exact λh2=>by rw[h]at h2;cases h2.1
 mem:=λj=>by
  rw[QX,T.mem j,q8];constructor
  .rintro (h1|rfl)
   .exact⟨ω,h1.2⟩
   .exact⟨ω,h⟩
  .rintro⟨h1,h2⟩;rcases vM.1 h1 with h3|rfl
   .exact .inl ⟨h3,h2⟩
   .exact .inr rfl
 inc:=by
  rw[Uq];exact⟨T.inc,List.pairwise_singleton _ _,λa ha b hb=>by
   simp only[q8]at hb;have:=((T.mem a).1 ha).1;omega⟩
 four:=T.four
def Yr.QiE{R}{n}{es}{ms}(T:Yr R n es ms)(h:qz (JB R n)=true):∀j,j∈ms↔j<n+1/\qz (JB R j)=false:=λj=>by
 rw[T.mem j];constructor
 .rintro⟨h1,h3⟩;exact⟨ω,h3⟩
 .rintro⟨h1,h3⟩;rcases vM.1 h1 with h4|rfl
  .exact⟨h4,h3⟩
  .rw[h]at h3;cases h3
def Yr.there{R}{n:Nat}{es}{ms}(T:Yr R n es ms)(h:qz (JB R n)=true)(h2:(WT es (JB R n).want).isSome=true):Yr R (n+1) es ms where
 yes:=λk d hd=>by
  obtain⟨i,h1,h2,h3⟩:=T.yes k d hd;exact⟨i,h1,ω,h3⟩
 no:=λk hk j hj=>by
  rcases vM.1 hj with h1|rfl
  .exact T.no k hk j h1
  .exact λh3=>by rw[h3.2,hk]at h2;cases h2
 mem:=T.QiE h
 inc:=T.inc
 four:=T.four
def Yr.new{R}{n:Nat}{es}{ms}(T:Yr R n es ms)(h:qz (JB R n)=true)(h2:WT es (JB R n).want=none)(c):Yr R (n+1) (es++[⟨(JB R n).want,Qa n,c⟩]) ms where
 yes:=λk d hd=>by
  rw[tO]at hd;cases hk:WT es k with
  | some d2=>
   rw[hk]at hd;cases hd;obtain⟨i,h1,h2,h3⟩:=T.yes k d hk;exact⟨i,h1,ω,h3⟩
  | none=>
   rw[hk]at hd;dsimp only at hd;split at hd
   .rename_i e;cases hd;exact⟨n,rfl,ω,h,e,λj hj=>T.no k hk j hj⟩
   .cases hd
 no:=λk hk j hj=>by
  rw[tO]at hk;cases Jf:WT es k with
  | some d2=>rw[Jf]at hk;cases hk
  | none=>
   rw[Jf]at hk;dsimp only at hk;split at hk
   .cases hk
   .rename_i e;rcases vM.1 hj with h1|rfl
    .exact T.no k Jf j h1
    .exact λh3=>e h3.2
 mem:=(T.QiE h)
 inc:=T.inc
 four:=λe he=>by
  rcases QX.1 he with h1|h1
  .exact T.four e h1
  .simp only[q8]at h1;subst h1;rfl
def Qmg(x:Pk):Prop:=TH x.wc/\TH x.wg/\TH x.wh/\TH x.wi
def gl{r:JT}{x}(hx:Qmg x)(h:qz r=true):qY r (ZR x)=(r.want==ZR x):=by
 unfold qz at h;simp only[Zy,jr]at h;obtain⟨h0,h1,h2,h3⟩:=h;unfold qY TG ZR JT.mask;rw[h0,h1,h2,h3];simp only[List.zipWith_cons_cons,List.zipWith_nil_right,gj hx.1,gj hx.2.1,gj hx.2.2.1,gj hx.2.2.2];rw[vG];simp only[jr];exact eq_comm
section
variable {R:List JT}{es:List Xi}{ms:List Nat}(T:Yr R R.length es ms){x:Pk}(hx:Qmg x)
include T hx
theorem Yr.Xh{i}(hi:i<R.length)(hw:qz (JB R i)=false)(hm:qY (JB R i) (ZR x)=true)(ZP:∀j∈ms,j<i->qY (JB R j) (ZR x)=false)
  (Kz:∀a:Nat,WT es (ZR x)=some (Qa a)->¬a<i):R.find? (λr=>qY r (ZR x))=some (JB R i):=
 tN _ R i hi hm λj hj=>by
  cases V5:qz (JB R j) with
  | false=>exact ZP j ((T.mem j).2 ⟨ω,V5⟩) hj
  | true=>
   rw[gl hx V5,zL];intro e;cases hl:WT es (ZR x) with
   | none=>exact T.no _ hl j ω ⟨V5,e⟩
   | some d=>
    obtain⟨a,rfl,h1,h2,h3,h4⟩:=T.yes _ _ hl;have:=Kz a hl;exact h4 j ω ⟨V5,e⟩
theorem Yr.whole{a:Nat}(ha:WT es (ZR x)=some (Qa a))(ZP:∀j∈ms,j<a->qY (JB R j) (ZR x)=false):a<R.length/\R.find? (λr=>qY r (ZR x))=some (JB R a):=by
 obtain⟨i,e,h1,h2,h3,h4⟩:=T.yes _ _ ha;have e:a=i:=by
  unfold Qa at e;simp only[D.raw.injEq,Value.int.injEq,vO]at e;omega
 subst e;refine⟨h1,tN _ R a h1 (by rw[gl hx h2,h3];simp) λj hj=>?_⟩;cases V5:qz (JB R j) with
 | false=>exact ZP j ((T.mem j).2 ⟨ω,V5⟩) hj
 | true=>
  rw[gl hx V5,zL];exact λe=>h4 j hj ⟨V5,e⟩
theorem Yr.none(hl:WT es (ZR x)=Option.none)(ZP:∀j∈ms,qY (JB R j) (ZR x)=false):R.find? (λr=>qY r (ZR x))=Option.none:=
 QiD _ R λj hj=>by
  cases V5:qz (JB R j) with
  | false=>exact ZP j ((T.mem j).2 ⟨hj,V5⟩)
  | true=>
   rw[gl hx V5,zL];exact λe=>T.no _ hl j hj ⟨V5,e⟩
end
@[go_sem] def ji.cells(r:ji):List D:=[u64 r.p,u64 r.b,u64 r.r,u64 r.w,u64 r.l]
@[go_sem] def zD(a b c d Qf ops:Nat):Ob:=⟨.one,0,6,1,λ_=>[.ptr a 0 0 0,.ptr b 0 0 0,.ptr c 0 0 0,.ptr d 0 0 0,u64 Qf,Qa ops]⟩
@[go_sem] def zE(a b c:Nat)(t:Int)(u:Nat):Ob:=⟨.one,0,5,1,λ_=>[u64 a,u64 b,u64 c,Qa t,u64 u]⟩
@[go_sem] def tP(c r:Nat):Ob:=⟨.one,0,2,1,λ_=>[.mref c 0,.mref r 0]⟩
@[go_sem] def LF(d:D)(e:Nat)(m:D):Ob:=⟨.one,0,3,1,λ_=>[d,.mref e 0,m]⟩
inductive TT where
 | no|sys|ln|tab|st|my
deriving DecidableEq
def Z4(tw:Nat->TT)(h:List Ob)(t:TT):Nat->TT:=λl=>if h.length<=l then t else tw l
def Vh{tw}{h:List Ob}{t}{l}(hl:l<h.length):Z4 tw h t l=tw l:=by unfold Z4;rw[Qc ω]
def EW{tw}{h:List Ob}{t}{l}(hl:h.length<=l):Z4 tw h t l=t:=by unfold Z4;rw[Qd hl]
def jj{own}{h:List Ob}{t}{l}(hl:h.length<=l):QV own h t l=t:=by unfold QV;rw[Qd hl]
def zF{α:Type}[Inhabited α](S:Nat->Prop)(h:List Ob)(sz:Nat)(f:α->List D)(d:D)(l:List α):Prop:=
 (d=.nil/\l=[])\/∃lo g row,d=.ref lo g 0 l.length/\S lo/\h[lo]? = some ⟨.arr,g,sz,l.length,row⟩/\∀i,i<l.length->row i=f (l.getD i default)
def zF.step{α:Type}[Inhabited α]{S S':Nat->Prop}{h h':List Ob}{sz:Nat}{f:α->List D}{d:D}{l:List α}(e:∀j,j<h.length->S j->S' j/\h'[j]? = h[j]?):zF S h sz f d l->zF S' h' sz f d l:=λH=>
 H.imp id λ⟨lo,g,row,h1,h2,h3,h4⟩=>⟨lo,g,row,h1,(e lo (Qb h3) h2).1,by rw[(e lo (Qb h3) h2).2];exact h3,h4⟩
def LG(S:Nat->Prop)(h:List Ob)(d:D)(l:List Nat):Prop:=
 (d=.nil/\l=[])\/∃lo g off row,d=.ref lo g off l.length/\S lo/\h[lo]? = some ⟨.arr,g,1,off+l.length,row⟩/\∀i,i<l.length->row (off+i)=[u64 (l.getD i 0)]
def LG.step{S S'}{h h':List Ob}{d}{l}(e:∀j,j<h.length->S j->S' j/\h'[j]? = h[j]?):LG S h d l->LG S' h' d l:=λH=>
 H.imp id λ⟨lo,g,off,row,h1,h2,h3,h4⟩=>⟨lo,g,off,row,h1,(e lo (Qb h3) h2).1,by rw[(e lo (Qb h3) h2).2];exact h3,h4⟩
def LG.nil{S}{h}{l}(H:LG S h .nil l):l=[]:=by
 rcases H with h1|⟨_,_,_,_,h1,_⟩
 .exact h1.2
 .cases h1
structure EX (S:Nat->Prop) (h:List Ob) (p cm rm c1:Nat) (Zx:List Zt) (c2:Nat) (Z1:List Zt) (s:Da):Prop where
 o:h[p]? = some (tP cm rm)
 co:h[cm]? = some (QK .i64 c1 Zx)
 ro:h[rm]? = some (QK .i64 c2 Z1)
 ne:cm≠rm
 sp:S p
 sc:S cm
 sr:S rm
 ca:∀k,LG S h ((ZL Zx k).getD .nil) (s.Jc k)
 sep:∀k k' lo g off n g' vQ n',ZL Zx k=some (.ref lo g off n)->ZL Zx k'=some (.ref lo g' vQ n')->k=k'
 rw_:∀k,(ZL Z1 k).getD (.agg (default:ji).cells)=.agg (s.rows k).cells
def YS(S:Nat->Prop)(h:List Ob)(p:Nat)(s:Da):Prop:=∃cm rm c1 Zx c2 Z1,EX S h p cm rm c1 Zx c2 Z1 s
def EX.step{S S'}{h h':List Ob}{p cm rm c1}{Zx}{c2}{Z1}{s}(e:∀j,j<h.length->S j->S' j/\h'[j]? = h[j]?)(T:EX S h p cm rm c1 Zx c2 Z1 s):EX S' h' p cm rm c1 Zx c2 Z1 s:=
 have k:∀l o,S l->h[l]? = some o->S' l/\h'[l]? = some o:=λl o h1 h2=>⟨(e l (Qb h2) h1).1,(e l (Qb h2) h1).2.trans h2⟩
 ⟨(k _ _ T.sp T.o).2,(k _ _ T.sc T.co).2,(k _ _ T.sr T.ro).2,T.ne,(k _ _ T.sp T.o).1,(k _ _ T.sc T.co).1,(k _ _ T.sr T.ro).1,λj=>(T.ca j).step e,T.sep,T.rw_⟩
def YS.step{S S'}{h h':List Ob}{p}{s}(e:∀j,j<h.length->S j->S' j/\h'[j]? = h[j]?):YS S h p s->YS S' h' p s:=λ⟨a,b,c,d,f,g,T⟩=>⟨a,b,c,d,f,g,T.step e⟩
structure tQ (S:Nat->Prop) (h:List Ob) (p:Nat) (dr:D) (le:Nat) (dm:D) (c:Nat) (es:List Xi) (ms:List Nat) (R:List JT):Prop where
 o:h[p]? = some (LF dr le dm)
 eo:h[le]? = some (kQ c es)
 rs:zF S h 9 JT.cells dr R
 mo:zF S h 1 (λi:Nat=>[Qa i]) dm ms
 sp:S p
 se:S le
 I:Yr R R.length es ms
 ok:qy R=0
def G1(S:Nat->Prop)(h:List Ob)(p:Nat)(R:List JT):Prop:=∃dr le dm c es ms,tQ S h p dr le dm c es ms R
def G1.step{S S'}{h h':List Ob}{p}{R}(e:∀j,j<h.length->S j->S' j/\h'[j]? = h[j]?):G1 S h p R->G1 S' h' p R:=λ⟨dr,le,dm,c,es,ms,T⟩=>
 have k:∀l o,S l->h[l]? = some o->S' l/\h'[l]? = some o:=λl o h1 h2=>⟨(e l (Qb h2) h1).1,(e l (Qb h2) h1).2.trans h2⟩
 ⟨dr,le,dm,c,es,ms,(k _ _ T.sp T.o).2,(k _ _ T.se T.eo).2,T.rs.step e,T.mo.step e,(k _ _ T.sp T.o).1,(k _ _ T.se T.eo).1,T.I,T.ok⟩
structure Wq (own:Nat->Tag) (tw:Nat->TT) (h:List Ob) (p ps pl pr pt:Nat) (S:ZF):Prop where
 o:h[p]? = some (zD ps pl pr pt S.Qf S.ops)
 tp:tw p=.sys
 co:zC own h ps S.M
 ln:∃a b c,h[pl]? = some (zE a b c S.M.lk.t S.XI)
 tl:tw pl=.ln
 tb:G1 (λl=>tw l=.tab) h pr S.R
 st:YS (λl=>tw l=.st) h pt S.st
 ap:∀l,tw l≠.no->own l=.no
def Wr(own:Nat->Tag)(tw:Nat->TT)(h:List Ob)(p:Nat)(S:ZF):Prop:=∃ps pl pr pt,Wq own tw h p ps pl pr pt S
def gp(own:Nat->Tag)(tw:Nat->TT)(h:List Ob)(own':Nat->Tag)(Jg:Nat->TT)(h':List Ob):Prop:=
 ∀l,l<h.length->(Live (own l)->own' l=own l/\h'[l]? = h[l]?)/\(tw l≠.no->tw l≠.my->Jg l=tw l/\h'[l]? = h[l]?)
def Wq.step{own own'}{tw Jg}{h h'}{p ps pl pr pt}{S}(T:Wq own tw h p ps pl pr pt S)(e:gp own tw h own' Jg h')(ap:∀l,Jg l≠.no->own' l=.no):Wq own' Jg h' p ps pl pr pt S:=by
 have k:∀l o t,tw l=t->t≠.no/\t≠.my->h[l]? = some o->Jg l=t/\h'[l]? = some o:=λl o t h1 h2 h3=>by
  obtain⟨a,b⟩:=(e l (Qb h3)).2 (by rw[h1];exact h2.1) (by rw[h1];exact h2.2);exact⟨by rw[a,h1],b.trans h3⟩
 have s:∀t,t≠.no/\t≠.my->∀l,l<h.length->tw l=t->Jg l=t/\h'[l]? = h[l]? := λt h2 l hl h1=>by
  obtain⟨a,b⟩:=(e l hl).2 (by rw[h1];exact h2.1) (by rw[h1];exact h2.2);exact⟨by rw[a,h1],b⟩
 obtain⟨a,b,c,hl⟩:=T.ln;exact⟨(k _ _ _ T.tp σ T.o).2,(k _ _ _ T.tp σ T.o).1,T.co.step λl hl hv=>(e l hl).1 hv,⟨a,b,c,(k _ _ _ T.tl σ hl).2⟩,(k _ _ _ T.tl σ hl).1,T.tb.step (s _ σ),T.st.step (s _ σ),ap⟩
structure Jo (n:Nat) (own:Nat->Tag) (tw:Nat->TT) (h:List Ob) (own':Nat->Tag) (Jg:Nat->TT) (h':List Ob):Prop where
 s1:∀l,l<h.length->own' l=own l
 s2:∀l,l<h.length->Jg l=tw l
 keep:∀l,l<n->own l=Tag.no->tw l=TT.no->h'[l]? = h[l]?
 my:∀l,l<h.length->tw l=TT.my->h'[l]? = h[l]?
 len:h.length<=h'.length
def Jo.refl(n)(own)(tw:Nat->TT)(h):Jo n own tw h own tw h:=⟨λ_ _=>rfl,λ_ _=>rfl,λ_ _ _ _=>rfl,λ_ _ _=>rfl,QB _⟩
def Jo.trans{n}{own own' SW}{tw Jg QiF}{h h' Yt:List Ob}(hn:n<=h.length)(a:Jo n own tw h own' Jg h')(b:Jo n own' Jg h' SW QiF Yt):Jo n own tw h SW QiF Yt:=
 ⟨λl hl=>(b.s1 l (kG hl a.len)).trans (a.s1 l hl),λl hl=>(b.s2 l (kG hl a.len)).trans (a.s2 l hl),
  λl hl h1 h2=>(b.keep l hl ((a.s1 l (kG hl hn)).trans h1) ((a.s2 l (kG hl hn)).trans h2)).trans (a.keep l hl h1 h2),λl hl h1=>(b.my l (kG hl a.len) ((a.s2 l hl).trans h1)).trans (a.my l hl h1),Ki a.len b.len⟩
def Jo.core{n}{own own'}{tw}{h h':List Ob}(ap:∀l,tw l≠.no->own l=.no)(hn:n<=h.length)(D:Zo own h own' h'):Jo n own tw h own' (Z4 tw h .no) h':=
 ⟨D.same,λl hl=>Vh hl,λl hl h1 _=>D.keep l ω h1,λl hl h1=>D.keep l hl (ap l (by rw[h1];simp)),D.len⟩
def Wq.core{own own'}{tw}{h h'}{p ps pl pr pt}{S:ZF}(T:Wq own tw h p ps pl pr pt S)(D:Zo own h own' h'){M:Qk}(C:zC own' h' ps M)(hk:M.lk=S.M.lk):Wq own' (Z4 tw h .no) h' p ps pl pr pt { S with M:=M }:=by
 have k:∀l o t,tw l=t->t≠.no->h[l]? = some o->Z4 tw h .no l=t/\h'[l]? = some o:=λl o t h1 h2 h3=>
  ⟨by rw[Vh (Qb h3),h1],(D.keep l (Qb h3) (T.ap l (by rw[h1];exact h2))).trans h3⟩
 have s:∀t,t≠.no->∀l,l<h.length->tw l=t->Z4 tw h .no l=t/\h'[l]? = h[l]? := λt h2 l hl h1=>
  ⟨by rw[Vh hl,h1],D.keep l hl (T.ap l (by rw[h1];exact h2))⟩
 obtain⟨a,b,c,hl⟩:=T.ln;refine⟨(k _ _ _ T.tp σ T.o).2,(k _ _ _ T.tp σ T.o).1,C,⟨a,b,c,?_⟩,(k _ _ _ T.tl σ hl).1,T.tb.step (s _ σ),T.st.step (s _ σ),λl hl=>?_⟩
 .show h'[pl]? = some (zE a b c M.lk.t S.XI);rw[hk];exact(k _ _ _ T.tl σ hl).2
 .by_cases h1:l<h.length
  .rw[Vh h1]at hl;rw[D.same l h1];exact T.ap l hl
  .rw[EW ω]at hl;exact absurd rfl hl
def Wq.app{own}{tw}{h}{p ps pl pr pt}{S}(T:Wq own tw h p ps pl pr pt S)(g):Wq (QV own h .no) (Z4 tw h .no) (h++g) p ps pl pr pt S:=
 T.core (Zo.app own h g .no) (T.co.N8 g) rfl
def Jo.app{n}(own)(tw:Nat->TT)(h g:List Ob)(t:TT)(hn:n<=h.length):Jo n own tw h (QV own h .no) (Z4 tw h t) (h++g):=
 ⟨λl hl=>Kg hl,λl hl=>Vh hl,λl hl _ _=>QG ω,λl hl _=>QG hl,σ⟩
def Wq.BG{own}{tw}{h}{p ps pl pr pt}{S}(T:Wq own tw h p ps pl pr pt S)(g):Wq (QV own h .no) (Z4 tw h .my) (h++g) p ps pl pr pt S:=
 T.step (λl hl=>⟨λ_=>⟨Kg hl,QG hl⟩,λ_ _=>⟨Vh hl,QG hl⟩⟩) λl hl=>by
  by_cases h1:l<h.length
  .rw[Vh h1]at hl;rw[Kg h1];exact T.ap l hl
  .exact jj ω
def Wq.loc{own}{tw}{h:List Ob}{p ps pl pr pt}{S}(T:Wq own tw h p ps pl pr pt S){l}(h1:own l=.no)(h2:tw l=.no\/tw l=.my)(o):Wq own tw (h.set l o) p ps pl pr pt S:=
 T.step (λj _=>⟨λhj=>⟨rfl,Qr (λe=>hj.1 (by rw[<- e,h1]))⟩,λhj hm=>⟨rfl,Qr (λe=>h2.elim (λh3=>hj (by rw[<- e,h3])) (λh3=>hm (by rw[<- e,h3])))⟩⟩) T.ap
def Wq.part{own}{tw}{h h'}{p ps pl pr pt}{S}(T:Wq own tw h p ps pl pr pt S){t}(ht:t≠.no)(s:Step (λl=>tw l=t) h h'):
  zC (QV own h .no) h' ps S.M/\(∀u,u≠.no->u≠t->∀l,l<h.length->tw l=u->Z4 tw h t l=u/\h'[l]? = h[l]?)/\(∀l,Z4 tw h t l≠.no->QV own h .no l=.no):=by
 refine⟨T.co.step λl hl hv=>⟨Kg hl,s.keep l hl λe=>hv.1 (T.ap l (by rw[e];exact ht))⟩,λu hu hn l hl h1=>⟨by rw[Vh hl,h1],s.keep l hl λe=>hn (by rw[<- h1,e])⟩,λl hl=>?_⟩;by_cases h1:l<h.length
 .rw[Vh h1]at hl;rw[Kg h1];exact T.ap l hl
 .exact jj ω
def Jo.part{n}{own}{tw}{h h':List Ob}{t}(ht:t≠.no/\t≠.my)(hn:n<=h.length)(s:Step (λl=>tw l=t) h h'):Jo n own tw h (QV own h .no) (Z4 tw h t) h':=
 ⟨λl hl=>Kg hl,λl hl=>Vh hl,λl hl _ h2=>s.keep l ω λe=>ht.1 (by rw[<- e,h2]),λl hl h2=>s.keep l hl λe=>ht.2 (by rw[<- e,h2]),s.len⟩
def Qzc{tw}{h}{t}(l):more (λl=>tw l=t) h l->Z4 tw h t l=t:=λhl=>by
 unfold Z4;split
 .rfl
 .rcases hl with hl|hl
  .exact hl
  .omega
section
variable {own:Nat->Tag}{tw:Nat->TT}{h h':List Ob}{p ps pl pr pt:Nat}{S:ZF}(T:Wq own tw h p ps pl pr pt S)
include T
theorem Wq.link{u a b c}(s:Step (λl=>tw l=.ln) h h')(hl:h'[pl]? = some (zE a b c S.M.lk.t u)):Wq (QV own h .no) (Z4 tw h .ln) h' p ps pl pr pt { S with XI:=u }:=by
 obtain⟨C,r,ap⟩:=T.part σ s;have k:∀l o t,tw l=t->t≠.no->t≠.ln->h[l]? = some o->Z4 tw h .ln l=t/\h'[l]? = some o:=λl o t h1 h2 h3 h4=>by
  obtain⟨a,b⟩:=r t h2 h3 l (Qb h4) h1;exact⟨a,b.trans h4⟩
 obtain⟨_,_,_,ql⟩:=T.ln;exact⟨(k _ _ _ T.tp σ σ T.o).2,(k _ _ _ T.tp σ σ T.o).1,C,⟨a,b,c,hl⟩,by rw[Vh (Qb ql)];exact T.tl,T.tb.step (r _ σ σ),T.st.step (r _ σ σ),ap⟩
theorem Wq.stat{st}(s:Step (λl=>tw l=.st) h h')(hs:YS (more (λl=>tw l=.st) h) h' pt st):Wq (QV own h .no) (Z4 tw h .st) h' p ps pl pr pt { S with st:=st }:=by
 obtain⟨C,r,ap⟩:=T.part σ s;have k:∀l o t,tw l=t->t≠.no->t≠.st->h[l]? = some o->Z4 tw h .st l=t/\h'[l]? = some o:=λl o t h1 h2 h3 h4=>by
  obtain⟨a,b⟩:=r t h2 h3 l (Qb h4) h1;exact⟨a,b.trans h4⟩
 obtain⟨a,b,c,hl⟩:=T.ln;exact⟨(k _ _ _ T.tp σ σ T.o).2,(k _ _ _ T.tp σ σ T.o).1,C,⟨a,b,c,(k _ _ _ T.tl σ σ hl).2⟩,(k _ _ _ T.tl σ σ hl).1,T.tb.step (r _ σ σ),hs.step λl _ hl=>⟨Qzc l hl,rfl⟩,ap⟩
theorem Wq.clock(c o):Wq own tw (h.set p (zD ps pl pr pt c o)) p ps pl pr pt { S with Qf:=c,ops:=o }:=by
 have k:∀l x t,tw l=t->t≠.sys->h[l]? = some x->(h.set p (zD ps pl pr pt c o))[l]? = some x:=λl x t h1 h2 h3=>by
  rw[Qr (λe=>h2 (by rw[<- h1,<- e,T.tp]))];exact h3
 have s:∀t,t≠.sys->∀l,l<h.length->tw l=t->tw l=t/\(h.set p (zD ps pl pr pt c o))[l]? = h[l]? := λt h2 l hl h1=>
  ⟨h1,Qr (λe=>h2 (by rw[<- h1,<- e,T.tp]))⟩
 obtain⟨a,b,d,hl⟩:=T.ln;exact⟨QE (Qb T.o),T.tp,T.co.step λl _ hv=>⟨rfl,Qr (λe=>hv.1 (T.ap l (by rw[<- e,T.tp];simp)))⟩,⟨a,b,d,k _ _ _ T.tl σ hl⟩,T.tl,T.tb.step (s _ σ),T.st.step (s _ σ),T.ap⟩
theorem Wq.rules{g}{TJ}{R}(hb:G1 (λl=>h.length<=l) (h++g) TJ R):
  Wq (QV own h .no) (Z4 tw h .tab) ((h++g).set p (zD ps pl TJ pt S.Qf S.ops)) p ps pl TJ pt { S with R:=R }:=by
 have hp:=Qb T.o;have k:∀l x t,tw l=t->t≠.no->t≠.sys->h[l]? = some x->Z4 tw h .tab l=t/\((h++g).set p (zD ps pl TJ pt S.Qf S.ops))[l]? = some x:=λl x t h1 h2 h3 h4=>by
  refine⟨by rw[Vh (Qb h4),h1],?_⟩;rw[Qr (λe=>h3 (by rw[<- h1,<- e,T.tp])),QG (Qb h4)];exact h4
 have s:∀t,t≠.no->t≠.sys->∀l,l<h.length->tw l=t->Z4 tw h .tab l=t/\((h++g).set p (zD ps pl TJ pt S.Qf S.ops))[l]? = h[l]? := λt h2 h3 l hl h1=>
  ⟨by rw[Vh hl,h1],by rw[Qr (λe=>h3 (by rw[<- h1,<- e,T.tp])),QG hl]⟩
 obtain⟨a,b,d,hl⟩:=T.ln;refine⟨QE ξ,by rw[Vh hp];exact T.tp,T.co.step λl hl hv=>⟨Kg hl,by rw[Qr (λe=>hv.1 (T.ap l (by rw[<- e,T.tp];simp))),QG hl]⟩,⟨a,b,d,(k _ _ _ T.tl σ σ hl).2⟩,(k _ _ _ T.tl σ σ hl).1,
  hb.step λl hl h1=>⟨EW h1,Qr (λe=>ω)⟩,T.st.step (s _ σ σ),λl hl=>?_⟩
 by_cases h1:l<h.length
 .rw[Vh h1]at hl;rw[Kg h1];exact T.ap l hl
 .exact jj ω
end
@[go_sem] def TL(n:Int):D:=.raw (.int .u64 n)
def gq(n m):QW prog 294 [Qa n,Qa m] (QN (QT (decide (1<=n/\n<=m)))):=by
 refine xT 0 func294 ntmps294 results294 λbase w hb=>?_;simp only[go_sem];first|refine QfZ (λh=>?_) (λh=>?_)|refine Qf0 (λh=>?_) (λh=>?_)|refine QgF (λh=>?_) (λh=>?_)|refine YA (λh=>?_) (λh=>?_)|refine QgM (λh=>?_) (λh=>?_)|refine Qhb (λh=>?_) (λh=>?_)|refine F5 (λh=>?_) (λh=>?_)|refine FW (λh=>?_) (λh=>?_)
 all_goals (simp only[go_sem];congr 2;rw[vG];simp only[XL,q7,false_iff];omega)
def kx(p:Pk)(m:Int):Int:=if ¬(1<=m/\m<=16384) then 1 else if ¬ (1<=p.len/\p.len<=m) then 26 else 0
def Qzd(p:Pk)(m):QW prog 242 [.agg p.cells,Qa m] (QN (Qa (kx p m))):=by
 refine xT 0 func242 ntmps242 results242 λbase w hb=>?_;simp only[go_sem];apply ZK hb cJ (gq m 16384);apply Qn hb;by_cases h:1<=m/\m<=16384
 .simp only[go_sem,QU h];apply ZK hb cJ (gq p.len m);apply Qn hb;by_cases h2:1<=p.len/\p.len<=m
  .simp only[go_sem,QU h2];simp[kx,h,h2]
  .simp only[go_sem,QI h2];simp[kx,h,h2]
 .simp only[go_sem,QI h];simp[kx,h]
def vB(p:Pk)(t:Int):Int:=if (1<=t/\t<=65536)/\(1<=p.len/\p.len<=16384) then IntKind.u64.wrap (p.len*t) else 0
def OI(p:Pk)(t:Int):Int:=if (1<=t/\t<=65536)/\(1<=p.len/\p.len<=16384) then 0 else 1
def Qze(p:Pk)(t):QW prog 243 [.agg p.cells,Qa t] (QN (.tup [TL (vB p t),Qa (OI p t)])):=by
 refine xT 0 func243 ntmps243 results243 λbase w hb=>?_;simp only[go_sem];apply ZK hb cJ (gq t 65536);apply Qn hb;by_cases h:1<=t/\t<=65536
 .simp only[go_sem,QU h];apply ZK hb cJ (gq p.len 16384);apply Qn hb;by_cases h2:1<=p.len/\p.len<=16384
  .simp only[go_sem,QU h2];have e1:IntKind.u64.wrap p.len=p.len:=cQ ω ω;have e2:IntKind.u64.wrap t=t:=cQ ω ω;simp[e1,e2,vB,OI,h,h2]
  .simp only[go_sem,QI h2];simp[vB,OI,h,h2]
 .simp only[go_sem,QI h];simp[vB,OI,h]
def Qzf(h:List Ob){t}(h1:1<=t)(h2:t<=65536):QH prog 80 h [Qa t] (λd h'=>d=.tup [.ptr h.length 0 0 0,Qa 0]/\h'=h++[zE 0 0 0 t 0]):=by
 have d1:decide (t<1)=false:=QI ω;have d2:decide (65536<t)=false:=QI ω;refine QQ func80 ntmps80 results80 λbase w pl hb=>?_;simp only[go_sem,d1,d2]
section
variable {h:List Ob}{lp a b c:Nat}{t:Int}{u:Nat}(ho:(h.map Ob.ro)[lp]? = some (zE a b c t u).ro)
include ho
theorem tR(now):Q6 prog 85 h [.ptr lp 0 0 0,u64 now] (λd=>d=QT (decide (u<=now))):=by
 refine xD func85 ntmps85 results85 λbase w pl F hF Q7 hb=>?_;rw[<- hF]at ho;have Ql:=Qb ho;simp only[go_sem,ho];all_goals exact cD
theorem Qzg:Q6 prog 192 h [.ptr lp 0 0 0] (λd=>d=u64 u):=by
 refine xD func192 ntmps192 results192 λbase w pl F hF Q7 hb=>?_;rw[<- hF]at ho;have Ql:=Qb ho;simp only[go_sem,ho];all_goals exact cD
end
def Qzh(h:List Ob){lp a b c}{t}{u}(ho:h[lp]? = some (zE a b c t u))(n)(k):QH prog 244 h [.ptr lp 0 0 0,Qa n,u64 k] (λd h'=>∃a' b' c',h'=h.set lp (zE a' b' c' t u)):=by
 have e:∀(x y:Nat),∃z:Nat,IntKind.u64.wrap ((x:Int)+y)=z:=λx y=>⟨(IntKind.u64.wrap ((x:Int)+y)).toNat,η⟩;have e1:∀(x:Nat) (y:Int),∃z:Nat,IntKind.u64.wrap ((x:Int)+y)=z:=λx y=>⟨(IntKind.u64.wrap ((x:Int)+y)).toNat,η⟩;obtain⟨z1,hz1⟩:=e1 a 1;obtain⟨z2,RV⟩:=e1 b (IntKind.u64.wrap n);obtain⟨z3,hz3⟩:=e c k;have hl:=Qb ho;refine QQ func244 ntmps244 results244 λbase w pl hb=>?_;have Ql:=Qb ho;simp only[go_sem,Qe,ho,hz1,RV,hz3,QE hl];exact⟨z1,z2,z3,rfl⟩
def Qzk(h:List Ob){lp a b c}{t}{u}(ho:h[lp]? = some (zE a b c t u))(h1:1<=t)(h2:t<=65536){now}(hn:now<=4611686018427387904)(hu:u<=now)(x:Pk)(hx:1<=x.len/\x.len<=16384):
  QH prog 189 h [.ptr lp 0 0 0,u64 now,.agg x.cells] (λd h'=>d=.tup [u64 (now+x.len.toNat*t.toNat),Qa 0]/\∃a' b' c' g,h'=h.set lp (zE a' b' c' t (now+x.len.toNat*t.toNat))++g):=by
 have hl:=Qb ho;have dn:decide ((4611686018427387904:Int)<(now:Int))=false:=QI ω;have e1:kx x 16384=0:=by unfold kx;rw[Qc σ,Qc ξ]
 have k1:x.len.toNat*t.toNat<=1073741824:=qC (show x.len.toNat<=16384 from ω) (show t.toNat<=65536 from ω);have e2:vB x t=((x.len.toNat*t.toNat:Nat):Int):=by
  have k2:x.len*t=((x.len.toNat*t.toNat:Nat):Int):=by
   rw[Aq,Dh ω,Dh ω]
  unfold vB;rw[Qd ⟨⟨h1,h2⟩,hx⟩,k2];exact cQ ω ω
 obtain⟨k,hk⟩:∃k,k=x.len.toNat*t.toNat:=⟨_,rfl⟩;rw[<- hk]at k1 e2 ⊢;have e3:IntKind.u64.wrap ((now:Int)+(k:Int))=((now+k:Nat):Int):=by rw[cQ ω ω];omega
 have hT:=Qze x t;have dE:OI x t=0:=by unfold OI;rw[Qd ⟨⟨h1,h2⟩,hx⟩]
 rw[e2,dE]at hT;have hM:=Qzd x 16384;rw[e1]at hM;refine QQ func189 ntmps189 results189 λbase w pl hb=>?_;have Ql:=Qb ho;simp only[go_sem,Qe,dn];apply ZK hb QqP hM;apply JH hb;apply ZQ hb Qgz (tR (u:=u) (ZC (by rw[QG hl];exact ho)) now);apply Qg hb;simp only[go_sem,QU hu];apply QF hb [0,1,2,3,4,1005,6,7,8,9,10];simp only[go_sem,Qe,ho,Ql];apply Jb hb QqQ hT;apply ZH hb;simp only[go_sem,Qe,ho,Ql,e3];apply Vk [6] hb [0,1,2,3,4,5,1006] [];simp only[go_sem,Qe];obtain⟨H,hH⟩:∃H,H=h.set lp (zE a b c t (now+k))++[(⟨.one,0,6,1,λ_=>x.cells⟩:Ob)]:=⟨_,rfl⟩;have K6:H[lp]? = some (zE a b c t (now+k)):=by rw[hH,QG (by simpa using hl),QE hl]
 have EL:=Qb K6;have hf:∀o:Ob,H.set lp o=h.set lp o++[(⟨.one,0,6,1,λ_=>x.cells⟩:Ob)]:=λo=>by rw[hH,Cd (by simpa using hl),JK]
 simp only[go_sem]at hH;rw[<- hH];refine jZ hb QqR (Qzh H K6 x.len k) λd h6 hR=>?_;obtain⟨a',b',c',rfl⟩:=hR;apply ZH hb;simp only[go_sem,QE EL];exact⟨a',b',c',_,hf _⟩
def Qzl(a):QW prog 315 [u64 a] (QN (QT false)):=by
 have e:((a:Int) != (a:Int))=false:=σ;refine xT 0 func315 ntmps315 results315 λbase w hb=>?_;simp only[go_sem];simp only[go_sem,e]
def QiG(a b):QW prog 295 [u64 a,u64 b] (QN (QT (decide (a<b)))):=by
 refine xT 0 func295 ntmps295 results295 λbase w hb=>?_;simp only[go_sem];apply ZK hb QdQ (Qzl a);apply Qg hb;simp only[go_sem,Go.undef]
def Qzm(h:List Ob)(a b c lo)(row)(ho:(h.map Ob.ro)[lo]? = some ⟨.yl,0,1,2,row⟩)(h0:row 0=[u64 b])(h1:row 1=[u64 c]):
  Q6 prog 246 h [u64 a,.ref lo 0 0 2] (λd=>d=u64 (max (max a b) c)):=by
 simp only[go_sem]at h0 h1;refine xD func246 ntmps246 results246 λbase w pl F hF Q7 hb=>?_;rw[<- hF]at ho;have Ql:=Qb ho;simp only[go_sem];have w1:IntKind.i64.wrap 1=1:=rfl;have w2:IntKind.i64.wrap 2=2:=rfl;have key:∀m k:Nat,∃d:Bool,d=decide (m<k)/\max m k=bif d then k else m:=λm k=>⟨_,rfl,by
  by_cases e:m<k
  .rw[QU e];show _=k;omega
  .rw[QI e];show _=m;omega⟩
 obtain⟨d1,e1,m1⟩:=key a b;have L1:=QiG a b;rw[<- e1]at L1;obtain⟨d2,e2,m2⟩:=key (max a b) c;have L2:=QiG (max a b) c;rw[<- e2]at L2;rw[m2];rw[m1]at L2 ⊢;clear e1 e2 m1 m2 key;cases d1<;>cases d2;all_goals
  simp only[js,YW]at L2 ⊢;refine wv 2 ?_;apply Qg hb;simp only[go_sem,ho,h0];apply ZK hb zU L1;apply Qn hb;apply Qg hb;simp only[go_sem,ho,h1];apply ZK hb zU L2;apply Qn hb;apply Qn hb;apply Qn hb;all_goals exact cD
def Qzn(h:List Ob)(a lo)(row)(ho:(h.map Ob.ro)[lo]? = some ⟨.yl,0,1,1,row⟩)(h0:row 0=[u64 a]):
  Q6 prog 245 h [.ref lo 0 0 1] (λd=>d=u64 (min 9223372036854775808 a)):=by
 simp only[go_sem]at h0;have e:min (9223372036854775808:Int) (a:Int)=((min 9223372036854775808 a:Nat):Int):=ω;have w1:IntKind.i64.wrap 1=1:=rfl;refine xD func245 ntmps245 results245 λbase w pl F hF Q7 hb=>?_;rw[<- hF]at ho;have Ql:=Qb ho;simp only[go_sem];refine wv 1 ?_;apply Qg hb;simp only[go_sem,ho,h0,e,w1];apply Qn hb;apply Qn hb;all_goals exact cD
def Qzo(a b c):QW prog 191 [u64 a,u64 b,u64 c] (QN (u64 (Af a b c))):=by
 have e:Af a b c=min 9223372036854775808 (max (max a b) c):=by unfold Af;omega
 rw[e];refine xT 0 func191 ntmps191 results191 λbase w hb=>?_;simp only[go_sem];apply ZQ hb QqT (Qzm _ a b c 0 _ (ZC (o:=⟨.arr,0,1,2,_⟩) rfl) rfl rfl);apply Qn hb;obtain⟨m,hm⟩:∃m,m=max (max a b) c:=⟨_,rfl⟩;rw[<- hm];apply ZQ hb QqS (Qzn _ m 1 _ (ZC (o:=⟨.arr,0,1,1,_⟩) rfl) rfl);exact qQ hb
end Go.Fg.X
