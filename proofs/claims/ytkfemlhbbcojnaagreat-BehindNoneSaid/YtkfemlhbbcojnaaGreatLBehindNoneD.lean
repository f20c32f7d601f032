/- The statement BehindNone is proved. No conditions. -/
import Derived.Test.YtkfemlhbbcojnaaGreatBH3D
import Derived.Test.YtkfemlhbbcojnaaGreatCA3D
import Derived.Test.YtkfemlhbbcojnaaGreatRows
set_option maxRecDepth 100000
set_option maxHeartbeats 16000000
set_option linter.unusedVariables false
set_option linter.unusedSimpArgs false
set_option linter.unusedSectionVars false
set_option linter.defProp false
namespace Go.Fg.X
open Go.Proofs Go.Fg
open Go.Proofs.Tryz
@[go_sem] def k2O(a b:Qq):Ob:=⟨.one,0,28,1,λ_=>Qq.cells a++Qq.cells b⟩
@[go_sem] def mo4(b:Bool)(u v z:Nat):Ob:=⟨.one,0,4,1,λ_=>[QT b,u64 u,u64 v,u64 z]⟩
def QPz(L:List Nat)(h:L≠[])(hb:∀y∈L,y<=4294967295):L.foldl min (L.getD 0 0)=L.foldl min 4294967295:=by
 cases L with
 | nil=>exact absurd rfl h
 | cons a L=>
  have h1:=hb a J2;show (a::L).foldl min a=_;rw[kD,kD,Nat.min_self,Uv h1]
def QPA{c}(K:WM c){mi mj di dj low}(h1:0<mi)(h2:mi<=4294967295)(h3:0<mj)(h4:mj<=4294967295)(h5:0<low)(h6:low<=4294967295)(h7:di<=16777216)(h8:dj<=16777216)
  (e1:dj*65536*mi<=di*65536*mj+(2*cdiv (c.ZX.toNat*65536) low+2)*(mi*mj)):Qlm mj dj mi di low c.ZX=true:=by
 have k1:=K.l1;have k2:=K.l2;unfold Qlm gE EE SL;simp only[QU (show 0<mi/\mi<=4294967295 from ⟨h1,h2⟩),QU (show 0<mj/\mj<=4294967295 from ⟨h3,h4⟩),QU (show 0<low/\low<=4294967295 from ⟨h5,h6⟩),QU (show di<=1099511627776 from ω),QU (show dj<=1099511627776 from ω),QU k1,QU k2,Bool.and_self,O7];have:Qb3 mj dj mi di<=Qb1 mj mi c.ZX.toNat low:=by
  unfold Qb3 Qb1;rw[Pw (2*cdiv (c.ZX.toNat*65536) low+2),Mc mj mi];have x1:dj*65536*mi=dj*mi*65536:=Qrr _ _ _;have x2:di*65536*mj=di*mj*65536:=Qrr _ _ _;rw[x1,x2]at e1;split
  .rw[Nat.mul_sub_right_distrib];omega
  .exact Jh _
 exact QU this
def QPB(x:YD)(i j)(hx:∀a∈x.ops,ZV.Ok a):QW prog 9 [.agg x.cells,Qa i,Qa j] (QN (QT true)):=by
 refine Qi4 (R:=λd hh=>d=QT true) _ rfl (λd hh h=>.inl (h▸DS _ _)) ?_;have An:=QH4;refine bn Q4 200 func9 rfl ntmps9 results9 rfl λbase w hb=>?_;simp only[go_sem,Qe];refine cH1 hb QA7 (QIb x i j hx) λd h1 hR=>?_;rcases hR with ⟨e,c1,c2,dl,rfl⟩|⟨own,tw,p,S1,ci,cj,dl,rfl,Q⟩
 .apply Qg hb;simp only[go_sem,Qe,Go.undef];refine VC hb [] Qog rfl ?_ An rfl λd h hR=>?_
  .simp only[go_sem,Qe]
  obtain⟨rfl,rfl⟩:=hR;simp only[go_sem,Qe];exact Bk hb
 by_cases K7:i=j
 .have e1:=qN K7;apply Qg hb;simp only[go_sem,Qe,e1,Go.undef];refine VC hb [] Qog rfl ?_ An rfl λd h hR=>?_
  .simp only[go_sem,Qe]
  obtain⟨rfl,rfl⟩:=hR;simp only[go_sem,Qe];exact Bk hb
 have e1:=Xl K7;obtain⟨L,hL⟩:∃L,L=ni S1.M.T ci.parent:=⟨_,rfl⟩;have A7:=Q.sl;have QA:=Q.ne;obtain⟨T,hT⟩:∃T,T=S1.M.T:=⟨_,rfl⟩;have V1:=Q.X.V;have IT:JG T:=hT▸V1.I.tree;have KT:kb T:=hT▸V1.I.wK;obtain⟨z1,z2,z3,z4,_⟩:=QwX (hT▸V1.I.tree) (hT▸V1.I.wK) (hT▸QA);rw[<- hL]at A7 QA;rw[<- hT]at hL;rw[<- hL]at z2 z3 z4;rcases A7 with ⟨_,e⟩|⟨lo,g,row,rfl,Zq,ho,ZG⟩
 .exact absurd e QA
 have hlen:0<L.length:=QpJ.2 QA;have Ql:=Qb ho;have Xg:=Q.X.hx;have BM:=Qb Xg;have WQ:=ZG 0 hlen;have hL0:L.getD 0 default=L.getD 0 0:=rfl;rw[hL0]at WQ;apply Qg hb;simp only[go_sem,Qe,e1,Go.undef,ho,Ql,WQ,hlen];refine⟨ω,?_⟩;have X2:=Q.X.app [k2O ci cj];refine Z3 (λq s=>s=⟨[(3,.ptr 0 0 0 0),(1,Qa i),(2,Qa j),(7,.ptr p 0 0 0),(8,.ptr h1.length 0 0 0),(9,.ref lo g 0 L.length),(11,u64 ((L.take q).foldl min (L.getD 0 0))),(41,.ref lo g 0 L.length),(42,Qa L.length),(43,Qa q)],h1++[k2O ci cj]⟩) L.length (Qz.frame (by simp only[go_sem];rfl)) rfl ?_;rintro q _ hq rfl;by_cases hq1:q<L.length
 .have dq:=QU hq1;have hwq:=J9 (show q<4611686018427387904 from ω);have hrq:=ZG q hq1;have hLq:L.getD q default=L.getD q 0:=rfl;rw[hLq]at hrq;obtain⟨Z,hZ⟩:∃Z,Z=(L.take q).foldl min (L.getD 0 0):=⟨_,rfl⟩;have est:(L.take (q+1)).foldl min (L.getD 0 0)=min Z (L.getD q 0):=by
   rw[getD_take _ 0 _ hq1,jo,<- hZ];rfl
  rw[<- hZ];have hmn:min ((Z:Nat):Int) ((L.getD q 0:Nat):Int)=((min Z (L.getD q 0):Nat):Int):=ω;apply Qg hb;simp only[go_sem,Qe,dq,hq1,ho,Ql,hrq];exact⟨_,Qz.frame (by simp only[go_sem,hwq,est,hmn]),rfl⟩
 .obtain rfl:q=L.length:=ω;have dq:=QI hq1;have QxR:(L.take L.length).foldl min (L.getD 0 0)=Tc T ci.parent:=by
   rw[q9,QPz L QA λy hy=>(z3 y hy).2];exact z2 _ π
  rw[QxR];obtain⟨low,MM⟩:∃low,low=Tc T ci.parent:=⟨_,rfl⟩;rw[<- MM]at z1 ⊢;have db:∀k,k<x.ops.length->0<k->(x.ops.getD k default).kind≠1:=λk h1 h2=>still_at Q.st h1 h2;obtain⟨IX,ZM⟩:=QjB Q.yg hx;have hT1:(Zn (S0 x.config) (x.ops.take 1)).1.M.T=T:=by rw[<- Q.S_,hT]
  have G:n8 T ci.parent (Tc T ci.parent):=QE2 IT KT (MM▸z1);have hGG:∀m' n',Tc T ci.parent<=m'->n'<=x.config.ZX.toNat->cdiv (n'*65536) m'<=cdiv (x.config.ZX.toNat*65536) (Tc T ci.parent):=λm' n' h1 h2=>QE4 (Qko (MM▸z1)) h1 h2;have hTk:∀k,0<k->k<=x.ops.length->(Zn (S0 x.config) (x.ops.take k)).1.M.T=T:=λk h1 h2=>(Qni Q.K hx ω db hT1 G hGG rfl k h1 h2).2.1.T_;have kS:Qx T i=some ci:=hT▸Q.fi;have hcj:Qx T j=some cj:=hT▸Q.fj;have hSe:=QH7 x ω ZM (c0:=x.config) X2.T X2.V X2.C Q.S_ Q.ops (by rw[ZW];exact BQ _) (par:=ci.parent) kS hcj hTk;apply Qg hb;simp only[go_sem,Qe,dq];apply Qg hb;simp only[go_sem,Qe,Xg,BM];refine cH1 hb QBe hSe λd H hR=>?_;obtain⟨lo2,g2,zq,rfl,K6,Qvp,MU⟩:=hR;have hx4:H[0]? = some ⟨.one,0,3,1,λ_=>x.cells⟩:=(MU 0 (by rw[ZW];exact BQ _) X2.my.2).trans X2.hx;have QnH:=Qb hx4;have hc4:H[h1.length]? = some (k2O ci cj):=(MU h1.length (by rw[ZW];exact Fp _) (EW (QB _))).trans (KV rfl);have QnQ:=Qb hc4;have EL:=Qb K6;clear MU hSe;obtain⟨N,hN⟩:∃N,N=x.ops.length:=⟨_,rfl⟩;obtain⟨xQ,QOT⟩:=(J6 IT.rising).1 kS;obtain⟨QGG,QOU⟩:=(J6 IT.rising).1 hcj;obtain⟨mi,hmi⟩:∃a:Nat,ci.ls.m2=a:=⟨ci.ls.m2.toNat,by have:=(KT _ xQ).nn.2.1.2.2;omega⟩;obtain⟨mj,hmj⟩:∃a:Nat,cj.ls.m2=a:=⟨cj.ls.m2.toNat,by have:=(KT _ QGG).nn.2.1.2.2;omega⟩;have li:=G.eR _ xQ rfl Q.si;have lj:=G.eR _ QGG Q.par Q.sj;have ei:(Je ci.ls).b=mi:=by show ci.ls.m2.toNat=mi;omega
  have ej:(Je cj.ls).b=mj:=by show cj.ls.m2.toNat=mj;omega
  have l0:=G.l0;rw[<- MM]at li lj l0;have bi:=li.2.2.b;have bj:=lj.2.2.b;rw[ei]at li bi;rw[ej]at lj bj;obtain⟨on,A,B,C,NN,QM8⟩:∃(on:Nat->Bool) (A B C:Nat->Nat),(∀t,t<N->zq t=[QT (on t),u64 (A t),u64 (B t),u64 (C t)]) /\
    ∀a b,a<=b->b<N->(∀q,a<=q->q<=b->on q=true)->A a<=A b/\B a<=B b/\A b<=16777216/\B b<=16777216/\Qlm mj (B b - B a) mi (A b - A a) low x.config.ZX=true:=by
   refine⟨λt=>JV (Zn (S0 x.config) (x.ops.take (t+1))).1.M i,λt=>r6 (Zn (S0 x.config) (x.ops.take (t+1))).1.M i,λt=>r6 (Zn (S0 x.config) (x.ops.take (t+1))).1.M j,λt=>T.foldl (nj (Zn (S0 x.config) (x.ops.take (t+1))).1.M ci.parent) 0,λt ht=>Qvp t ω,λa b Vu hbN xv=>?_⟩;have on1:∀q,a+1<=q->q<=b+1->JV (Zn (S0 x.config) (x.ops.take q)).1.M i=true:=λq h1 h2=>by
    have h3:=xv (q - 1) ω ω;dsimp only at h3;rw[show q - 1+1=q by omega]at h3;exact h3
   obtain⟨n1,m1,n2,m2,f1,f2,f3,f4,_,_,_,_,g1,g2,g3,g4,g5⟩:=QE5 Q.K hx ω db hT1 kS hcj Q.par Q.sj (MM▸z1) (a:=a+1) (b:=b+1) ω ω ω on1;have t1:r6 (Zn (S0 x.config) (x.ops.take (a+1))).1.M i=n1.QO:=by unfold r6;rw[f1]
   have t2:r6 (Zn (S0 x.config) (x.ops.take (a+1))).1.M j=m1.QO:=by unfold r6;rw[f2]
   have t3:r6 (Zn (S0 x.config) (x.ops.take (b+1))).1.M i=n2.QO:=by unfold r6;rw[f3]
   have t4:r6 (Zn (S0 x.config) (x.ops.take (b+1))).1.M j=m2.QO:=by unfold r6;rw[f4]
   dsimp only;rw[t1,t2,t3,t4];have q1:ci.ls.m2.toNat=mi:=ω;have q2:cj.ls.m2.toNat=mj:=ω;rw[q1,q2,<- MM]at g5;exact⟨g1,g2,ω,ω,QPA Q.K ω bi ω bj ω ω ω ω g5⟩
  have QNb:mi<18446744073709551616:=ω;have QNc:mj<18446744073709551616:=ω;have QNd:low<18446744073709551616:=ω;rw[<- hN]at K6 ⊢;have hNl:N<=150:=ω;clear Qvp G hGG hTk;apply JH hb;refine Z3 (λa s=>∃G,s=⟨[(3,.ptr 0 0 0 0),(8,.ptr h1.length 0 0 0),(11,u64 low),(14,.ref lo2 g2 0 N),(59,.ref lo2 g2 0 N),(60,Qa N),(61,Qa a)],H++G⟩) N (s0:=⟨[(3,.ptr 0 0 0 0),(8,.ptr h1.length 0 0 0),(11,u64 low),(14,.ref lo2 g2 0 N),(59,.ref lo2 g2 0 N),(60,Qa N),(61,Qa 0)],H⟩) QM ⟨[],by rw[JI];rfl⟩ ?_;rintro a _ ha ⟨G,rfl⟩;by_cases ha1:a<N
  .have da:=QU ha1;have hwa:=J9 (show a<4611686018427387904 from ω);have TN:=NN a ha1;apply Qg hb;simp only[go_sem,Qe,da,ha1,K6,EL,TN];refine⟨ω,?_⟩;have hz:((N:Int) - (a:Int)).toNat=N - a:=ω;rw[hz];refine Z3 (λt s=>∃G',s=⟨[(3,.ptr 0 0 0 0),(8,.ptr h1.length 0 0 0),(11,u64 low),(14,.ref lo2 g2 0 N),(59,.ref lo2 g2 0 N),(60,Qa N),(61,Qa a),(16,.ptr (H.length+G.length) 0 0 0),(68,.ref lo2 g2 a (N - a)),(69,Qa ((N - a:Nat):Int)),(70,Qa t)],H++(G++(mo4 (on a) (A a) (B a) (C a)::G'))⟩/\∀q,a<=q->q<a+t->on q=true) (N - a) (s0:=⟨[(3,.ptr 0 0 0 0),(8,.ptr h1.length 0 0 0),(11,u64 low),(14,.ref lo2 g2 0 N),(59,.ref lo2 g2 0 N),(60,Qa N),(61,Qa a),(16,.ptr (H.length+G.length) 0 0 0),(68,.ref lo2 g2 a (N - a)),(69,Qa ((N - a:Nat):Int)),(70,Qa 0)],H++(G++[mo4 (on a) (A a) (B a) (C a)])⟩) QM ⟨[],rfl,λq h1 h2=>absurd h2 ω⟩ ?_;rintro t _ ht ⟨G',rfl,Kj⟩;by_cases ht1:t<N - a
   .have dt:=QU ht1;have hwt:=J9 (show t<4611686018427387904 from ω);have Sy:=NN (a+t) ω;cases o1:on a with
    | false=>
     apply Qg hb;simp only[go_sem,Qe,dt,ht1,K6,EL,Sy,o1];refine⟨ω,?_⟩;apply Qg hb;simp only[go_sem,Qe,o1];exact⟨ha1,_,Qz.frame (by simp only[go_sem,hwa]),_,rfl⟩
    | true=>
    cases o2:on (a+t) with
    | false=>
     apply Qg hb;simp only[go_sem,Qe,dt,ht1,K6,EL,Sy,o1,o2];refine⟨ω,?_⟩;apply Qg hb;simp only[go_sem,Qe,o1,o2];exact⟨ha1,_,Qz.frame (by simp only[go_sem,hwa]),_,rfl⟩
    | true=>
    have Qbn:∀q,a<=q->q<=a+t->on q=true:=λq h1 h2=>by
     by_cases h:q=a+t
     .rw[h];exact o2
     .exact Kj q h1 ω
    obtain⟨w1,w2,w3,w4,w5⟩:=QM8 a (a+t) ω ω Qbn;have x1:IntKind.u64.wrap (((A (a+t):Nat):Int) - ((A a:Nat):Int))=((A (a+t) - A a:Nat):Int):=η;have x2:IntKind.u64.wrap (((B (a+t):Nat):Int) - ((B a:Nat):Int))=((B (a+t) - B a:Nat):Int):=η;have hHo:=Qxo mj (B (a+t) - B a) mi (A (a+t) - A a) x.config.ZX low QNc QNb ω ω QNd;rw[w5]at hHo;apply Qg hb;simp only[go_sem,Qe,dt,ht1,K6,EL,Sy,o1,o2,x1,x2,hc4,QnQ,hmi,hmj,hx4,QnH];refine⟨ω,?_⟩;apply Qg hb;simp only[go_sem,Qe,o1,o2,x1,x2,hc4,QnQ,hmi,hmj,hx4,QnH];refine cT hb Qwl ?_ hHo ?_
    .simp only[go_sem,Qe,x1,x2,hc4,QnQ,hmi,hmj,hx4,QnH]
    apply Qg hb;simp only[go_sem,Qe,x1,x2,hc4,QnQ,hmi,hmj,hx4,QnH];rw[<- o1];exact⟨ht1,_,Qz.frame (by simp only[go_sem,hwt]),_,rfl,λq h1 h2=>(Qbn q h1 ω).trans o1.symm⟩
   .obtain rfl:t=N - a:=ω;have dt:=QI ht1;apply Qg hb;simp only[go_sem,Qe,dt];apply JH hb;exact⟨ha1,_,Qz.frame (by simp only[go_sem,hwa]),_,rfl⟩
  .obtain rfl:a=N:=ω;have da:=QI ha1;apply Qg hb;simp only[go_sem,Qe,da];apply JH hb;refine VC hb [] Qog rfl ?_ An rfl λd h hR=>?_
   .simp only[go_sem,Qe]
   obtain⟨rfl,rfl⟩:=hR;simp only[go_sem,Qe];exact Bk hb
end Go.Fg.X
namespace Go.Fg.X
open Go.Proofs Go.Fg Go.Proofs.YtkfemlhbbcojnaaGreat
open Go.ChangeShapes Go.RowKit
open Go.Proofs.Tryz
def QPH:laidOutB prog=true:=τ
def QPI:mapsRowed prog=true:=τ
def QPJ:prog.stopsHeard=true:=τ
def QPK:prog.mayEnter=true:=τ
def QPL:(Rows.behindNoneRow.lifted==prog.liftsFinal)=true:=τ
def QPM:(prog.make==some Rows.behindNoneRow.make)=true:=τ
end Go.Fg.X
namespace Go.Fg.X
open Go.Proofs Go.Fg Go.Proofs.YtkfemlhbbcojnaaGreat
open Go.ChangeShapes Go.WideShapes Go.ChangeAt Go.RowKit
open Go.Proofs.Tryz
def QPN:ownKnob prog.godebug=none:=τ
def QxZ:laidOutB prog=true:=τ
def QPO(os:Os)(started:os.Started)(H:Type)(enc:TypeId × Value->H):
  ReturnsInHanded {} checked os 9 .any (Rows.behindNoneSpec.pre6 enc prog f9 Rows.behindNoneRow.domain false) (Rows.behindNoneSpec.post enc prog f9 false true false false):=by
 refine returnsInHanded_of_change (C:=checked) QPN started τ func9
  (ChangeSpec.witness6 (enc:=enc) (C:=checked) false ⟨#[],#[.agg #[.int .i64 0,.int .i64 0,.slice none 0 0],.int .i64 0,.int .i64 0],[]⟩ 12 τ τ τ τ) ?_
 intro W base args ds gs before Uf hW QBW _;have O5:∀(j:Nat) t v,f9.params[j]? = some t->args[j]? = some v->Value.okWide prog W .any base t v:=Uf;have uR:=hW;obtain⟨p,q,Ug,hV,rfl,Cu,ZU⟩:=hW;have hA:DataW.TrodAll enc prog W 0 (λ_=>true) true f9.params.toList args.toList ds p:=Ug;rw[params9]at hA O5;obtain⟨v0,vs0,d0,ds0,p0,q0,Rs,rfl,rfl,h0,r0⟩:=trodAll_cons hA;obtain⟨v1,vs1,d1,ds1,p1,q1,rfl,rfl,rfl,h1,r1⟩:=trodAll_cons r0;obtain⟨v2,vs2,d2,ds2,p2,q2,rfl,rfl,rfl,h2,r2⟩:=trodAll_cons r1;obtain⟨rfl,rfl,rfl⟩:=trodAll_nil r2;obtain rfl:args=#[v0,v1,v2]:=by cases args;simp_all
 obtain⟨rfl,rfl⟩:=trodVars_none hV;obtain⟨uS,rfl,_⟩:=okWide_struct underlying26 (O5 0 26 v0 rfl rfl);obtain⟨n1,rfl⟩:=okWide_int underlying3 (O5 1 3 v1 rfl rfl);obtain⟨n2,rfl⟩:=okWide_int underlying3 (O5 2 3 v2 rfl rfl);have t0:=h0;have uT:∀x∈p0,x.block<W.heap.size:=by obtain⟨m,hm⟩:=t0;exact DataW.trod_lt m _ _ _ hm
 have t1:=h1;have lt1:∀x∈p1,x.block<W.heap.size:=by obtain⟨m,hm⟩:=t1;exact DataW.trod_lt m _ _ _ hm
 have t2:=h2;have lt2:∀x∈p2,x.block<W.heap.size:=by obtain⟨m,hm⟩:=t2;exact DataW.trod_lt m _ _ _ hm
 obtain⟨x0,k0,c0⟩:=Rd.many QdW h0;obtain⟨x1,k1,c1⟩:=Rd.one (Rd.int .i64 underlying3) h1 (Qrt _ _);obtain⟨x2,k2,c2⟩:=Rd.one (Rd.int .i64 underlying3) h2 (Qrt _ _);clear Ug Uf;have walk:Calls prog 9 #[.agg uS,.int .i64 n1,.int .i64 n2] W λe W'=>e=.returned (.bool true)/\Below W.heap.size W W':=QdV (QPB x0 x1 x2 k0.2.1.2) W [_,_,_] rfl (λi hi=>match i,hi with
  | 0,_=>c0
  | 1,_=>c1
  | 2,_=>c2)
 refine walk.mono λe W' ⟨he,Yj⟩=>?_;subst he;exact⟨_,rfl,_,_,_,[],_,[],uR,trodAll_mk1 (shut_bool underlying4 _),(trodAll_cons_mk (Below.trod QxZ τ (X8 τ) t0 Yj uT) (trodAll_cons_mk (Below.trod QxZ τ (X8 τ) t1 Yj lt1) (trodAll_cons_mk (Below.trod QxZ τ (X8 τ) t2 Yj lt2) trodAll_mk0))),rfl,Yj.frame _,λh=>by cases h⟩
def jn{a b}(ha:a=true)(hb:b=true):(a&&b)=true:=by rw[ha,hb];rfl
def QPU:(Rows.behindNoneRow.inPlace==prog.inPlace 9)=true:=τ
def QPV:(Rows.behindNoneRow.unfollowed==prog.unfollowed 9)=true:=τ
def QPW:(Rows.behindNoneRow.recurses==prog.recurses 9)=true:=τ
def QPX:(Rows.behindNoneRow.named==prog.varsNamed 9)=true:=τ
def QPY:(Rows.behindNoneRow.maps==(f9.params.toList++Rows.behindNoneSpec.plain.varTypes prog).any (prog.mapsRec ·))=true:=τ
def QPZ:(Rows.behindNoneRow.ifaces==(f9.params.toList++Rows.behindNoneSpec.plain.varTypes prog).any (prog.ifacesRec ·))=true:=τ
def QP0:(Rows.behindNoneRow.loops==(f9.params.toList++Rows.behindNoneSpec.plain.varTypes prog).any (prog.loopsFrom ·))=true:=τ
def QP1:joinedFacts prog 9 f9 Rows.behindNoneSpec Rows.behindNoneRow=true:=by
 unfold joinedFacts;refine(jn (jn (jn (jn (jn (jn (jn (jn (jn (jn (jn (jn (jn (jn (jn (jn (jn (jn (jn (jn (jn (jn (jn (jn (jn (jn (jn (jn (jn (jn (jn ?_ QPH) QPI) ?_) ?_) ?_) ?_) ?_) ?_) QPU) QPV) QPW) QPX) QPY) QPZ) ?_) QP0) ?_) ?_) ?_) ?_) ?_) ?_) ?_) QPJ) QPK) QPL) QPM) ?_) ?_) ?_) ?_);all_goals kernel_rfl
def QP2:prog.funcNamed Rows.behindNoneRow.func=some 9:=τ
theorem provedBehindNone:Rows.BehindNoneSaid:=
 OpenClaim.holds_of_wide 9 f9 rfl rfl rfl rfl rfl rfl rfl ⟨rfl,rfl,rfl,rfl,rfl⟩ rfl rfl rfl rfl rfl QP2 func9 QP1
  (X8 τ) (by unfold Func.isWrapper;first|(rw[Qd (by decide +kernel)];kernel_rfl)|(rw[Qc (by decide +kernel)];exact⟨rfl,rfl⟩))
  (λos started H enc _=>QPO os started H enc)
end Go.Fg.X
namespace Go.Proofs.YtkfemlhbbcojnaaGreat
theorem behindNone_done: Rows.BehindNoneSaid := Go.Fg.X.provedBehindNone
end Go.Proofs.YtkfemlhbbcojnaaGreat
