/- The statement BehindShare is proved. No conditions. -/
import Derived.Test.YtkfemlhbbcojnaaGreatBH3D
import Derived.Test.YtkfemlhbbcojnaaGreatCA3D
import Derived.Test.YtkfemlhbbcojnaaGreatRows
set_option maxRecDepth 100000
set_option maxHeartbeats 16000000
set_option linter.unusedVariables false
set_option linter.unusedSimpArgs false
set_option linter.unusedSectionVars false
set_option linter.defProp false
namespace Go.Fg.X
open Go.Proofs Go.Fg
open Go.Proofs.Tryz
@[go_sem] def k2S(a b:Qq):Ob:=⟨.one,0,28,1,λ_=>Qq.cells a++Qq.cells b⟩
@[go_sem] def QIh(b:Bool)(u v z:Nat):Ob:=⟨.one,0,4,1,λ_=>[QT b,u64 u,u64 v,u64 z]⟩
def QIj(L:List Nat):F3 L=L.sum:=by
 have:∀(L:List Nat) (a:Nat),L.foldl (·+·) a=a+L.sum:=λL=>by
  induction L with
  | nil=>intro a;rfl
  | cons b L ih=>intro a;rw[kD,ih,Qn9,QfH]
 exact(this L 0).trans (JD _)
def QP3(x:YD)(i:Int)(hx:∀a∈x.ops,ZV.Ok a):QW prog 11 [.agg x.cells,Qa i] (QN (QT true)):=by
 refine Qi4 (R:=λd hh=>d=QT true) _ rfl (λd hh h=>.inl (h▸DS _ _)) ?_;have An:=QH4;refine bn Q4 200 func11 rfl ntmps11 results11 rfl λbase w hb=>?_;simp only[go_sem,Qe];refine cH1 hb QA7 (QIb x i i hx) λd h1 hR=>?_;rcases hR with ⟨e,c1,c2,dl,rfl⟩|⟨own,tw,p,S1,ci,cj,dl,rfl,Q⟩
 .apply Qg hb;simp only[go_sem,Qe,Go.undef];refine VC hb [] Qog rfl ?_ An rfl λd h hR=>?_
  .simp only[go_sem,Qe]
  obtain⟨rfl,rfl⟩:=hR;simp only[go_sem,Qe];exact Bk hb
 obtain⟨L,hL⟩:∃L,L=ni S1.M.T ci.parent:=⟨_,rfl⟩;have A7:=Q.sl;have QA:=Q.ne;obtain⟨T,hT⟩:∃T,T=S1.M.T:=⟨_,rfl⟩;have V1:=Q.X.V;have IT:JG T:=hT▸V1.I.tree;have KT:kb T:=hT▸V1.I.wK;obtain⟨z1,z2,z3,z4,z5⟩:=QwX (hT▸V1.I.tree) (hT▸V1.I.wK) (hT▸QA);rw[<- hL]at A7 QA;rw[<- hT]at hL;rw[<- hL]at z2 z3 z4 z5;rcases A7 with ⟨_,e⟩|⟨lo,g,row,rfl,Zq,ho,ZG⟩
 .exact absurd e QA
 have hlen:0<L.length:=QpJ.2 QA;have Ql:=Qb ho;have Xg:=Q.X.hx;have BM:=Qb Xg;have X2:=Q.X.app [k2S ci cj];obtain⟨low,MM⟩:∃low,low=Tc T ci.parent:=⟨_,rfl⟩;rw[<- MM]at z1 z2;have db:∀k,k<x.ops.length->0<k->(x.ops.getD k default).kind≠1:=λk h1 h2=>still_at Q.st h1 h2;obtain⟨IX,ZM⟩:=QjB Q.yg hx;have hT1:(Zn (S0 x.config) (x.ops.take 1)).1.M.T=T:=by rw[<- Q.S_,hT]
 have G:n8 T ci.parent (Tc T ci.parent):=QE2 IT KT (MM▸z1);have hGG:∀m' n',Tc T ci.parent<=m'->n'<=x.config.ZX.toNat->cdiv (n'*65536) m'<=cdiv (x.config.ZX.toNat*65536) (Tc T ci.parent):=λm' n' h1 h2=>QE4 (Qko (MM▸z1)) h1 h2;have hTk:∀k,0<k->k<=x.ops.length->(Zn (S0 x.config) (x.ops.take k)).1.M.T=T:=λk h1 h2=>(Qni Q.K hx ω db hT1 G hGG rfl k h1 h2).2.1.T_;have kS:Qx T i=some ci:=hT▸Q.fi;have hcj:Qx T i=some cj:=hT▸Q.fj;have hSe:=QH7 x ω ZM (c0:=x.config) X2.T X2.V X2.C Q.S_ Q.ops (by rw[ZW];exact BQ _) (par:=ci.parent) kS hcj hTk;apply Qg hb;simp only[go_sem,Qe,Go.undef,Xg,BM];refine cH1 hb QBe hSe λd H hR=>?_;obtain⟨lo2,g2,zq,rfl,K6,Qvp,MU⟩:=hR;have hx4:H[0]? = some ⟨.one,0,3,1,λ_=>x.cells⟩:=(MU 0 (by rw[ZW];exact BQ _) X2.my.2).trans X2.hx;have QnH:=Qb hx4;have hc4:H[h1.length]? = some (k2S ci cj):=(MU h1.length (by rw[ZW];exact Fp _) (EW (QB _))).trans (KV rfl);have QnQ:=Qb hc4;have EL:=Qb K6;have hs4:H[lo]? = some ⟨.arr,g,1,L.length,row⟩:=(MU lo (by rw[ZW];exact Nat.lt_succ_of_lt Ql) ((Vh Ql).trans Zq.2)).trans ((QG Ql).trans ho);have QP4:=Qb hs4;clear MU hSe;obtain⟨N,hN⟩:∃N,N=x.ops.length:=⟨_,rfl⟩;obtain⟨xQ,QOT⟩:=(J6 IT.rising).1 kS;obtain⟨mi,hmi⟩:∃a:Nat,ci.ls.m2=a:=⟨ci.ls.m2.toNat,by have:=(KT _ xQ).nn.2.1.2.2;omega⟩;have q1:ci.ls.m2.toNat=mi:=ω;have hmL:mi∈L:=by
  rw[z5];refine Z2.2 ⟨ci,Jt.2 ⟨xQ,?_⟩,q1⟩;unfold qi;rw[QU (show ci.parent=ci.parent from rfl),QU Q.si];rfl
 have bi:=z3 mi hmL;have QP5:0<L.sum:=by
  have:=QH1 L mi hmL;rw[QIj]at this;omega
 have k1:=Q.K.l1;have k2:=Q.K.l2;have QP6:Qeq L=low:=z2 9223372036854775808 π;obtain⟨on,A,B,C,NN,QM8⟩:∃(on:Nat->Bool) (A B C:Nat->Nat),(∀t,t<N->zq t=[QT (on t),u64 (A t),u64 (B t),u64 (C t)]) /\
   ∀a b,a<=b->b<N->(∀q,a<=q->q<=b->on q=true)->A a<=A b/\C a<=C b/\C b<=1048576000/\A b<18446744073709551616/\QnD mi L (C b - C a) x.config.ZX.toNat<=A b - A a:=by
  refine⟨λt=>JV (Zn (S0 x.config) (x.ops.take (t+1))).1.M i,λt=>r6 (Zn (S0 x.config) (x.ops.take (t+1))).1.M i,λt=>r6 (Zn (S0 x.config) (x.ops.take (t+1))).1.M i,λt=>T.foldl (nj (Zn (S0 x.config) (x.ops.take (t+1))).1.M ci.parent) 0,λt ht=>Qvp t ω,λa b Vu hbN xv=>?_⟩;have on1:∀q,a+1<=q->q<=b+1->JV (Zn (S0 x.config) (x.ops.take q)).1.M i=true:=λq h1 h2=>by
   have h3:=xv (q - 1) ω ω;dsimp only at h3;rw[show q - 1+1=q by omega]at h3;exact h3
  obtain⟨g1,g2,g3,g4⟩:=QO0 Q.K hx ω db hT1 kS Q.si (hL▸QA) (a:=a+1) (b:=b+1) ω ω ω on1;obtain⟨n1,m1,n2,m2,f1,f2,f3,f4,_,_,_,_,_,_,e3,_,_⟩:=QE5 Q.K hx ω db hT1 kS kS rfl Q.si (MM▸z1) (a:=a+1) (b:=b+1) ω ω ω on1;have t3:r6 (Zn (S0 x.config) (x.ops.take (b+1))).1.M i=n2.QO:=by unfold r6;rw[f3]
  dsimp only;have c1:=Qv7 (Zn (S0 x.config) (x.ops.take (a+1))).1.M ci.parent T 0 ω;have c2:=Qv7 (Zn (S0 x.config) (x.ops.take (b+1))).1.M ci.parent T 0 ω;rw[JD]at c1 c2;rw[c1,c2];rw[<- hL,<- MM,q1]at g4;have g5:=QO3 QP5 g4;refine⟨g1,g2,g3,ω,?_⟩;unfold QnD QiN;rw[QP6,QIj];exact g5
 rw[<- hN]at K6 ⊢;have hNl:N<=150:=ω;clear Qvp G hGG hTk;have hus:∀i,i<L.length->row i=[u64 (L.getD i default)]:=ZG;apply JH hb;refine Z3 (λa s=>∃G,s=⟨[(2,.ptr 0 0 0 0),(6,.ptr h1.length 0 0 0),(7,.ref lo g 0 L.length),(9,.ref lo2 g2 0 N),(36,.ref lo2 g2 0 N),(37,Qa N),(38,Qa a)],H++G⟩) N (s0:=⟨[(2,.ptr 0 0 0 0),(6,.ptr h1.length 0 0 0),(7,.ref lo g 0 L.length),(9,.ref lo2 g2 0 N),(36,.ref lo2 g2 0 N),(37,Qa N),(38,Qa 0)],H⟩) QM ⟨[],by rw[JI];rfl⟩ ?_;rintro a _ ha ⟨G,rfl⟩;by_cases ha1:a<N
 .have da:=QU ha1;have hwa:=J9 (show a<4611686018427387904 from ω);have TN:=NN a ha1;apply Qg hb;simp only[go_sem,Qe,da,ha1,K6,EL,TN];refine⟨ω,?_⟩;have hz:((N:Int) - (a:Int)).toNat=N - a:=ω;rw[hz];refine Z3 (λt s=>∃G',s=⟨[(2,.ptr 0 0 0 0),(6,.ptr h1.length 0 0 0),(7,.ref lo g 0 L.length),(9,.ref lo2 g2 0 N),(36,.ref lo2 g2 0 N),(37,Qa N),(38,Qa a),(11,.ptr (H.length+G.length) 0 0 0),(45,.ref lo2 g2 a (N - a)),(46,Qa ((N - a:Nat):Int)),(47,Qa t)],H++(G++(QIh (on a) (A a) (B a) (C a)::G'))⟩/\∀q,a<=q->q<a+t->on q=true) (N - a) (s0:=⟨[(2,.ptr 0 0 0 0),(6,.ptr h1.length 0 0 0),(7,.ref lo g 0 L.length),(9,.ref lo2 g2 0 N),(36,.ref lo2 g2 0 N),(37,Qa N),(38,Qa a),(11,.ptr (H.length+G.length) 0 0 0),(45,.ref lo2 g2 a (N - a)),(46,Qa ((N - a:Nat):Int)),(47,Qa 0)],H++(G++[QIh (on a) (A a) (B a) (C a)])⟩) QM ⟨[],rfl,λq h1 h2=>absurd h2 ω⟩ ?_;rintro t _ ht ⟨G',rfl,Kj⟩;by_cases ht1:t<N - a
  .have dt:=QU ht1;have hwt:=J9 (show t<4611686018427387904 from ω);have Sy:=NN (a+t) ω;cases o1:on a with
   | false=>
    apply Qg hb;simp only[go_sem,Qe,dt,ht1,K6,EL,Sy,o1];refine⟨ω,?_⟩;apply Qg hb;simp only[go_sem,Qe,o1];exact⟨ha1,_,Qz.frame (by simp only[go_sem,hwa]),_,rfl⟩
   | true=>
   cases o2:on (a+t) with
   | false=>
    apply Qg hb;simp only[go_sem,Qe,dt,ht1,K6,EL,Sy,o1,o2];refine⟨ω,?_⟩;apply Qg hb;simp only[go_sem,Qe,o1,o2];exact⟨ha1,_,Qz.frame (by simp only[go_sem,hwa]),_,rfl⟩
   | true=>
   have Qbn:∀q,a<=q->q<=a+t->on q=true:=λq h1 h2=>by
    by_cases h:q=a+t
    .rw[h];exact o2
    .exact Kj q h1 ω
   obtain⟨w1,w2,w3,w4,w5⟩:=QM8 a (a+t) ω ω Qbn;have x1:IntKind.u64.wrap (((A (a+t):Nat):Int) - ((A a:Nat):Int))=((A (a+t) - A a:Nat):Int):=η;have x2:IntKind.u64.wrap (((C (a+t):Nat):Int) - ((C a:Nat):Int))=((C (a+t) - C a:Nat):Int):=η;have nb:¬Qhe mi L (C (a+t) - C a) x.config.ZX:=by
    unfold Qhe;rintro (h|h|h|h|h|h)
    .omega
    .obtain⟨y,hy,h2⟩:=BN.1 h;have:=z3 y hy;unfold SL at h2;rw[QU this]at h2;cases h2
    .have h2:L.any (λy=>y==mi)=true:=BN.2 ⟨mi,hmL,σ⟩;rw[h2]at h;cases h
    .omega
    .omega
    .omega
   have hLe:=QH3 mi L (C (a+t) - C a) x.config.ZX ω ω ω;rw[Qc nb,Qc nb]at hLe;have x3:=QI (show ¬A (a+t) - A a<QnD mi L (C (a+t) - C a) x.config.ZX.toNat from ω);apply Qg hb;simp only[go_sem,Qe,dt,ht1,K6,EL,Sy,o1,o2,x1,x2,hc4,QnQ,hmi,hx4,QnH];refine⟨ω,?_⟩;apply Qg hb;simp only[go_sem,Qe,o1,o2,x1,x2,hc4,QnQ,hmi,hx4,QnH];refine cT hb QBg ?_ hLe ?_
   .simp only[go_sem,Qe,hs4,QP4,x2,hc4,QnQ,hmi,hx4,QnH];exact⟨λi hi=>by rw[ZG i hi];rfl,λi hi=>ZG i hi⟩
   apply Qg hb;simp only[go_sem,Qe,x1,x3,o1,o2,Go.undef];rw[<- o1];exact⟨ht1,_,Qz.frame (by simp only[go_sem,hwt]),_,rfl,λq h1 h2=>(Qbn q h1 ω).trans o1.symm⟩
  .obtain rfl:t=N - a:=ω;have dt:=QI ht1;apply Qg hb;simp only[go_sem,Qe,dt];apply JH hb;exact⟨ha1,_,Qz.frame (by simp only[go_sem,hwa]),_,rfl⟩
 .obtain rfl:a=N:=ω;have da:=QI ha1;apply Qg hb;simp only[go_sem,Qe,da];apply JH hb;refine VC hb [] Qog rfl ?_ An rfl λd h hR=>?_
  .simp only[go_sem,Qe]
  obtain⟨rfl,rfl⟩:=hR;simp only[go_sem,Qe];exact Bk hb
end Go.Fg.X
namespace Go.Fg.X
open Go.Proofs Go.Fg Go.Proofs.YtkfemlhbbcojnaaGreat
open Go.ChangeShapes Go.RowKit
open Go.Proofs.Tryz
def QP7:laidOutB prog=true:=τ
def QP8:mapsRowed prog=true:=τ
def QP9:prog.stopsHeard=true:=τ
def QQa:prog.mayEnter=true:=τ
def QQb:(Rows.behindShareRow.lifted==prog.liftsFinal)=true:=τ
def QQc:(prog.make==some Rows.behindShareRow.make)=true:=τ
end Go.Fg.X
namespace Go.Fg.X
open Go.Proofs Go.Fg Go.Proofs.YtkfemlhbbcojnaaGreat
open Go.ChangeShapes Go.WideShapes Go.ChangeAt Go.RowKit
open Go.Proofs.Tryz
def QQd:ownKnob prog.godebug=none:=τ
def QIm:laidOutB prog=true:=τ
def QQe(os:Os)(started:os.Started)(H:Type)(enc:TypeId × Value->H):
  ReturnsInHanded {} checked os 11 .any (Rows.behindShareSpec.pre6 enc prog f11 Rows.behindShareRow.domain false) (Rows.behindShareSpec.post enc prog f11 false true false false):=by
 refine returnsInHanded_of_change (C:=checked) QQd started τ func11
  (ChangeSpec.witness6 (enc:=enc) (C:=checked) false ⟨#[],#[.agg #[.int .i64 0,.int .i64 0,.slice none 0 0],.int .i64 0],[]⟩ 12 τ τ τ τ) ?_
 intro W base args ds gs before Uf hW QBW _;have O5:∀(j:Nat) t v,f11.params[j]? = some t->args[j]? = some v->Value.okWide prog W .any base t v:=Uf;have uR:=hW;obtain⟨p,q,Ug,hV,rfl,Cu,ZU⟩:=hW;have hA:DataW.TrodAll enc prog W 0 (λ_=>true) true f11.params.toList args.toList ds p:=Ug;rw[params11]at hA O5;obtain⟨v0,vs0,d0,ds0,p0,q0,Rs,rfl,rfl,h0,r0⟩:=trodAll_cons hA;obtain⟨v1,vs1,d1,ds1,p1,q1,rfl,rfl,rfl,h1,r1⟩:=trodAll_cons r0;obtain⟨rfl,rfl,rfl⟩:=trodAll_nil r1;obtain rfl:args=#[v0,v1]:=by cases args;simp_all
 obtain⟨rfl,rfl⟩:=trodVars_none hV;obtain⟨uS,rfl,_⟩:=okWide_struct underlying26 (O5 0 26 v0 rfl rfl);obtain⟨n1,rfl⟩:=okWide_int underlying3 (O5 1 3 v1 rfl rfl);have t0:=h0;have uT:∀x∈p0,x.block<W.heap.size:=by obtain⟨m,hm⟩:=t0;exact DataW.trod_lt m _ _ _ hm
 have t1:=h1;have lt1:∀x∈p1,x.block<W.heap.size:=by obtain⟨m,hm⟩:=t1;exact DataW.trod_lt m _ _ _ hm
 obtain⟨x0,k0,c0⟩:=Rd.many QdW h0;obtain⟨x1,k1,c1⟩:=Rd.one (Rd.int .i64 underlying3) h1 (Qrt _ _);clear Ug Uf;have walk:Calls prog 11 #[.agg uS,.int .i64 n1] W λe W'=>e=.returned (.bool true)/\Below W.heap.size W W':=QdV (QP3 x0 x1 k0.2.1.2) W [_,_] rfl (λi hi=>match i,hi with
  | 0,_=>c0
  | 1,_=>c1)
 refine walk.mono λe W' ⟨he,Yj⟩=>?_;subst he;exact⟨_,rfl,_,_,_,[],_,[],uR,trodAll_mk1 (shut_bool underlying4 _),(trodAll_cons_mk (Below.trod QIm τ (X8 τ) t0 Yj uT) (trodAll_cons_mk (Below.trod QIm τ (X8 τ) t1 Yj lt1) trodAll_mk0)),rfl,Yj.frame _,λh=>by cases h⟩
def jn{a b}(ha:a=true)(hb:b=true):(a&&b)=true:=by rw[ha,hb];rfl
def QQf:(Rows.behindShareRow.inPlace==prog.inPlace 11)=true:=τ
def QQg:(Rows.behindShareRow.unfollowed==prog.unfollowed 11)=true:=τ
def QQh:(Rows.behindShareRow.recurses==prog.recurses 11)=true:=τ
def QQi:(Rows.behindShareRow.named==prog.varsNamed 11)=true:=τ
def QQj:(Rows.behindShareRow.maps==(f11.params.toList++Rows.behindShareSpec.plain.varTypes prog).any (prog.mapsRec ·))=true:=τ
def QQk:(Rows.behindShareRow.ifaces==(f11.params.toList++Rows.behindShareSpec.plain.varTypes prog).any (prog.ifacesRec ·))=true:=τ
def QQl:(Rows.behindShareRow.loops==(f11.params.toList++Rows.behindShareSpec.plain.varTypes prog).any (prog.loopsFrom ·))=true:=τ
def QQm:joinedFacts prog 11 f11 Rows.behindShareSpec Rows.behindShareRow=true:=by
 unfold joinedFacts;refine(jn (jn (jn (jn (jn (jn (jn (jn (jn (jn (jn (jn (jn (jn (jn (jn (jn (jn (jn (jn (jn (jn (jn (jn (jn (jn (jn (jn (jn (jn (jn ?_ QP7) QP8) ?_) ?_) ?_) ?_) ?_) ?_) QQf) QQg) QQh) QQi) QQj) QQk) ?_) QQl) ?_) ?_) ?_) ?_) ?_) ?_) ?_) QP9) QQa) QQb) QQc) ?_) ?_) ?_) ?_);all_goals kernel_rfl
def QQn:prog.funcNamed Rows.behindShareRow.func=some 11:=τ
theorem provedBehindShare:Rows.BehindShareSaid:=
 OpenClaim.holds_of_wide 11 f11 rfl rfl rfl rfl rfl rfl rfl ⟨rfl,rfl,rfl,rfl,rfl⟩ rfl rfl rfl rfl rfl QQn func11 QQm
  (X8 τ) (by unfold Func.isWrapper;first|(rw[Qd (by decide +kernel)];kernel_rfl)|(rw[Qc (by decide +kernel)];exact⟨rfl,rfl⟩))
  (λos started H enc _=>QQe os started H enc)
end Go.Fg.X
namespace Go.Proofs.YtkfemlhbbcojnaaGreat
theorem behindShare_done: Rows.BehindShareSaid := Go.Fg.X.provedBehindShare
end Go.Proofs.YtkfemlhbbcojnaaGreat
