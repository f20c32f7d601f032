/- The statement WholeGuarantee is proved. No conditions. -/
import Derived.Test.YtbemejcgkfieeaaGreatWKpA
import Derived.Test.YtbemejcgkfieeaaGreatCA2A
import Derived.Test.YtbemejcgkfieeaaGreatRows
set_option maxRecDepth 100000
set_option maxHeartbeats 16000000
set_option linter.unusedVariables false
set_option linter.unusedSimpArgs false
set_option linter.unusedSectionVars false
set_option linter.defProp false
namespace Go.Fg.X
open Go.Proofs Go.Fg Go.Fg.X.SP
open Go.Proofs.Tryz
def QGQ(E:List Ev){n}(b:n<=E.length):∀i,i<n->Ev.rows E i=Ev.rows (E.take n) i:=λi a=>by rw[Ev.vN,Ev.vN,QU,QU,XJ,Qe a]
def QGR(x:XB)(O:x.ops.length<=maxLen)(s:∀a∈x.ops,Zt.Ok a):QM prog 3 [.agg x.cells] (QR (QV true)):=by
 have z:=QFO x O s;have H:=QFy x 100 π;have u:=QFT;cases C:(Gy x.config&&Aq x 100) with
 | false=>rw[C]at H;refine Q1 0 func3 ntmps3 results3 λp w f=>?_;simp only[go_sem];refine Xn f [] pU rfl ?_ z rfl λd h g=>?_;simp only[go_sem];obtain⟨rfl,rfl⟩:=g;simp only[go_sem];apply Qg f;refine Xn f [] pV rfl ?_ H rfl λd h g=>?_;simp only[go_sem];obtain⟨rfl,rfl⟩:=g;simp only[go_sem];apply Qh f;simp only[go_sem,Go.undef];refine Xn f [] pW rfl ?_ u rfl λd h g=>?_;simp only[go_sem];obtain⟨rfl,rfl⟩:=g;simp only[go_sem];exact VT f
 | true=>
 rw[C]at H;rw[ZM]at C;cases Y:Aw x with
 | false=>rw[Y]at z;refine Q1 0 func3 ntmps3 results3 λp w f=>?_;simp only[go_sem];refine Xn f [] pU rfl ?_ z rfl λd h g=>?_;simp only[go_sem];obtain⟨rfl,rfl⟩:=g;simp only[go_sem];apply Qg f;refine Xn f [] pV rfl ?_ H rfl λd h g=>?_;simp only[go_sem];obtain⟨rfl,rfl⟩:=g;simp only[go_sem];apply Qg f;refine Xn f [] pW rfl ?_ u rfl λd h g=>?_;simp only[go_sem];obtain⟨rfl,rfl⟩:=g;simp only[go_sem];exact VT f
 | true=>
 rw[Y]at z;have K:=QDd.1 C.1;obtain⟨a7,ZS⟩:=QE0 C.2 s;obtain⟨T,hT,IL,IT,Kl,Zd,h0,a2⟩:=QFV K s Y;rw[hT]at z;have a9:=IT.len;have P9:=Qnj Zd;have N:=Qmw x K ω ZS;have lE:(Za (S0 x.config) x.ops).2.2.length<100000000:=Qb4 (x:=x) (m:=100) K a7 π s;have a4:(Za (S0 x.config) x.ops).2.2.length<1048576:=by have h:=Qb3 x.ops (ZQ.IU K) (n:=0) (λj=>Z7 _) s;have F:x.ops.length*(64*(0+x.ops.length)+2)<=100*(64*100+2):=Xk ω ω;omega
 have Cq:=λ{k:Nat} (Q:k<=x.ops.length)=>QFx x.config x.ops Q;obtain⟨E,hE⟩:=Zc ((Za (S0 x.config) x.ops).2.2);obtain⟨R,g⟩:=Zc ((Za (S0 x.config) x.ops).2.1);rw[<-hE,<-g]at N;rw[<-hE]at lE a4 Cq;refine Q1 0 func3 ntmps3 results3 λp w f=>?_;simp only[go_sem];refine Xn f [] pU rfl ?_ z rfl λd h g=>?_;simp only[go_sem];obtain⟨rfl,rfl⟩:=g;simp only[go_sem];apply Qg f;refine Xn f [] pV rfl ?_ H rfl λd h g=>?_;simp only[go_sem];obtain⟨rfl,rfl⟩:=g;simp only[go_sem];apply Qg f;refine Xn f [] fn9 rfl ?_ N rfl λd h g=>?_;simp only[go_sem];obtain⟨rfl,rfl⟩:=g;simp only[go_sem];apply Qg f;refine xT (G:=Nat) [1,3,5,6,32] (λk=>True) (λk q=>[(33,Qa k)]) (λk q=>[⟨.one,0,3,1,λ_=>x.cells⟩,⟨.one,0,2,1,λ_=>[NS R,YD E]⟩]) (x.ops.length) (0) rfl (Qs.to 2 (by (simp only[go_sem])<;>simp)) trivial ?_;intro k q Q _;apply Qg f;have Z:=JJ (show k<4611686018427387904 from ω);first|refine WN Q (λl=>?_) (λl=>?_)|refine WO Q (λl=>?_) (λl=>?_)
 have ZJ:=l;obtain⟨u1,U⟩:=Cq (k:=k+1) ω;have hU:=QFA E (k+1) ω;have hC:=QFD x (k+1) ω ω s;have W:∀a∈x.ops.take (k+1),Zt.Ok a:=λa S=>s a (Oi S);have a6:∀o∈(x.ops.take (k+1)).tail,o.kind≠1:=λo P=>P9 o (by
  cases ji:x.ops with
  | nil=>rw[ji]at P;simp at P
  | cons a r=>rw[ji]at P;exact Oi (i:=k) P)
 have a3:=a2 (k+1) ω ω;have y:=λ(r:Int) (c:Ql)=>QGP K (x.ops.take (k+1)) (by rw[Og];omega) W a6 (r:=r) (k:=c);rw[a3,<-U]at y;have mD:(Za (S0 x.config) (x.ops.take (k+1))).1.Qc=(x.ops.take (k+1)).foldl qT 0:=Qna _ _;rw[mD]at y;have a5:(x.ops.take (k+1)).foldl qT 0<=4611686018427387904:=by have h:=Qcg x.ops (k+1) x.ops.length (Qv _);rw[kb ω]at h;rw[<-h];exact Qcf _ _ _
 have V:∀e∈E.take (yv E (k+1)),e.GO:=by rw[U];exact QFM K _ W
 have M:=Qnk K _ W;rw[<-U]at M;have k2:=K.l2;have If:∀e∈E.take (yv E (k+1)),0<=e.len/\e.len<=16384:=λe he=>by obtain⟨i,t,rfl⟩:=j8 he;have h:=(M i t).2.2;rw[QU,QH t]at h;have F:1<=((E.take (yv E (k+1)))[i]).len:=h.1;have h2:((E.take (yv E (k+1)))[i]).len<=x.config.Ze:=h.2.1;omega
 have v:=QFz E (k+1);obtain⟨n,hn⟩:=Zc (yv E (k+1));obtain⟨a0,Wd⟩:=Zc ((x.ops.take (k+1)).foldl qT 0);rw[<-hn]at hU y V If v;rw[<-Wd]at hC y a5;obtain⟨L,hL⟩:=Zc (E.take n);have uZ:L.length=n:=by rw[hL,Og];omega
 have F5:=QGQ E v;rw[<-hL]at y V If F5;simp only[go_sem,ZJ];apply Qy f [0,1,2,3,4,5,1006,7,8];simp only[go_sem,Z];apply ZP f Qtq hU;apply Jb f;simp only[go_sem,Z,v];refine DM (Qs.Qnl (d':=YD L) 8 ?_) ?_;refine⟨rfl,by show L.length=((n:Int)-0).toNat;omega,λi t=>?_⟩;have JH:i<n:=by have h:i<L.length:=t;omega
 have e:=F5 i JH;show zq _ (Ev.rows E i) (Ev.rows L i);rw[e];exact vK (zw _) _;refine Xn f [] Qtr rfl ?_ hC rfl λd h g=>?_;simp only[go_sem];obtain⟨rfl,rfl⟩:=g;simp only[go_sem];apply Qg f;refine xT (G:=Nat) [1,3,5,6,32,33,8,9,48,49] (λk=>True) (λk q=>[(50,Qa k)]) (λk q=>[⟨.one,0,3,1,λ_=>x.cells⟩,⟨.one,0,2,1,λ_=>[NS R,YD E]⟩]) (T.length) (0) rfl (Qs.to 2 (by (simp only[go_sem])<;>simp)) trivial ?_;intro i a8 t _;apply Qg f;have l9:=JJ (show i<4611686018427387904 from ω);first|refine WN t (λl=>?_) (λl=>?_)|refine WO t (λl=>?_) (λl=>?_)
 have KM:=l;obtain⟨c,hc⟩:=Zc (T.getD i default);have OR:c∈T:=by rw[hc];exact YZ T default i KM
 have B:=IL.nn c OR;have hO:=FL c.rt B.1.1 B.1.2.1 B.1.2.2;have WH:=(VK IT.rising).2 ⟨OR,rfl⟩;simp only[go_sem,KM,<-hc];apply QZ f yO hO;apply Qh f;simp only[go_sem,Go.undef];by_cases F:1<QJ c.rt;have d1:=QY F;have I:=y c.iD c WH F;obtain⟨a,S⟩:∃a:Nat,c.rt.m1=a:=⟨c.rt.m1.toNat,by have:=B.1.1;omega⟩;obtain⟨dd,hd⟩:∃a:Nat,c.rt.d=a:=⟨c.rt.d.toNat,by have:=B.1.2.1;omega⟩;obtain⟨b,wE⟩:∃a:Nat,c.rt.m2=a:=⟨c.rt.m2.toNat,by have:=B.1.2.2;omega⟩;have a1:Jv c.rt=⟨a,dd,b⟩:=by unfold Jv;rw[S,hd,wE];rfl
 rw[a1]at I;have J:=QGb x.config K a dd b L c.iD a0 ω V If ω;rw[I]at J;simp only[go_sem,d1,S,hd,wE];apply QZ f Qts J;apply Qg f;repeat (refine And.intro η ?_)
 refine⟨_,Qs.to 2 (by (simp only[go_sem,l9])<;>simp),Vj.mk (q) (trivial)⟩;have d1:=QN F;simp only[go_sem,d1,Go.undef];repeat (refine And.intro η ?_)
 refine⟨_,Qs.to 2 (by (simp only[go_sem,l9])<;>simp),Vj.mk (q) (trivial)⟩;subst l;simp only[go_sem];apply Qg f;repeat (refine And.intro η ?_)
 refine⟨_,Qs.to 2 (by (simp only[go_sem,Z])<;>simp),Vj.mk (q) (trivial)⟩;subst l;simp only[go_sem];apply Qg f;refine Xn f [] pW rfl ?_ u rfl λd h g=>?_;simp only[go_sem];obtain⟨rfl,rfl⟩:=g;simp only[go_sem];exact VT f
end Go.Fg.X
namespace Go.Fg.X
open Go.Proofs Go.Fg Go.Proofs.YtbemejcgkfieeaaGreat
open Go.ChangeShapes Go.RowKit
open Go.Proofs.Tryz
def QGY:laidOutB prog=true:=τ
def QGZ:mapsRowed prog=true:=τ
def QG0:prog.stopsHeard=true:=τ
def QG1:prog.mayEnter=true:=τ
def QG2:(Rows.wholeGuaranteeRow.lifted==prog.liftsFinal)=true:=τ
def QG3:(prog.make==some Rows.wholeGuaranteeRow.make)=true:=τ
end Go.Fg.X
namespace Go.Fg.X
open Go.Proofs Go.Fg Go.Proofs.YtbemejcgkfieeaaGreat
open Go.ChangeShapes Go.WideShapes Go.ChangeAt Go.RowKit
open Go.Proofs.Tryz
def QG4:ownKnob prog.godebug=none:=τ
def QG5:laidOutB prog=true:=τ
def QG6(w:Os)(b:w.Started)(H:Type)(c:TypeId × Value->H):
  ReturnsInHanded {} checked w 3 .any (Rows.wholeGuaranteeSpec.pre6 c prog f3 Rows.wholeGuaranteeRow.domain false) (Rows.wholeGuaranteeSpec.post c prog f3 false true false false):=by
 refine returnsInHanded_of_change (C:=checked) QG4 b τ func3
  (ChangeSpec.witness6 (enc:=c) (C:=checked) false ⟨#[],#[.agg #[.int .i64 0,.int .i64 0,.slice none 0 0]],[]⟩ 12 τ τ τ τ) ?_
 intro W l a Q Y n g B U _;have f:∀(j:Nat) t v,f3.params[j]?=some t->a[j]?=some v->Value.okWide prog W .any l t v:=g;have r:=B;obtain⟨p,q,d,P,rfl,CA,Ji⟩:=B;have E:DataW.TrodAll c prog W 0 (λ_=>true) true f3.params.toList a.toList Q p:=d;rw[params3]at E f;obtain⟨u,S,d0,T,L,V,Z,rfl,rfl,F,K⟩:=trodAll_cons E;obtain⟨rfl,rfl,rfl⟩:=trodAll_nil K;obtain rfl:a=#[u]:=by cases a;simp_all
 obtain⟨rfl,rfl⟩:=trodVars_none P;obtain⟨s,rfl,_⟩:=okWide_struct underlying26 (f 0 26 u rfl rfl);have t0:=F;have o:∀x∈L,x.block<W.heap.size:=by obtain⟨m,M⟩:=t0;exact DataW.trod_lt m _ _ _ M
 obtain⟨J,y,R⟩:=Rd.many Qvz F;clear d g;have k:Calls prog 3 #[.agg s] W λe I=>e=.returned (.bool true)/\Below W.heap.size W I:=Qvr (QGR J y.2.1.1 y.2.1.2) W [_] rfl (λi N=>match i,N with
  | 0,_=>R)
 refine k.mono λe I ⟨O,z⟩=>?_;subst O;exact⟨_,rfl,_,_,_,[],_,[],r,trodAll_mk1 (shut_bool underlying4 _),(trodAll_cons_mk (Below.trod QG5 τ (qw τ) t0 z o) trodAll_mk0),rfl,z.frame _,λh=>by cases h⟩
def jn{a b}(d:a=true)(c:b=true):(a&&b)=true:=by rw[d,c];rfl
def QHa:(Rows.wholeGuaranteeRow.inPlace==prog.inPlace 3)=true:=τ
def QHb:(Rows.wholeGuaranteeRow.unfollowed==prog.unfollowed 3)=true:=τ
def QHc:(Rows.wholeGuaranteeRow.recurses==prog.recurses 3)=true:=τ
def QHd:(Rows.wholeGuaranteeRow.named==prog.varsNamed 3)=true:=τ
def QHe:(Rows.wholeGuaranteeRow.maps==(f3.params.toList++Rows.wholeGuaranteeSpec.plain.varTypes prog).any (prog.mapsRec ·))=true:=τ
def QHf:(Rows.wholeGuaranteeRow.ifaces==(f3.params.toList++Rows.wholeGuaranteeSpec.plain.varTypes prog).any (prog.ifacesRec ·))=true:=τ
def QHg:(Rows.wholeGuaranteeRow.loops==(f3.params.toList++Rows.wholeGuaranteeSpec.plain.varTypes prog).any (prog.loopsFrom ·))=true:=τ
def QHh:joinedFacts prog 3 f3 Rows.wholeGuaranteeSpec Rows.wholeGuaranteeRow=true:=by unfold joinedFacts;refine(jn (jn (jn (jn (jn (jn (jn (jn (jn (jn (jn (jn (jn (jn (jn (jn (jn (jn (jn (jn (jn (jn (jn (jn (jn (jn (jn (jn (jn (jn (jn ?_ QGY) QGZ) ?_) ?_) ?_) ?_) ?_) ?_) QHa) QHb) QHc) QHd) QHe) QHf) ?_) QHg) ?_) ?_) ?_) ?_) ?_) ?_) ?_) QG0) QG1) QG2) QG3) ?_) ?_) ?_) ?_);all_goals kernel_rfl
def QHi:prog.funcNamed Rows.wholeGuaranteeRow.func=some 3:=τ
theorem provedWholeGuarantee:Rows.WholeGuaranteeSaid:=
 OpenClaim.holds_of_wide 3 f3 rfl rfl rfl rfl rfl rfl rfl ⟨rfl,rfl,rfl,rfl,rfl⟩ rfl rfl rfl rfl rfl QHi func3 QHh
  (qw τ) (by unfold Func.isWrapper;first|(rw[Qe (by decide +kernel)];kernel_rfl)|(rw[Qd (by decide +kernel)];exact⟨rfl,rfl⟩))
  (λc a H b _=>QG6 c a H b)
end Go.Fg.X
namespace Go.Proofs.YtbemejcgkfieeaaGreat
theorem wholeGuarantee_done: Rows.WholeGuaranteeSaid := Go.Fg.X.provedWholeGuarantee
end Go.Proofs.YtbemejcgkfieeaaGreat
