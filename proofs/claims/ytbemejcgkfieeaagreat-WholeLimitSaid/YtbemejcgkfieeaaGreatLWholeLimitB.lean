/- The statement WholeLimit is proved. No conditions. -/
import Derived.Test.YtbemejcgkfieeaaGreatTJ6B
import Derived.Test.YtbemejcgkfieeaaGreatCA2B
import Derived.Test.YtbemejcgkfieeaaGreatRows
set_option maxRecDepth 100000
set_option maxHeartbeats 16000000
set_option linter.unusedVariables false
set_option linter.unusedSimpArgs false
set_option linter.unusedSectionVars false
set_option linter.defProp false
namespace Go.Fg.X
open Go.Proofs Go.Fg Go.Fg.X.SP
open Go.Proofs.Tryz
def QFn{T}{a:List Int}{i}(b:i<a.length){c:Ql}(d:Qw T (a.getD i 0)=some c):Gl T (a.take (i+1))=(Gl T (a.take i)&&!decide (1<QH c.rt)):=by
 have e:a.take (i+1)=a.take i++[a.getD i 0]:=by
  rw[zS,QJ b,QW,QJ b];rfl
 rw[e];unfold Gl;rw[List.all_append];simp only[List.all_cons,List.all_nil,d,Bool.and_true]
def QFo(x:Xr)(Q:x.ops.length<=maxLen)(z:∀a∈x.ops,ZO.Ok a):QI prog 4 [.agg x.cells] (QN (QU true)):=by
 have C:=QE2 x Q z;have I:=QEP x 100 π;have v:=QE8;cases H:(MQ x.config&&y5 x 100) with
 | false=>
  rw[H]at I;refine QY 0 func4 ntmps4 results4 λq w f=>?_;simp only[go_sem];refine Wy f [] o8 rfl ?_ C rfl λd h g=>?_;simp only[go_sem];obtain⟨rfl,rfl⟩:=g;simp only[go_sem];apply Qg f;refine Wy f [] o9 rfl ?_ I rfl λd h g=>?_;simp only[go_sem];obtain⟨rfl,rfl⟩:=g;simp only[go_sem];apply Qh f;simp only[go_sem,Go.undef];refine Wy f [] pc rfl ?_ v rfl λd h g=>?_;simp only[go_sem];obtain⟨rfl,rfl⟩:=g;simp only[go_sem];exact VE f
 | true=>
 rw[H]at I;rw[ZE]at H;cases S4:y6 x with
 | false=>
  rw[S4]at C;refine QY 0 func4 ntmps4 results4 λq w f=>?_;simp only[go_sem];refine Wy f [] o8 rfl ?_ C rfl λd h g=>?_;simp only[go_sem];obtain⟨rfl,rfl⟩:=g;simp only[go_sem];apply Qg f;refine Wy f [] o9 rfl ?_ I rfl λd h g=>?_;simp only[go_sem];obtain⟨rfl,rfl⟩:=g;simp only[go_sem];apply Qg f;refine Wy f [] pc rfl ?_ v rfl λd h g=>?_;simp only[go_sem];obtain⟨rfl,rfl⟩:=g;simp only[go_sem];exact VE f
 | true=>
 rw[S4]at C;have K:=QB2.1 H.1;obtain⟨a3,ZS⟩:=QDS H.2 z;obtain⟨T,hT,IL,Y,Kl,QZ,h0,L⟩:=QFa K z S4;rw[hT]at C;have J:=L x.ops.length h0 (QB _);rw[Wn]at J;have lL:=Y.len;have Pw:=Qmw QZ;have P:=Qlx x K ω ZS;have Z:=λ(u:Int) (k:Ql)=>QFm K x.ops ω z Pw (J▸Y) (J▸Kl) (u:=u) (k:=k);rw[J]at Z;have qT:∀e∈(Zx (S0 x.config) x.ops).2.2,e.CK:=QE0 K x.ops z;have lE:(Zx (S0 x.config) x.ops).2.2.length<100000000:=Qbp (x:=x) (m:=100) K a3 π z;obtain⟨E,hE⟩:∃E,E=(Zx (S0 x.config) x.ops).2.2:=⟨_,rfl⟩;obtain⟨R,g⟩:∃R,R=(Zx (S0 x.config) x.ops).2.1:=⟨_,rfl⟩;rw[<- hE,<- g]at P;rw[<- hE]at qT lE Z;clear hE g L hT J ZS;refine QY 0 func4 ntmps4 results4 λq w f=>?_;simp only[go_sem];refine Wy f [] o8 rfl ?_ C rfl λd h g=>?_;simp only[go_sem];obtain⟨rfl,rfl⟩:=g;simp only[go_sem];apply Qg f;refine Wy f [] o9 rfl ?_ I rfl λd h g=>?_;simp only[go_sem];obtain⟨rfl,rfl⟩:=g;simp only[go_sem];apply Qg f;refine Wy f [] fn9 rfl ?_ P rfl λd h g=>?_;simp only[go_sem];obtain⟨rfl,rfl⟩:=g;simp only[go_sem];apply Qg f;refine kO (G:=Nat) [1,3,5,6,31,32] (λk=>True) (λk p=>[(33,Qa k)]) (λk p=>[⟨.one,0,3,1,λ_=>x.cells⟩,⟨.one,0,2,1,λ_=>[Nf R,YI E]⟩]) (T.length) (0) rfl (Qo.to 2 (by (simp only[go_sem])<;>simp)) trivial ?_;intro k p hk _;apply Qg f;have QQ:=Jr (show k<4611686018427387904 from ω);first|refine We hk (λl=>?_) (λl=>?_)|refine Wf hk (λl=>?_) (λl=>?_)
 have ZJ:=l;obtain⟨c,hc⟩:∃c,c=T.getD k default:=⟨_,rfl⟩;have N9:c∈T:=by rw[hc];exact qE T default k ZJ
 have F:=IL.nn c N9;have hO:=Dp c.ul F.2.2.1 F.2.2.2.1 F.2.2.2.2;have Wu:=(VF Y.rising).2 ⟨N9,rfl⟩;simp only[go_sem,ZJ,<- hc];apply QV f xo hO;apply Qg f;by_cases S:QH c.ul<2;have d1:=QS S;simp only[go_sem,d1];repeat (refine And.intro δ ?_)
 refine⟨_,Qo.to 2 (by (simp only[go_sem,QQ])<;>simp),JW.mk (p) (trivial)⟩;have d1:=QG S;have O:=QES T c.iD ω;have t:=Z c.iD c Wu ω;rw[QEV IL]at t;have N:∀id∈Gk T c.iD,∃o∈T,o.iD=id:=λid h=>by
  obtain⟨o,W,rfl⟩:=Ji.1 h;exact⟨o,(Jt.1 W).1,rfl⟩
 have a2:(Gk T c.iD).length<=64:=by
  unfold Gk;rw[Kj];exact JY (XS _ _) lL
 obtain⟨n,uM⟩:∃n,n=Gk T c.iD:=⟨_,rfl⟩;rw[<- uM]at O t N a2;simp only[go_sem,d1];refine Wy f [] Qr4 rfl ?_ O rfl λd h g=>?_;simp only[go_sem];obtain⟨rfl,rfl⟩:=g;simp only[go_sem];apply Qg f;refine kO (G:=Nat) [1,3,5,6,31,32,33,8,9,45,46] (λk=>True) (λk p=>[(10,QU (Gl T (n.take k))),(47,Qa k)]) (λk p=>[⟨.one,0,3,1,λ_=>x.cells⟩,⟨.one,0,2,1,λ_=>[Nf R,YI E]⟩,⟨.one,0,14,1,λ_=>c.cells⟩]) (n.length) (0) rfl (Qo.to 3 (by (simp only[go_sem,List.take_zero,Gl,List.all_nil])<;>simp)) trivial ?_;intro i a4 hi _;apply Qg f;have yP:=Jr (show i<4611686018427387904 from ω);first|refine We hi (λl=>?_) (λl=>?_)|refine Wf hi (λl=>?_) (λl=>?_)
 have V:=l;obtain⟨id,U⟩:∃id,id=n.getD i 0:=⟨_,rfl⟩;obtain⟨o,W,Av⟩:=N id (by rw[U];exact qE n 0 i V);have Fs:=(VF Y.rising).2 ⟨W,Av⟩;have B:=QFn V (U▸Fs);have M:=yD T id ω;obtain⟨j,hj,Bd,Zv⟩:∃j,j<T.length/\qf T id=(j:Int)/\T.getD j default=o:=by
  rcases Pd T id with ⟨a,b⟩|⟨j,a,b,d⟩;rw[Fs]at a;cases a;rw[Fs]at d;exact⟨j,a,b,(Ix d).symm⟩
 have y:=IL.nn o W;have EK:=Dp o.rt y.1.1 y.1.2.1 y.1.2.2;rw[Bd]at M;obtain⟨fb,s⟩:∃fb,fb=Gl T (n.take i):=⟨_,rfl⟩;rw[<- s]at B;cases fb with
 | false=>
  rw[Ie]at B;simp only[go_sem,V,<- U,<- s,Go.undef];repeat (refine And.intro δ ?_)
  refine⟨_,Qo.to 3 (by (simp only[go_sem,yP,B])<;>simp),JW.mk (p) (trivial)⟩
 | true=>
  rw[If]at B;simp only[go_sem,V,<- U,<- s];apply QV f yo M;apply Qh f;simp only[go_sem,hj,Zv];apply QV f xo EK;apply Qg f;have e6:(!decide (1<QH o.rt))=decide (QH o.rt<2):=by
   by_cases h:QH o.rt<2;rw[QS h,QG ω];rfl;rw[QG h,QS ω];rfl
  rw[e6]at B;repeat (refine And.intro δ ?_)
  refine⟨_,Qo.to 3 (by (simp only[go_sem,yP,B])<;>simp),JW.mk (p) (trivial)⟩
 subst l;rw[Wn];simp only[go_sem];cases Yh:Gl T n with
 | false=>
  apply Qh f;simp only[go_sem,Go.undef];repeat (refine And.intro δ ?_)
  refine⟨_,Qo.to 2 (by (simp only[go_sem,QQ])<;>simp),JW.mk (p) (trivial)⟩
 | true=>
  obtain⟨w1,_⟩:=t Yh;obtain⟨a,ha⟩:∃a:Nat,c.ul.m1=a:=⟨c.ul.m1.toNat,by have:=F.2.2.1;omega⟩;obtain⟨dd,hd⟩:∃a:Nat,c.ul.d=a:=⟨c.ul.d.toNat,by have:=F.2.2.2.1;omega⟩;obtain⟨b,vN⟩:∃a:Nat,c.ul.m2=a:=⟨c.ul.m2.toNat,by have:=F.2.2.2.2;omega⟩;have a0:Jk c.ul=⟨a,dd,b⟩:=by unfold Jk;rw[ha,hd,vN];rfl
  rw[a0]at w1;have a1:QI prog 16 [Hu a dd b,Qa x.config.Jb,YI E,ints n] (QN (.agg [Qa 0,QU false])):=(QFk a dd b x.config.Jb E n ω ω qT (by have:=K.l1;have:=K.l2;omega)).mono λr h g=>by
   obtain⟨e1,⟨j,i,S,h2,h3,_⟩|⟨_,e2⟩⟩:=g;rw[w1 j S i h2]at h3;cases h3;exact⟨e2,e1⟩
  apply Qh f;simp only[go_sem,ha,hd,vN];refine Wy f [] Qr5 rfl ?_ a1 rfl λd h g=>?_;simp only[go_sem];obtain⟨rfl,rfl⟩:=g;simp only[go_sem];apply Qg f;repeat (refine And.intro δ ?_)
  refine⟨_,Qo.to 2 (by (simp only[go_sem,QQ])<;>simp),JW.mk (p) (trivial)⟩
 subst l;simp only[go_sem];apply Qg f;refine Wy f [] pc rfl ?_ v rfl λd h g=>?_;simp only[go_sem];obtain⟨rfl,rfl⟩:=g;simp only[go_sem];exact VE f
end Go.Fg.X
namespace Go.Fg.X
open Go.Proofs Go.Fg Go.Proofs.YtbemejcgkfieeaaGreat
open Go.ChangeShapes Go.RowKit
open Go.Proofs.Tryz
def QFs:laidOutB prog=true:=τ
def QFt:mapsRowed prog=true:=τ
def QFu:prog.stopsHeard=true:=τ
def QFv:prog.mayEnter=true:=τ
def QFw:(Rows.wholeLimitRow.lifted==prog.liftsFinal)=true:=τ
def QFx:(prog.make==some Rows.wholeLimitRow.make)=true:=τ
end Go.Fg.X
namespace Go.Fg.X
open Go.Proofs Go.Fg Go.Proofs.YtbemejcgkfieeaaGreat
open Go.ChangeShapes Go.WideShapes Go.ChangeAt Go.RowKit
open Go.Proofs.Tryz
def QFy:ownKnob prog.godebug=none:=τ
def QFz:laidOutB prog=true:=τ
def QFA(y:Os)(b:y.Started)(H:Type)(c:TypeId × Value->H):
  ReturnsInHanded {} checked y 4 .any (Rows.wholeLimitSpec.pre6 c prog f4 Rows.wholeLimitRow.domain false) (Rows.wholeLimitSpec.post c prog f4 false true false false):=by
 refine returnsInHanded_of_change (C:=checked) QFy b τ func4
  (ChangeSpec.witness6 (enc:=c) (C:=checked) false ⟨#[],#[.agg #[.int .i64 0,.int .i64 0,.slice none 0 0]],[]⟩ 12 τ τ τ τ) ?_
 intro W l a Q Y n g B U _;have f:∀(j:Nat) t v,f4.params[j]?=some t->a[j]?=some v->Value.okWide prog W .any l t v:=g;have r:=B;obtain⟨p,q,d,P,rfl,B6,Z9⟩:=B;have E:DataW.TrodAll c prog W 0 (λ_=>true) true f4.params.toList a.toList Q p:=d;rw[params4]at E f;obtain⟨w,S,d0,T,L,V,Z,rfl,rfl,F,K⟩:=trodAll_cons E;obtain⟨rfl,rfl,rfl⟩:=trodAll_nil K;obtain rfl:a=#[w]:=by cases a;simp_all
 obtain⟨rfl,rfl⟩:=trodVars_none P;obtain⟨s,rfl,_⟩:=okWide_struct underlying26 (f 0 26 w rfl rfl);have t0:=F;have o:∀x∈L,x.block<W.heap.size:=by obtain⟨m,M⟩:=t0;exact DataW.trod_lt m _ _ _ M
 obtain⟨J,z,R⟩:=Rd.many Que F;clear d g;have k:Calls prog 4 #[.agg s] W λe I=>e=.returned (.bool true)/\Below W.heap.size W I:=Qt6 (QFo J z.2.1.1 z.2.1.2) W [_] rfl (λi N=>match i,N with
  | 0,_=>R)
 refine k.mono λe I ⟨O,u⟩=>?_;subst O;exact⟨_,rfl,_,_,_,[],_,[],r,trodAll_mk1 (shut_bool underlying4 _),(trodAll_cons_mk (Below.trod QFz τ (qZ τ) t0 u o) trodAll_mk0),rfl,u.frame _,λh=>by cases h⟩
def jn{a b}(d:a=true)(c:b=true):(a&&b)=true:=by rw[d,c];rfl
def QFE:(Rows.wholeLimitRow.inPlace==prog.inPlace 4)=true:=τ
def QFF:(Rows.wholeLimitRow.unfollowed==prog.unfollowed 4)=true:=τ
def QFG:(Rows.wholeLimitRow.recurses==prog.recurses 4)=true:=τ
def QFH:(Rows.wholeLimitRow.named==prog.varsNamed 4)=true:=τ
def QFI:(Rows.wholeLimitRow.maps==(f4.params.toList++Rows.wholeLimitSpec.plain.varTypes prog).any (prog.mapsRec ·))=true:=τ
def QFJ:(Rows.wholeLimitRow.ifaces==(f4.params.toList++Rows.wholeLimitSpec.plain.varTypes prog).any (prog.ifacesRec ·))=true:=τ
def QFK:(Rows.wholeLimitRow.loops==(f4.params.toList++Rows.wholeLimitSpec.plain.varTypes prog).any (prog.loopsFrom ·))=true:=τ
def QFL:joinedFacts prog 4 f4 Rows.wholeLimitSpec Rows.wholeLimitRow=true:=by
 unfold joinedFacts;refine(jn (jn (jn (jn (jn (jn (jn (jn (jn (jn (jn (jn (jn (jn (jn (jn (jn (jn (jn (jn (jn (jn (jn (jn (jn (jn (jn (jn (jn (jn (jn ?_ QFs) QFt) ?_) ?_) ?_) ?_) ?_) ?_) QFE) QFF) QFG) QFH) QFI) QFJ) ?_) QFK) ?_) ?_) ?_) ?_) ?_) ?_) ?_) QFu) QFv) QFw) QFx) ?_) ?_) ?_) ?_);all_goals kernel_rfl
def QFM:prog.funcNamed Rows.wholeLimitRow.func=some 4:=τ
theorem provedWholeLimit:Rows.WholeLimitSaid:=
 OpenClaim.holds_of_wide 4 f4 rfl rfl rfl rfl rfl rfl rfl ⟨rfl,rfl,rfl,rfl,rfl⟩ rfl rfl rfl rfl rfl QFM func4 QFL
  (qZ τ) (by unfold Func.isWrapper;first|(rw[Qd (by decide +kernel)];kernel_rfl)|(rw[Qc (by decide +kernel)];exact⟨rfl,rfl⟩))
  (λc a H b _=>QFA c a H b)
end Go.Fg.X
namespace Go.Proofs.YtbemejcgkfieeaaGreat
theorem wholeLimit_done: Rows.WholeLimitSaid := Go.Fg.X.provedWholeLimit
end Go.Proofs.YtbemejcgkfieeaaGreat
