/- The statement StateOf is proved. No conditions. -/
import Derived.Test.YtpafochnmfelfaaGreatSWhF
import Derived.Test.YtpafochnmfelfaaGreatCA5F
import Derived.Test.YtpafochnmfelfaaGreatRows
set_option maxRecDepth 100000
set_option maxHeartbeats 16000000
set_option linter.unusedVariables false
set_option linter.unusedSimpArgs false
set_option linter.unusedSectionVars false
set_option linter.defProp false
namespace Go.Fg.X
open Go.Proofs Go.Fg
open Go.Proofs.Tryz
def QCq{S:ZK}(I:Qx S.M):Lg (Ka S)=(decide (VV S.M=0)&&decide (S.Jt<=S.Qi)):=by
 have e:∀l:List Nd,(l.map λn=>Z8 S.M n.c.iD).all (λq=>decide (q.length=0))=decide (((l.map (·.c)).map λc=>(Z8 S.M c.iD).length).sum=0):=by
  intro l;induction l with
  | nil=>rfl
  | cons a l b=>
   simp only[JN,List.all_cons,List.sum_cons,b];rw[vE];simp only[ZH,XZ];omega
 have d:Lg (Ka S)=(((S.M.N.map λn=>Z8 S.M n.c.iD).all λq=>decide (q.length=0))&&decide (S.Jt<=S.Qi)):=rfl;rw[d,e];unfold VV;rw[I.nodes]
def QCx(M:Qn):Qgo (W2 M) (M.T.map (·.iD))=VV M:=by
 unfold Qgo VV;rw[E7];rfl
def QCy(x:qI)(hx:∀a∈x.ops,ZY.Ok a):Q6 prog 6 [.agg x.cells] (Zm (QT true)):=by
 refine sG (R:=λd hh=>d=QT true) _ rfl (λd hh h=>.inl (h▸qH _ _)) ?_;have I:=Qys x 200 π;have O:=QwM x.config;have Q:=Qzx;refine af J8 200 func6 rfl ntmps6 results6 rfl λa3 w b=>?_;simp only[go_sem,Qa];cases U:CY x 200 with
 | false=>
  rw[U]at I;refine kQ b [] PL rfl ?_ I rfl λd h v=>?_
  .simp only[go_sem,Qa,Go.undef]
  obtain⟨rfl,rfl⟩:=v;simp only[go_sem,Qa,Go.undef];apply Qg b;simp only[go_sem,Qa,Go.undef];refine kQ b [] Mx rfl ?_ Q rfl λd h v=>?_
  .simp only[go_sem,Qa]
  obtain⟨rfl,rfl⟩:=v;simp only[go_sem,Qa];exact HT b
 | true=>
 rw[U]at I;cases T:SG x.config with
 | false=>
  rw[T]at O;refine kQ b [] PL rfl ?_ I rfl λd h v=>?_
  .simp only[go_sem,Qa,Go.undef]
  obtain⟨rfl,rfl⟩:=v;simp only[go_sem,Qa,Go.undef];apply Qg b;simp only[go_sem,Qa,Go.undef];refine kQ b [] aM rfl ?_ O rfl λd h v=>?_
  .simp only[go_sem,Qa,Go.undef]
  obtain⟨rfl,rfl⟩:=v;simp only[go_sem,Qa,Go.undef];apply Qg b;simp only[go_sem,Qa,Go.undef];refine kQ b [] Mx rfl ?_ Q rfl λd h v=>?_
  .simp only[go_sem,Qa]
  obtain⟨rfl,rfl⟩:=v;simp only[go_sem,Qa];exact HT b
 | true=>
 rw[T]at O;have K:=QwT.1 T;obtain⟨a2,JF⟩:=QzC U hx;refine kQ b [] PL rfl ?_ I rfl λd h v=>?_
 .simp only[go_sem,Qa,Go.undef]
 obtain⟨rfl,rfl⟩:=v;simp only[go_sem,Qa,Go.undef];apply Qg b;simp only[go_sem,Qa,Go.undef];refine kQ b [] aM rfl ?_ O rfl λd h v=>?_
 .simp only[go_sem,Qa,Go.undef]
 obtain⟨rfl,rfl⟩:=v;simp only[go_sem,Qa,Go.undef];apply Qg b;simp only[go_sem,Qa,Go.undef];have hA:=Qh5 (own:=λ_=>.no) (tw:=λ_=>.my) (λ_ _=>rfl) [(⟨.one,0,3,1,λ_=>x.cells⟩:Ob)] x K ω JF;have V7:(VD (S0 x.config) x.ops).1.M.lk=x.config:=(Qkb x.ops (S0 x.config));obtain⟨S,hS⟩:∃S,S=(VD (S0 x.config) x.ops).1:=⟨_,rfl⟩;rw[<- hS]at hA V7;refine A4 b QbO hA λd B v=>?_;obtain⟨Je,Vf,p,rfl,Z,C1,n1,V1,D1⟩:=v;have u:B[0]? = some (⟨.one,0,3,1,λ_=>x.cells⟩:Ob):=D1.my 0 σ rfl;have y:=Qc u;have M:=Lj Z;have E:=Z.toRo;have C:=λG=>E.more (wG (g:=G));have TA:∀G,Ww (QV Je B .no) (Z5 Vf B .my) (B++G) p S:=λG=>by
  obtain⟨_,_,_,_,sW⟩:=Z;exact⟨_,_,_,_,sW.x8 G⟩
 have IX:=E.I.tree.len;have a4:S.M.N.length<=64:=by rw[E.I.nodes,JV]at IX;exact IX
 obtain⟨c,V⟩:∃c,c=S.M.T.map (·.iD):=⟨_,rfl⟩;have sU:c.length=S.M.N.length:=by rw[V,E.I.nodes];simp
 have a5:=Qzn E;have L:=QCm S.R S.R M.R M.R;rw[Qj5 (λa=>QyJ.2 rfl)]at L;apply Qg b;simp only[go_sem,Qa,u,y];apply ZA b HS (Li E);apply Qg b;simp only[go_sem,Qa,u,y];apply ZA b QnB (Qzn (C _));apply Qg b;simp only[go_sem,Qa,u,y];rw[<- V];have o:(Ka S).cf=x.config:=V7;have m:(Ka S).Qi=S.Qi:=rfl;have l:(Ka S).Jt=S.Jt:=rfl;have j:(Ka S).acc=S.M.acc:=rfl;have i:(Ka S).R=S.R:=rfl;have f:(Ka S).C.length=c.length:=by simp[Ka,sU]
 have e:(Ka S).Q.length=c.length:=by simp[Ka,sU]
 apply Qw b [0,1,2,3,4,5,6,7,8,9,10,11,12,1013,14,15,16,17,18,19,1020,21,22,23,24,25,26,1027,28,29,30,31,32,33,1034,1035,36,37,38,39,40,41,42,43,44,45,46,47,48,49,50,51,52,53];simp only[go_sem,Qa,u,y,Go.undef,o,m,l,j,i,f,e,Fc,l0,De,W1];refine Yb b QnC ?_ (Qzg (C _)) ?_
 .simp only[go_sem,Qa,u,y,Go.undef,o,m,l,j,i,f,e,Fc,l0,De,W1]
 apply Q7 b;simp only[go_sem,Qa,u,y,Go.undef,o,m,l,j,i,f,e,Fc,l0,De,W1];refine Yb b QnD ?_ (Qzh (C _)) ?_
 .simp only[go_sem,Qa,u,y,Go.undef,o,m,l,j,i,f,e,Fc,l0,De,W1]
 apply Q7 b;simp only[go_sem,Qa,u,y,Go.undef,o,m,l,j,i,f,e,Fc,l0,De,W1];refine Yb b QnE ?_ (Qzi (C _)) ?_
 .simp only[go_sem,Qa,u,y,Go.undef,o,m,l,j,i,f,e,Fc,l0,De,W1]
 apply Q7 b;simp only[go_sem,Qa,u,y,Go.undef,o,m,l,j,i,f,e,Fc,l0,De,W1];refine Yb b QnF ?_ (Qzm (C _)) ?_
 .simp only[go_sem,Qa,u,y,Go.undef,o,m,l,j,i,f,e,Fc,l0,De,W1]
 apply Q7 b;simp only[go_sem,Qa,u,y,Go.undef,o,m,l,j,i,f,e,Fc,l0,De,W1];refine KK b QrM ?_ L ?_
 .simp only[go_sem,Qa,u,y,Go.undef,o,m,l,j,i,f,e,Fc,l0,De,W1]
 apply Q7 b;simp only[go_sem,Qa,u,y,Go.undef,o,m,l,j,i,f,e,Fc,l0,De,W1];have r:∀G:List Ob,(B++((⟨.one,0,8,1,λ_=>[Qb x.config.t,Qb x.config.JU,u64 S.Qi,u64 S.Jt,u64 S.M.acc,We S.R,.imm 67 c.length (Vg.rows (Ka S).C),.imm 1 c.length (QhX (Ka S).Q)]⟩:Ob)::G))[B.length]? = some (⟨.one,0,8,1,λ_=>[Qb x.config.t,Qb x.config.JU,u64 S.Qi,u64 S.Jt,u64 S.M.acc,We S.R,.imm 67 c.length (Vg.rows (Ka S).C),.imm 1 c.length (QhX (Ka S).Q)]⟩:Ob):=λG=>σ;have q:∀G:List Ob,B.length<(B++((⟨.one,0,8,1,λ_=>[Qb x.config.t,Qb x.config.JU,u64 S.Qi,u64 S.Jt,u64 S.M.acc,We S.R,.imm 67 c.length (Vg.rows (Ka S).C),.imm 1 c.length (QhX (Ka S).Q)]⟩:Ob)::G)).length:=λG=>σ;have a1:Lg (Ka S)=(decide (VV S.M=0)&&decide (S.Jt<=S.Qi)):=QCq E.I;have P:=λG=>QB2 (TA G);rw[QCx]at P;generalize Qgo (W3 S.M) (S.M.T.map (·.iD))=By at P;have z:=Qh9 _ M;rw[a1]at z;refine Z4 (λk s=>∃G,s=⟨[(3,.ptr p 0 0 0),(5,.ptr B.length 0 0 0),(86,ints c),(87,Qb c.length),(88,Qb k)],B++((⟨.one,0,8,1,λ_=>[Qb x.config.t,Qb x.config.JU,u64 S.Qi,u64 S.Jt,u64 S.M.acc,We S.R,.imm 67 c.length (Vg.rows (Ka S).C),.imm 1 c.length (QhX (Ka S).Q)]⟩:Ob)::G)⟩) c.length QN ⟨[],rfl⟩ ?_;rintro k _ hk ⟨G,rfl⟩;by_cases H:k<c.length
 .have Y:=Q3 H;have Zl:=KJ (show k<4611686018427387904 from ω);have F:k<S.M.N.length:=ω;obtain⟨n,N⟩:∃n,n=S.M.N.getD k default:=⟨_,rfl⟩;have a0:n∈S.M.N:=by rw[N];exact za _ default k F
  obtain⟨id,Ze⟩:∃id,id=c.getD k 0:=⟨_,rfl⟩;have HF:n.c.iD=id:=by rw[Ze,V,E.I.nodes,N];simp[Q5,F]
  have hf:=S6 E.I a0;rw[HF]at hf;have eC:(Ka S).C.getD k default=⟨n,Jq S.M id,V8 S.M id n⟩:=by
   have:(Ka S).C.getD k default=S5 S.M n:=by rw[N];simp[Ka,Q5,F]
   rw[this];unfold S5;rw[HF]
  have eQ:(Ka S).Q.getD k []=Z8 S.M id:=by
   rw[<- HF,N];simp[Ka,Q5,F]
  have eI:sL n (Jq S.M id) (V8 S.M id n) n (Jq S.M id) (V8 S.M id n)=true:=QyG.2 rfl;have W:=M.at_ (k:=k) (by rw[e];exact H);rw[eQ]at W;have J:=QCo (Z8 S.M id) (Z8 S.M id) W W;rw[Qj5 (λa=>QyI.2 rfl)]at J;apply Qg b;simp only[go_sem,Qa,Y,H,<- Ze];apply ZA b QnG (Qzk (C _) hf);apply QC b;apply Qw b [0,1,2,3,4,5,6,7,8,9,10,11,12,13,14,15,16,17,18,1019,1020,21,22];simp only[go_sem,Qa,r,q,Go.undef,f,e,H,eC,eQ,eI,W1,De];refine Yb b QnH ?_ (Qzl (C _) id) ?_
  .simp only[go_sem,Qa,r,q,Go.undef]
  apply Q7 b;simp only[go_sem,Qa,r,q,Go.undef];refine KK b Qsi ?_ J ?_
  .simp only[go_sem,Qa,Go.undef]
  apply Q7 b;simp only[go_sem,Qa,Go.undef];exact⟨H,_,QF.frame (by simp only[go_sem,Zl]),_,rfl⟩
 .obtain rfl:k=c.length:=ω;have Y:=QS H;apply Qg b;simp only[go_sem,Qa,Y,H];apply QC b;by_cases h0:VV S.M=0
  .have t:=qa (show ((VV S.M:Nat):Int)=0 from ω);rw[Q3 h0,Df]at z;refine VP b Qet ?_ (P _) ?_
   .simp only[go_sem,Qa,r,q,Go.undef,o,m,l,j,i,f,e,Fc,t]
   apply Qg b;simp only[go_sem,Qa,r,q,Go.undef,o,m,l,j,i,f,e,Fc,t];refine Jk b QbP ?_ z ?_
   .simp only[go_sem,Qa,r,q,Go.undef,o,m,l,j,i,f,e,Fc,t]
   apply Qg b;simp only[go_sem,Qa,r,q,Go.undef,o,m,l,j,i,f,e,Fc,t];refine VP b QnD ?_ (Qzh (C _)) ?_
   .simp only[go_sem,Qa,r,q,Go.undef,o,m,l,j,i,f,e,Fc,t]
   apply Qg b;simp only[go_sem,Qa,r,q,Go.undef,o,m,l,j,i,f,e,Fc,t];refine VP b QnC ?_ (Qzg (C _)) ?_
   .simp only[go_sem,Qa,r,q,Go.undef,o,m,l,j,i,f,e,Fc,t]
   apply Qg b;simp only[go_sem,Qa,r,q,Go.undef,o,m,l,j,i,f,e,Fc,t];refine Jk b Mx ?_ Q ?_
   .simp only[go_sem,Qa,r,q,Go.undef,o,m,l,j,i,f,e,Fc,t]
   apply Qg b;simp only[go_sem,Qa,r,q,Go.undef,o,m,l,j,i,f,e,Fc,t]
  .have t:=Xx (show ¬((VV S.M:Nat):Int)=0 from ω);rw[QS h0,EW]at z;refine VP b Qet ?_ (P _) ?_
   .simp only[go_sem,Qa,r,q,Go.undef,o,m,l,j,i,f,e,Fc,t]
   apply Qg b;simp only[go_sem,Qa,r,q,Go.undef,o,m,l,j,i,f,e,Fc,t];refine Jk b QbP ?_ z ?_
   .simp only[go_sem,Qa,r,q,Go.undef,o,m,l,j,i,f,e,Fc,t]
   apply Qg b;simp only[go_sem,Qa,r,q,Go.undef,o,m,l,j,i,f,e,Fc,t];refine Jk b Mx ?_ Q ?_
   .simp only[go_sem,Qa,r,q,Go.undef,o,m,l,j,i,f,e,Fc,t]
   apply Qg b;simp only[go_sem,Qa,r,q,Go.undef,o,m,l,j,i,f,e,Fc,t]
end Go.Fg.X
namespace Go.Fg.X
open Go.Proofs Go.Fg Go.Proofs.YtpafochnmfelfaaGreat
open Go.ChangeShapes Go.RowKit
open Go.Proofs.Tryz
def QCz:laidOutB prog=true:=τ
def QCA:mapsRowed prog=true:=τ
def QCB:prog.stopsHeard=true:=τ
def QCC:prog.mayEnter=true:=τ
def QCD:(Rows.stateOfRow.lifted==prog.liftsFinal)=true:=τ
def QCE:(prog.make==some Rows.stateOfRow.make)=true:=τ
end Go.Fg.X
namespace Go.Fg.X
open Go.Proofs Go.Fg Go.Proofs.YtpafochnmfelfaaGreat
open Go.ChangeShapes Go.WideShapes Go.ChangeAt Go.RowKit
open Go.Proofs.Tryz
def QCF:ownKnob prog.godebug=none:=τ
def QCG:laidOutB prog=true:=τ
def QCH(y:Os)(b:y.Started)(H:Type)(c:TypeId × Value->H):
  ReturnsInHanded {} checked y 6 .any (Rows.stateOfSpec.pre6 c prog f6 Rows.stateOfRow.domain false) (Rows.stateOfSpec.post c prog f6 false true false false):=by
 refine returnsInHanded_of_change (C:=checked) QCF b τ func6
  (ChangeSpec.witness6 (enc:=c) (C:=checked) false ⟨#[],#[.agg #[.int .i64 0,.int .i64 0,.slice none 0 0]],[]⟩ 12 τ τ τ τ) ?_
 intro W k a Q Y l f z U _;have u:∀(j:Nat) t v,f6.params[j]? = some t->a[j]? = some v->Value.okWide prog W .any k t v:=f;have o:=z;obtain⟨p,q,d,P,rfl,Ga,Z3⟩:=z;have B:DataW.TrodAll c prog W 0 (λ_=>true) true f6.params.toList a.toList Q p:=d;rw[params6]at B u;obtain⟨s,S,d0,T,K,V,Z,rfl,rfl,E,J⟩:=trodAll_cons B;obtain⟨rfl,rfl,rfl⟩:=trodAll_nil J;obtain rfl:a=#[s]:=by cases a;simp_all
 obtain⟨rfl,rfl⟩:=trodVars_none P;obtain⟨r,rfl,_⟩:=okWide_struct underlying26 (u 0 26 s rfl rfl);have t0:=E;have n:∀x∈K,x.block<W.heap.size:=by obtain⟨m,M⟩:=t0;exact DataW.trod_lt m _ _ _ M
 obtain⟨I,L,R⟩:=Rd.many QpA E;clear d f;have g:Calls prog 6 #[.agg r] W λe F=>e=.returned (.bool true)/\Below W.heap.size W F:=Qpt (QCy I L.2.1.2) W [_] rfl (λi N=>match i,N with
  | 0,_=>R)
 refine g.mono λe F ⟨O,w⟩=>?_;subst O;exact⟨_,rfl,_,_,_,[],_,[],o,trodAll_mk1 (shut_bool underlying4 _),(trodAll_cons_mk (Below.trod QCG τ (Yo τ) t0 w n) trodAll_mk0),rfl,w.frame _,λh=>by cases h⟩
def jn{a b}(d:a=true)(c:b=true):(a&&b)=true:=by rw[d,c];rfl
def QCL:(Rows.stateOfRow.inPlace==prog.inPlace 6)=true:=τ
def QCM:(Rows.stateOfRow.unfollowed==prog.unfollowed 6)=true:=τ
def QCN:(Rows.stateOfRow.recurses==prog.recurses 6)=true:=τ
def QCO:(Rows.stateOfRow.named==prog.varsNamed 6)=true:=τ
def QCP:(Rows.stateOfRow.maps==(f6.params.toList++Rows.stateOfSpec.plain.varTypes prog).any (prog.mapsRec ·))=true:=τ
def QCQ:(Rows.stateOfRow.ifaces==(f6.params.toList++Rows.stateOfSpec.plain.varTypes prog).any (prog.ifacesRec ·))=true:=τ
def QCR:(Rows.stateOfRow.loops==(f6.params.toList++Rows.stateOfSpec.plain.varTypes prog).any (prog.loopsFrom ·))=true:=τ
def QCV:joinedFacts prog 6 f6 Rows.stateOfSpec Rows.stateOfRow=true:=by
 unfold joinedFacts;refine(jn (jn (jn (jn (jn (jn (jn (jn (jn (jn (jn (jn (jn (jn (jn (jn (jn (jn (jn (jn (jn (jn (jn (jn (jn (jn (jn (jn (jn (jn (jn ?_ QCz) QCA) ?_) ?_) ?_) ?_) ?_) ?_) QCL) QCM) QCN) QCO) QCP) QCQ) ?_) QCR) ?_) ?_) ?_) ?_) ?_) ?_) ?_) QCB) QCC) QCD) QCE) ?_) ?_) ?_) ?_);all_goals kernel_rfl
def QCW:prog.funcNamed Rows.stateOfRow.func=some 6:=τ
theorem provedStateOf:Rows.StateOfSaid:=
 OpenClaim.holds_of_wide 6 f6 rfl rfl rfl rfl rfl rfl rfl ⟨rfl,rfl,rfl,rfl,rfl⟩ rfl rfl rfl rfl rfl QCW func6 QCV
  (Yo τ) (by unfold Func.isWrapper;first|(rw[Qf (by decide +kernel)];kernel_rfl)|(rw[Qe (by decide +kernel)];exact⟨rfl,rfl⟩))
  (λc a H b _=>QCH c a H b)
end Go.Fg.X
namespace Go.Proofs.YtpafochnmfelfaaGreat
theorem stateOf_done: Rows.StateOfSaid := Go.Fg.X.provedStateOf
end Go.Proofs.YtpafochnmfelfaaGreat
