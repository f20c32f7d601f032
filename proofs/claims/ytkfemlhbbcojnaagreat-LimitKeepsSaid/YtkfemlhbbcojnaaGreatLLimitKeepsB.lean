/- The statement LimitKeeps is proved. No conditions. -/
import Derived.Test.YtkfemlhbbcojnaaGreatEvFB
import Derived.Test.YtkfemlhbbcojnaaGreatCA2B
import Derived.Test.YtkfemlhbbcojnaaGreatRows
set_option maxRecDepth 100000
set_option maxHeartbeats 16000000
set_option linter.unusedVariables false
set_option linter.unusedSimpArgs false
set_option linter.unusedSectionVars false
set_option linter.defProp false
namespace Go.Fg.X
open Go.Proofs Go.Fg Go.Fg.X.SP
open Go.Proofs.Tryz
def QBM(x:YD)(hx:∀a∈x.ops,ZV.Ok a):QW prog 4 [.agg x.cells] (QN (QT true)):=by
 refine Qi4 (R:=λd hh=>d=QT true) _ rfl (λd hh h=>.inl (h▸DS _ _)) ?_;have hF:=Qjb x 200 π;have hM:=Qil x.config;have An:=Qka;refine bn Q4 200 func4 rfl ntmps4 results4 rfl λbase w hb=>?_;simp only[go_sem,Qe];cases Ha:yg x 200 with
 | false=>
  rw[Ha]at hF;refine VC hb [] Gb rfl ?_ hF rfl λd h hR=>?_
  .simp only[go_sem,Qe,Go.undef]
  obtain⟨rfl,rfl⟩:=hR;simp only[go_sem,Qe,Go.undef];apply Qg hb;simp only[go_sem,Qe,Go.undef];refine VC hb [] A9 rfl ?_ An rfl λd h hR=>?_
  .simp only[go_sem,Qe]
  obtain⟨rfl,rfl⟩:=hR;simp only[go_sem,Qe];exact Bk hb
 | true=>
 rw[Ha]at hF;cases LQ:OD x.config with
 | false=>
  rw[LQ]at hM;refine VC hb [] Gb rfl ?_ hF rfl λd h hR=>?_
  .simp only[go_sem,Qe,Go.undef]
  obtain⟨rfl,rfl⟩:=hR;simp only[go_sem,Qe,Go.undef];apply Qg hb;simp only[go_sem,Qe,Go.undef];refine VC hb [] Ni rfl ?_ hM rfl λd h hR=>?_
  .simp only[go_sem,Qe,Go.undef]
  obtain⟨rfl,rfl⟩:=hR;simp only[go_sem,Qe,Go.undef];apply Qg hb;simp only[go_sem,Qe,Go.undef];refine VC hb [] A9 rfl ?_ An rfl λd h hR=>?_
  .simp only[go_sem,Qe]
  obtain⟨rfl,rfl⟩:=hR;simp only[go_sem,Qe];exact Bk hb
 | true=>
 rw[LQ]at hM;have K:=Qiq.1 LQ;obtain⟨hlen,ZM⟩:=QjB Ha hx;have Fe:=Qkb x ω;cases ZO:E6 x.ops with
 | false=>
  rw[ZO]at Fe;refine VC hb [] Gb rfl ?_ hF rfl λd h hR=>?_
  .simp only[go_sem,Qe,Go.undef]
  obtain⟨rfl,rfl⟩:=hR;simp only[go_sem,Qe,Go.undef];apply Qg hb;simp only[go_sem,Qe,Go.undef];refine VC hb [] Ni rfl ?_ hM rfl λd h hR=>?_
  .simp only[go_sem,Qe,Go.undef]
  obtain⟨rfl,rfl⟩:=hR;simp only[go_sem,Qe,Go.undef];apply Qg hb;simp only[go_sem,Qe,Go.undef];refine VC hb [] cr rfl ?_ Fe rfl λd h hR=>?_
  .simp only[go_sem,Qe,Go.undef]
  obtain⟨rfl,rfl⟩:=hR;simp only[go_sem,Qe,Go.undef];apply Qg hb;simp only[go_sem,Qe,Go.undef];refine VC hb [] A9 rfl ?_ An rfl λd h hR=>?_
  .simp only[go_sem,Qe]
  obtain⟨rfl,rfl⟩:=hR;simp only[go_sem,Qe];exact Bk hb
 | true=>
 rw[ZO]at Fe;refine VC hb [] Gb rfl ?_ hF rfl λd h hR=>?_
 .simp only[go_sem,Qe,Go.undef]
 obtain⟨rfl,rfl⟩:=hR;simp only[go_sem,Qe,Go.undef];apply Qg hb;simp only[go_sem,Qe,Go.undef];refine VC hb [] Ni rfl ?_ hM rfl λd h hR=>?_
 .simp only[go_sem,Qe,Go.undef]
 obtain⟨rfl,rfl⟩:=hR;simp only[go_sem,Qe,Go.undef];apply Qg hb;simp only[go_sem,Qe,Go.undef];refine VC hb [] cr rfl ?_ Fe rfl λd h hR=>?_
 .simp only[go_sem,Qe,Go.undef]
 obtain⟨rfl,rfl⟩:=hR;simp only[go_sem,Qe,Go.undef];apply Qg hb;simp only[go_sem,Qe,Go.undef];have GF:∀o∈x.ops.tail,o.kind≠1:=Qki ZO;refine Qkd hb Qc5 rfl ?_ (Qke x K ω ZM) rfl λt H1 hI R h0=>?_
 .simp only[go_sem,Qe]
 have Xg:=h0 _ rfl;clear h0;have BM:=Qb Xg;have IT:=hI.I.tree;have Kl:=hI.I.wK;have Ou:=IT.len;have uP:=λ(u:Int) (k:Qq)=>Qj3 K x.ops ω hx GF IT Kl (u:=u) (k:=k);have gX:∀e∈(Zn (S0 x.config) x.ops).2.2,e.kz:=Qkj K x.ops hx;have lE:(Zn (S0 x.config) x.ops).2.2.length<100000000:=gN (x:=x) (m:=200) K ω π hx;generalize (Zn (S0 x.config) x.ops).2.2=E at *;generalize (Zn (S0 x.config) x.ops).1.M.T=T at *;obtain⟨ids,LO⟩:∃ids,ids=T.map (·.iD):=⟨_,rfl⟩;have hil:ids.length=T.length:=by rw[LO,J1]
 have hID:=R5 R ω;rw[<- LO]at hID;apply JH hb;apply Gp hb Rw hID;apply JH hb;refine Z3 (λj s=>∃g,s=⟨[(1,.ptr 0 0 0 0),(3,V0 E),(4,.ptr t 0 0 0),(5,Qa 0),(33,ints ids),(34,Qa ids.length),(35,Qa j)],H1++g⟩) ids.length (s0:=⟨[(1,.ptr 0 0 0 0),(3,V0 E),(4,.ptr t 0 0 0),(5,Qa 0),(33,ints ids),(34,Qa ids.length),(35,Qa 0)],H1⟩) QM ⟨[],by rw[JI];rfl⟩ ?_;rintro j _ hj ⟨g,rfl⟩;by_cases XJ:j<ids.length
 .have dj:=QU XJ;have LP:=J9 (show j<4611686018427387904 from ω);obtain⟨id,Q8⟩:∃id,id=ids.getD j 0:=⟨_,rfl⟩;obtain⟨c,hc⟩:∃c,c=T.getD j default:=⟨_,rfl⟩;have FU:c∈T:=by rw[hc];exact qg _ default j ω
  have kS:c.iD=id:=by rw[Q8,LO,hc,getD_map (λc:Qq=>c.iD) T default 0 j ω]
  have Vl:=(J6 IT.rising).2 ⟨FU,kS⟩;have BC:=(Kl c FU).nn.2.2;have hG:=λG=>Cw (R.more (zZ (g:=G))) id;have hB:=λG=>QjD (R.more (zZ (g:=G))) IT id;rw[Vl]at hG;obtain⟨lv,S6⟩:∃lv,lv=qA T id:=⟨_,rfl⟩;have uQ:=QjC Ou id;have hW:=uP id c Vl;rw[<- S6]at hB uQ hW;have Ff:=λG=>Qkc (R.more (zZ (g:=G))) lv ω;have hU:=cV c;obtain⟨a,ha⟩:∃a:Nat,c.ul.m1=a:=⟨c.ul.m1.toNat,by have:=BC.1;omega⟩;obtain⟨dd,hd⟩:∃a:Nat,c.ul.d=a:=⟨c.ul.d.toNat,by have:=BC.2.1;omega⟩;obtain⟨b,Xf⟩:∃a:Nat,c.ul.m2=a:=⟨c.ul.m2.toNat,by have:=BC.2.2;omega⟩;have TD:Je c.ul=⟨a,dd,b⟩:=by unfold Je;rw[ha,hd,Xf];rfl
  apply Qg hb;simp only[go_sem,Qe,dj,XJ,<- Q8];refine QaX hb qf ?_ (hG _) ?_
  .simp only[go_sem,Qe,KR,za,Go.undef]
  apply Qg hb;simp only[go_sem,Qe,KR,za,Go.undef];apply Gp hb mH (hB _);apply JH hb;by_cases h1:1<QR c.ul;case neg=>
   rw[QI h1]at hU;refine cT hb Nj ?_ hU ?_
   .simp only[go_sem,Qe,Go.undef]
   apply Qg hb;simp only[go_sem,Qe,Go.undef];exact⟨XJ,_,Qz.frame (by simp only[go_sem,LP]),_,rfl⟩
  rw[QU h1]at hU;refine cT hb Nj ?_ hU ?_
  .simp only[go_sem,Qe,Go.undef]
  apply Qg hb;simp only[go_sem,Qe,Go.undef];cases hf:vE T lv with
  | false=>
   rw[hf]at Ff;apply Gp hb ct (Ff _);apply Qg hb;simp only[go_sem,Qe,Go.undef];exact⟨XJ,_,Qz.frame (by simp only[go_sem,LP]),_,rfl⟩
  | true=>
   rw[hf]at Ff;obtain⟨w1,_⟩:=hW h1 hf;rw[TD]at w1;have hK:QW prog 26 [Bn a dd b,Qa x.config.ZX,V0 E,ints lv] (QN (QT true)):=(uO a dd b x.config.ZX E lv ω ω gX (by have:=K.l1;have:=K.l2;omega)).mono λr h hR=>by
    obtain⟨e1,⟨j,i,h1,h2,h3,_⟩|⟨_,e2⟩⟩:=hR
    .rw[w1 j h1 i h2]at h3;cases h3
    .exact⟨e2,e1⟩
   refine QaX hb ct ?_ (Ff _) ?_
   .simp only[go_sem,Qe,Go.undef,ha,hd,Xf,Xg,BM]
   apply Qg hb;simp only[go_sem,Qe,Go.undef,ha,hd,Xf,Xg,BM];refine cT hb mI ?_ hK ?_
   .simp only[go_sem,Qe,Go.undef,ha,hd,Xf,Xg,BM]
   apply Qg hb;simp only[go_sem,Qe,Go.undef,ha,hd,Xf,Xg,BM];exact⟨XJ,_,Qz.frame (by simp only[go_sem,LP]),_,rfl⟩
 .obtain rfl:j=ids.length:=ω;have dj:=QI XJ;apply Qg hb;simp only[go_sem,Qe,dj,XJ];apply JH hb;refine VC hb [] A9 rfl ?_ An rfl λd h hR=>?_
  .simp only[go_sem,Qe]
  obtain⟨rfl,rfl⟩:=hR;simp only[go_sem,Qe];exact Bk hb
end Go.Fg.X
namespace Go.Fg.X
open Go.Proofs Go.Fg Go.Proofs.YtkfemlhbbcojnaaGreat
open Go.ChangeShapes Go.RowKit
open Go.Proofs.Tryz
def QBN:laidOutB prog=true:=τ
def QBO:mapsRowed prog=true:=τ
def QBP:prog.stopsHeard=true:=τ
def QBQ:prog.mayEnter=true:=τ
def QBR:(Rows.limitKeepsRow.lifted==prog.liftsFinal)=true:=τ
def QBS:(prog.make==some Rows.limitKeepsRow.make)=true:=τ
end Go.Fg.X
namespace Go.Fg.X
open Go.Proofs Go.Fg Go.Proofs.YtkfemlhbbcojnaaGreat
open Go.ChangeShapes Go.WideShapes Go.ChangeAt Go.RowKit
open Go.Proofs.Tryz
def QBT:ownKnob prog.godebug=none:=τ
def QBU:laidOutB prog=true:=τ
def QBV(os:Os)(started:os.Started)(H:Type)(enc:TypeId × Value->H):
  ReturnsInHanded {} checked os 4 .any (Rows.limitKeepsSpec.pre6 enc prog f4 Rows.limitKeepsRow.domain false) (Rows.limitKeepsSpec.post enc prog f4 false true false false):=by
 refine returnsInHanded_of_change (C:=checked) QBT started τ func4
  (ChangeSpec.witness6 (enc:=enc) (C:=checked) false ⟨#[],#[.agg #[.int .i64 0,.int .i64 0,.slice none 0 0]],[]⟩ 12 τ τ τ τ) ?_
 intro W base args ds gs before Uf hW QBW _;have O5:∀(j:Nat) t v,f4.params[j]? = some t->args[j]? = some v->Value.okWide prog W .any base t v:=Uf;have uR:=hW;obtain⟨p,q,Ug,hV,rfl,Cu,ZU⟩:=hW;have hA:DataW.TrodAll enc prog W 0 (λ_=>true) true f4.params.toList args.toList ds p:=Ug;rw[params4]at hA O5;obtain⟨v0,vs0,d0,ds0,p0,q0,Rs,rfl,rfl,h0,r0⟩:=trodAll_cons hA;obtain⟨rfl,rfl,rfl⟩:=trodAll_nil r0;obtain rfl:args=#[v0]:=by cases args;simp_all
 obtain⟨rfl,rfl⟩:=trodVars_none hV;obtain⟨uS,rfl,_⟩:=okWide_struct underlying26 (O5 0 26 v0 rfl rfl);have t0:=h0;have uT:∀x∈p0,x.block<W.heap.size:=by obtain⟨m,hm⟩:=t0;exact DataW.trod_lt m _ _ _ hm
 obtain⟨x0,k0,c0⟩:=Rd.many QdW h0;clear Ug Uf;have walk:Calls prog 4 #[.agg uS] W λe W'=>e=.returned (.bool true)/\Below W.heap.size W W':=QdV (QBM x0 k0.2.1.2) W [_] rfl (λi hi=>match i,hi with
  | 0,_=>c0)
 refine walk.mono λe W' ⟨he,Yj⟩=>?_;subst he;exact⟨_,rfl,_,_,_,[],_,[],uR,trodAll_mk1 (shut_bool underlying4 _),(trodAll_cons_mk (Below.trod QBU τ (X8 τ) t0 Yj uT) trodAll_mk0),rfl,Yj.frame _,λh=>by cases h⟩
def jn{a b}(ha:a=true)(hb:b=true):(a&&b)=true:=by rw[ha,hb];rfl
def QBZ:(Rows.limitKeepsRow.inPlace==prog.inPlace 4)=true:=τ
def QB0:(Rows.limitKeepsRow.unfollowed==prog.unfollowed 4)=true:=τ
def QB1:(Rows.limitKeepsRow.recurses==prog.recurses 4)=true:=τ
def QB2:(Rows.limitKeepsRow.named==prog.varsNamed 4)=true:=τ
def QB3:(Rows.limitKeepsRow.maps==(f4.params.toList++Rows.limitKeepsSpec.plain.varTypes prog).any (prog.mapsRec ·))=true:=τ
def QB4:(Rows.limitKeepsRow.ifaces==(f4.params.toList++Rows.limitKeepsSpec.plain.varTypes prog).any (prog.ifacesRec ·))=true:=τ
def QB5:(Rows.limitKeepsRow.loops==(f4.params.toList++Rows.limitKeepsSpec.plain.varTypes prog).any (prog.loopsFrom ·))=true:=τ
def QB6:joinedFacts prog 4 f4 Rows.limitKeepsSpec Rows.limitKeepsRow=true:=by
 unfold joinedFacts;refine(jn (jn (jn (jn (jn (jn (jn (jn (jn (jn (jn (jn (jn (jn (jn (jn (jn (jn (jn (jn (jn (jn (jn (jn (jn (jn (jn (jn (jn (jn (jn ?_ QBN) QBO) ?_) ?_) ?_) ?_) ?_) ?_) QBZ) QB0) QB1) QB2) QB3) QB4) ?_) QB5) ?_) ?_) ?_) ?_) ?_) ?_) ?_) QBP) QBQ) QBR) QBS) ?_) ?_) ?_) ?_);all_goals kernel_rfl
def QB7:prog.funcNamed Rows.limitKeepsRow.func=some 4:=τ
theorem provedLimitKeeps:Rows.LimitKeepsSaid:=
 OpenClaim.holds_of_wide 4 f4 rfl rfl rfl rfl rfl rfl rfl ⟨rfl,rfl,rfl,rfl,rfl⟩ rfl rfl rfl rfl rfl QB7 func4 QB6
  (X8 τ) (by unfold Func.isWrapper;first|(rw[Qd (by decide +kernel)];kernel_rfl)|(rw[Qc (by decide +kernel)];exact⟨rfl,rfl⟩))
  (λos started H enc _=>QBV os started H enc)
end Go.Fg.X
namespace Go.Proofs.YtkfemlhbbcojnaaGreat
theorem limitKeeps_done: Rows.LimitKeepsSaid := Go.Fg.X.provedLimitKeeps
end Go.Proofs.YtkfemlhbbcojnaaGreat
