/- The statement LimitLasts is proved. No conditions. -/
import Derived.Test.YtkfemlhbbcojnaaGreatEvFB
import Derived.Test.YtkfemlhbbcojnaaGreatCA2B
import Derived.Test.YtkfemlhbbcojnaaGreatRows
set_option maxRecDepth 100000
set_option maxHeartbeats 16000000
set_option linter.unusedVariables false
set_option linter.unusedSimpArgs false
set_option linter.unusedSectionVars false
set_option linter.defProp false
namespace Go.Fg.X
open Go.Proofs Go.Fg Go.Fg.X.SP
open Go.Proofs.Tryz
@[go_sem] def gY(c:Qq):Ob:=⟨.one,0,14,1,λ_=>c.cells⟩
@[go_sem] def spO(s:Sp):Ob:=⟨.one,0,5,1,λ_=>s.cells⟩
@[go_sem] def Uh(l:List Sp):D:=.imm 5 l.length (λi=>(l.getD i default).cells)
def QB8{α:Type}[Inhabited α]{sz:Nat}{enc:α->List D}{l:List α}{d:D}{h:List Ob}(hR:Rl sz enc l d h):Qfq sz enc l d h:=by
 obtain⟨g,rfl,rfl⟩:=hR;exact⟨g,0,λi=>enc (l.getD i default),rfl,by rw[JD],⟨λi _=>by rw[JD],λi _=>⟨_,rfl⟩⟩⟩
def QB9(x:YD)(id)(hx:∀a∈x.ops,ZV.Ok a):QW prog 5 [.agg x.cells,Qa id] (QN (QT true)):=by
 refine Qi4 (R:=λd hh=>d=QT true) _ rfl (λd hh h=>.inl (h▸DS _ _)) ?_;have hF:=Qjb x 100 π;have hM:=Qil x.config;have An:=Qka;refine bn Q4 200 func5 rfl ntmps5 results5 rfl λbase w hb=>?_;simp only[go_sem,Qe];cases Ha:yg x 100 with
 | false=>
  rw[Ha]at hF;refine VC hb [] Gb rfl ?_ hF rfl λd h hR=>?_
  .simp only[go_sem,Qe,Go.undef]
  obtain⟨rfl,rfl⟩:=hR;simp only[go_sem,Qe,Go.undef];apply Qg hb;simp only[go_sem,Qe,Go.undef];refine VC hb [] A9 rfl ?_ An rfl λd h hR=>?_
  .simp only[go_sem,Qe]
  obtain⟨rfl,rfl⟩:=hR;simp only[go_sem,Qe];exact Bk hb
 | true=>
 rw[Ha]at hF;cases LQ:OD x.config with
 | false=>
  rw[LQ]at hM;refine VC hb [] Gb rfl ?_ hF rfl λd h hR=>?_
  .simp only[go_sem,Qe,Go.undef]
  obtain⟨rfl,rfl⟩:=hR;simp only[go_sem,Qe,Go.undef];apply Qg hb;simp only[go_sem,Qe,Go.undef];refine VC hb [] Ni rfl ?_ hM rfl λd h hR=>?_
  .simp only[go_sem,Qe,Go.undef]
  obtain⟨rfl,rfl⟩:=hR;simp only[go_sem,Qe,Go.undef];apply Qg hb;simp only[go_sem,Qe,Go.undef];refine VC hb [] A9 rfl ?_ An rfl λd h hR=>?_
  .simp only[go_sem,Qe]
  obtain⟨rfl,rfl⟩:=hR;simp only[go_sem,Qe];exact Bk hb
 | true=>
 rw[LQ]at hM;have K:=Qiq.1 LQ;obtain⟨hlen,ZM⟩:=QjB Ha hx;have Fe:=Qkb x ω;cases ZO:E6 x.ops with
 | false=>
  rw[ZO]at Fe;refine VC hb [] Gb rfl ?_ hF rfl λd h hR=>?_
  .simp only[go_sem,Qe,Go.undef]
  obtain⟨rfl,rfl⟩:=hR;simp only[go_sem,Qe,Go.undef];apply Qg hb;simp only[go_sem,Qe,Go.undef];refine VC hb [] Ni rfl ?_ hM rfl λd h hR=>?_
  .simp only[go_sem,Qe,Go.undef]
  obtain⟨rfl,rfl⟩:=hR;simp only[go_sem,Qe,Go.undef];apply Qg hb;simp only[go_sem,Qe,Go.undef];refine VC hb [] cr rfl ?_ Fe rfl λd h hR=>?_
  .simp only[go_sem,Qe,Go.undef]
  obtain⟨rfl,rfl⟩:=hR;simp only[go_sem,Qe,Go.undef];apply Qg hb;simp only[go_sem,Qe,Go.undef];refine VC hb [] A9 rfl ?_ An rfl λd h hR=>?_
  .simp only[go_sem,Qe]
  obtain⟨rfl,rfl⟩:=hR;simp only[go_sem,Qe];exact Bk hb
 | true=>
 rw[ZO]at Fe;refine VC hb [] Gb rfl ?_ hF rfl λd h hR=>?_
 .simp only[go_sem,Qe,Go.undef]
 obtain⟨rfl,rfl⟩:=hR;simp only[go_sem,Qe,Go.undef];apply Qg hb;simp only[go_sem,Qe,Go.undef];refine VC hb [] Ni rfl ?_ hM rfl λd h hR=>?_
 .simp only[go_sem,Qe,Go.undef]
 obtain⟨rfl,rfl⟩:=hR;simp only[go_sem,Qe,Go.undef];apply Qg hb;simp only[go_sem,Qe,Go.undef];refine VC hb [] cr rfl ?_ Fe rfl λd h hR=>?_
 .simp only[go_sem,Qe,Go.undef]
 obtain⟨rfl,rfl⟩:=hR;simp only[go_sem,Qe,Go.undef];apply Qg hb;simp only[go_sem,Qe,Go.undef];have GF:∀o∈x.ops.tail,o.kind≠1:=Qki ZO;refine Qkd hb Qc5 rfl ?_ (Qke x K ω ZM) rfl λt H1 hI R h0=>?_
 .simp only[go_sem,Qe]
 have Xg:=h0 _ rfl;clear h0;have BM:=Qb Xg;have IT:=hI.I.tree;have Kl:=hI.I.wK;have Ou:=IT.len;have uP:=λ(u:Int) (k:Qq)=>Qj3 K x.ops ω hx GF IT Kl (u:=u) (k:=k);have gX:∀e∈(Zn (S0 x.config) x.ops).2.2,e.kz:=Qkj K x.ops hx;have lE:(Zn (S0 x.config) x.ops).2.2.length<100000000:=gN (x:=x) (m:=200) K ω π hx;have hEv:=Qj0 K x.ops ω hx;generalize (Zn (S0 x.config) x.ops).2.2=E at *;generalize (Zn (S0 x.config) x.ops).1.M.T=T at *;have hG:=λG=>Cw (R.more (zZ (g:=G))) id;have hB:=λG=>QjD (R.more (zZ (g:=G))) IT id;have gZ:=Cw R id;have Qkm:=hEv (qA T id);have uQ:=QjC Ou id;have hW:=uP id;obtain⟨lv,S6⟩:∃lv,lv=qA T id:=⟨_,rfl⟩;rw[<- S6]at hB uQ hW Qkm;have Ff:=λG=>Qkc (R.more (zZ (g:=G))) lv ω;cases Vl:Qx T id with
 | none=>
  rw[Vl]at gZ;apply JH hb;refine QaX hb qf ?_ gZ ?_
  .simp only[go_sem,Qe,Py,xh,Go.undef]
  apply Qg hb;simp only[go_sem,Qe,Py,xh,Go.undef];apply Gp hb mH (hB _);apply Qg hb;simp only[go_sem,Qe,Go.undef];refine VC hb [] A9 rfl ?_ An rfl λd h hR=>?_
  .simp only[go_sem,Qe]
  obtain⟨rfl,rfl⟩:=hR;simp only[go_sem,Qe];exact Bk hb
 | some c=>
 obtain⟨FU,kS⟩:=(J6 IT.rising).1 Vl;have BC:=(Kl c FU).nn.2.2;have hW:=hW c Vl;have hU:=cV c;rw[Vl]at gZ;obtain⟨a,ha⟩:∃a:Nat,c.ul.m1=a:=⟨c.ul.m1.toNat,by have:=BC.1;omega⟩;obtain⟨dd,hd⟩:∃a:Nat,c.ul.d=a:=⟨c.ul.d.toNat,by have:=BC.2.1;omega⟩;obtain⟨b,Xf⟩:∃a:Nat,c.ul.m2=a:=⟨c.ul.m2.toNat,by have:=BC.2.2;omega⟩;have TD:Je c.ul=⟨a,dd,b⟩:=by unfold Je;rw[ha,hd,Xf];rfl
 apply JH hb;refine QaX hb qf ?_ gZ ?_
 .simp only[go_sem,Qe,KR,za,Go.undef]
 apply Qg hb;simp only[go_sem,Qe,KR,za,Go.undef];apply Gp hb mH (hB _);apply JH hb;by_cases h1:1<QR c.ul;case neg=>
  rw[QI h1]at hU;refine cT hb Nj ?_ hU ?_
  .simp only[go_sem,Qe,Go.undef]
  apply Qg hb;simp only[go_sem,Qe,Go.undef];refine VC hb [] A9 rfl ?_ An rfl λd h hR=>?_
  .simp only[go_sem,Qe]
  obtain⟨rfl,rfl⟩:=hR;simp only[go_sem,Qe];exact Bk hb
 rw[QU h1]at hU;refine cT hb Nj ?_ hU ?_
 .simp only[go_sem,Qe,Go.undef]
 apply Qg hb;simp only[go_sem,Qe,Go.undef];cases hf:vE T lv with
 | false=>
  rw[hf]at Ff;apply Gp hb ct (Ff _);apply Qg hb;simp only[go_sem,Qe,Go.undef];refine VC hb [] A9 rfl ?_ An rfl λd h hR=>?_
  .simp only[go_sem,Qe]
  obtain⟨rfl,rfl⟩:=hR;simp only[go_sem,Qe];exact Bk hb
 | true=>
 rw[hf]at Ff;obtain⟨_,w2⟩:=hW h1 hf;rw[TD]at w2;have hSp:QW prog 27 [V0 E,ints lv] (QN (Uh (Z6 lv E E.length))):=QvG (λ_=>rfl) ((SP.Qnp E lv ω ω).mono λd h=>QB8);have hgh:=uK Qkm E.length (QB _);have RH:=gP lv E E.length;obtain⟨L,hL⟩:∃L,L=Z6 lv E E.length:=⟨_,rfl⟩;rw[<- hL]at hSp w2 hgh RH;apply Gp hb ct (Ff _);apply Qg hb;simp only[go_sem,Qe,Go.undef];refine VC hb [] Qc6 rfl ?_ hSp rfl λd h hR=>?_
 .simp only[go_sem,Qe]
 obtain⟨rfl,rfl⟩:=hR;simp only[go_sem,Qe];apply JH hb;refine Z3 (λj s=>∃g,s=⟨[(2,.ptr 0 0 0 0),(5,V0 E),(6,.ptr t 0 0 0),(7,Qa 0),(8,.ptr H1.length 0 0 0),(10,ints lv),(61,Uh L),(62,Qa L.length),(63,Qa j)],H1++(gY c::g)⟩) L.length (s0:=⟨[(2,.ptr 0 0 0 0),(5,V0 E),(6,.ptr t 0 0 0),(7,Qa 0),(8,.ptr H1.length 0 0 0),(10,ints lv),(61,Uh L),(62,Qa L.length),(63,Qa 0)],H1++[gY c]⟩) QM ⟨[],rfl⟩ ?_;rintro j _ hj ⟨g,rfl⟩;by_cases XJ:j<L.length
 .have dj:=QU XJ;have LP:=J9 (show j<4611686018427387904 from ω);obtain⟨s,hs⟩:∃s,s=L.getD j default:=⟨_,rfl⟩;have NY:s∈L:=by rw[hs];exact qg _ default j XJ
  obtain⟨F,f1,f2,f3,_⟩:=hgh s NY;have w3:=w2 s NY;apply Qg hb;simp only[go_sem,Qe,dj,XJ,<- hs];refine Z3 (λi s'=>∃g',s'=⟨[(2,.ptr 0 0 0 0),(5,V0 E),(6,.ptr t 0 0 0),(7,Qa 0),(8,.ptr H1.length 0 0 0),(10,ints lv),(61,Uh L),(62,Qa L.length),(63,Qa j),(12,.ptr (H1.length+(g.length+1)) 0 0 0),(67,V0 E),(68,Qa E.length),(69,Qa i)],H1++(gY c::(g++(spO s::g')))⟩) E.length (s0:=⟨[(2,.ptr 0 0 0 0),(5,V0 E),(6,.ptr t 0 0 0),(7,Qa 0),(8,.ptr H1.length 0 0 0),(10,ints lv),(61,Uh L),(62,Qa L.length),(63,Qa j),(12,.ptr (H1.length+(g.length+1)) 0 0 0),(67,V0 E),(68,Qa E.length),(69,Qa 0)],H1++(gY c::(g++[spO s]))⟩) QM ⟨[],rfl⟩ ?_;rintro i _ hi ⟨g',rfl⟩;by_cases WO:i<E.length
  .have di:=QU WO;have CN:=J9 (show i<4611686018427387904 from ω);obtain⟨e,he⟩:∃e,e=E.getD i default:=⟨_,rfl⟩;have w4:=w3 i WO;rw[<- he]at w4;by_cases hc:s.fst<(i:Int)
   .have dc:=QU hc;obtain⟨v1,v2,v3⟩:=w4 hc;have v3:pk lv E s.fst (i+1)<=Am a dd b (e.at_ - s.V8).toNat x.config.ZX.toNat:=v3;have hPk:=QBx E lv (s.fst+1) i ω ω gX;rw[QBw lv E s.fst i WO]at hPk;have Kz:e.at_<=18446744073709551615:=(wf_u64 (gX e (by rw[he];exact qg _ default i WO)).1).2;have Ae:=uL a dd b (e.at_ - s.V8).toNat x.config.ZX ω (by have:=K.l1;have:=K.l2;omega);have x1:IntKind.i64.wrap (s.fst+1)=s.fst+1:=wrap64 ω ω;have x2:IntKind.u64.wrap (e.at_ - s.V8)=(((e.at_ - s.V8).toNat:Nat):Int):=η;have x3:=QI (show ¬Am a dd b (e.at_ - s.V8).toNat x.config.ZX.toNat<pk lv E s.fst (i+1) from ω);apply Qg hb;simp only[go_sem,Qe,di,WO,<- he];apply QF hb o09;simp only[go_sem,Qe,dc,x1,x2,ha,hd,Xf,Go.undef,Xg,BM];refine Qad hb QpL ?_ hPk ?_
    .simp only[go_sem,Qe,dc,x1,x2,ha,hd,Xf,Go.undef,Xg,BM]
    apply ZH hb;simp only[go_sem,Qe,dc,x1,x2,ha,hd,Xf,Go.undef,Xg,BM];refine Qad hb mJ ?_ Ae ?_
    .simp only[go_sem,Qe,x2,x3,ha,hd,Xf,Go.undef,Xg,BM]
    apply ZH hb;simp only[go_sem,Qe,x2,x3,ha,hd,Xf,Go.undef,Xg,BM];exact⟨WO,_,Qz.frame (by simp only[go_sem,CN]),_,rfl⟩
   .have dc:=QI hc;apply Qg hb;simp only[go_sem,Qe,di,WO,<- he];apply QF hb o09;simp only[go_sem,Qe,dc,Go.undef,Xg,BM];exact⟨WO,_,Qz.frame (by simp only[go_sem,CN]),_,rfl⟩
  .obtain rfl:i=E.length:=ω;have di:=QI WO;apply Qg hb;simp only[go_sem,Qe,di,WO];apply JH hb;exact⟨XJ,_,Qz.frame (by simp only[go_sem,LP]),_,rfl⟩
 .obtain rfl:j=L.length:=ω;have dj:=QI XJ;apply Qg hb;simp only[go_sem,Qe,dj,XJ];apply JH hb;refine VC hb [] A9 rfl ?_ An rfl λd h hR=>?_
  .simp only[go_sem,Qe]
  obtain⟨rfl,rfl⟩:=hR;simp only[go_sem,Qe];exact Bk hb
end Go.Fg.X
namespace Go.Fg.X
open Go.Proofs Go.Fg Go.Proofs.YtkfemlhbbcojnaaGreat
open Go.ChangeShapes Go.RowKit
open Go.Proofs.Tryz
def QCb:laidOutB prog=true:=τ
def QCc:mapsRowed prog=true:=τ
def QCd:prog.stopsHeard=true:=τ
def QCe:prog.mayEnter=true:=τ
def QCf:(Rows.limitLastsRow.lifted==prog.liftsFinal)=true:=τ
def QCg:(prog.make==some Rows.limitLastsRow.make)=true:=τ
end Go.Fg.X
namespace Go.Fg.X
open Go.Proofs Go.Fg Go.Proofs.YtkfemlhbbcojnaaGreat
open Go.ChangeShapes Go.WideShapes Go.ChangeAt Go.RowKit
open Go.Proofs.Tryz
def QCh:ownKnob prog.godebug=none:=τ
def Qkq:laidOutB prog=true:=τ
def QCi(os:Os)(started:os.Started)(H:Type)(enc:TypeId × Value->H):
  ReturnsInHanded {} checked os 5 .any (Rows.limitLastsSpec.pre6 enc prog f5 Rows.limitLastsRow.domain false) (Rows.limitLastsSpec.post enc prog f5 false true false false):=by
 refine returnsInHanded_of_change (C:=checked) QCh started τ func5
  (ChangeSpec.witness6 (enc:=enc) (C:=checked) false ⟨#[],#[.agg #[.int .i64 0,.int .i64 0,.slice none 0 0],.int .i64 0],[]⟩ 12 τ τ τ τ) ?_
 intro W base args ds gs before Uf hW QBW _;have O5:∀(j:Nat) t v,f5.params[j]? = some t->args[j]? = some v->Value.okWide prog W .any base t v:=Uf;have uR:=hW;obtain⟨p,q,Ug,hV,rfl,Cu,ZU⟩:=hW;have hA:DataW.TrodAll enc prog W 0 (λ_=>true) true f5.params.toList args.toList ds p:=Ug;rw[params5]at hA O5;obtain⟨v0,vs0,d0,ds0,p0,q0,Rs,rfl,rfl,h0,r0⟩:=trodAll_cons hA;obtain⟨v1,vs1,d1,ds1,p1,q1,rfl,rfl,rfl,h1,r1⟩:=trodAll_cons r0;obtain⟨rfl,rfl,rfl⟩:=trodAll_nil r1;obtain rfl:args=#[v0,v1]:=by cases args;simp_all
 obtain⟨rfl,rfl⟩:=trodVars_none hV;obtain⟨uS,rfl,_⟩:=okWide_struct underlying26 (O5 0 26 v0 rfl rfl);obtain⟨n1,rfl⟩:=okWide_int underlying3 (O5 1 3 v1 rfl rfl);have t0:=h0;have uT:∀x∈p0,x.block<W.heap.size:=by obtain⟨m,hm⟩:=t0;exact DataW.trod_lt m _ _ _ hm
 have t1:=h1;have lt1:∀x∈p1,x.block<W.heap.size:=by obtain⟨m,hm⟩:=t1;exact DataW.trod_lt m _ _ _ hm
 obtain⟨x0,k0,c0⟩:=Rd.many QdW h0;obtain⟨x1,k1,c1⟩:=Rd.one (Rd.int .i64 underlying3) h1 (Qrt _ _);clear Ug Uf;have walk:Calls prog 5 #[.agg uS,.int .i64 n1] W λe W'=>e=.returned (.bool true)/\Below W.heap.size W W':=QdV (QB9 x0 x1 k0.2.1.2) W [_,_] rfl (λi hi=>match i,hi with
  | 0,_=>c0
  | 1,_=>c1)
 refine walk.mono λe W' ⟨he,Yj⟩=>?_;subst he;exact⟨_,rfl,_,_,_,[],_,[],uR,trodAll_mk1 (shut_bool underlying4 _),(trodAll_cons_mk (Below.trod Qkq τ (X8 τ) t0 Yj uT) (trodAll_cons_mk (Below.trod Qkq τ (X8 τ) t1 Yj lt1) trodAll_mk0)),rfl,Yj.frame _,λh=>by cases h⟩
def jn{a b}(ha:a=true)(hb:b=true):(a&&b)=true:=by rw[ha,hb];rfl
def QCk:(Rows.limitLastsRow.inPlace==prog.inPlace 5)=true:=τ
def QCl:(Rows.limitLastsRow.unfollowed==prog.unfollowed 5)=true:=τ
def QCm:(Rows.limitLastsRow.recurses==prog.recurses 5)=true:=τ
def QCn:(Rows.limitLastsRow.named==prog.varsNamed 5)=true:=τ
def QCo:(Rows.limitLastsRow.maps==(f5.params.toList++Rows.limitLastsSpec.plain.varTypes prog).any (prog.mapsRec ·))=true:=τ
def QCp:(Rows.limitLastsRow.ifaces==(f5.params.toList++Rows.limitLastsSpec.plain.varTypes prog).any (prog.ifacesRec ·))=true:=τ
def QCq:(Rows.limitLastsRow.loops==(f5.params.toList++Rows.limitLastsSpec.plain.varTypes prog).any (prog.loopsFrom ·))=true:=τ
def QCr:joinedFacts prog 5 f5 Rows.limitLastsSpec Rows.limitLastsRow=true:=by
 unfold joinedFacts;refine(jn (jn (jn (jn (jn (jn (jn (jn (jn (jn (jn (jn (jn (jn (jn (jn (jn (jn (jn (jn (jn (jn (jn (jn (jn (jn (jn (jn (jn (jn (jn ?_ QCb) QCc) ?_) ?_) ?_) ?_) ?_) ?_) QCk) QCl) QCm) QCn) QCo) QCp) ?_) QCq) ?_) ?_) ?_) ?_) ?_) ?_) ?_) QCd) QCe) QCf) QCg) ?_) ?_) ?_) ?_);all_goals kernel_rfl
def QCs:prog.funcNamed Rows.limitLastsRow.func=some 5:=τ
theorem provedLimitLasts:Rows.LimitLastsSaid:=
 OpenClaim.holds_of_wide 5 f5 rfl rfl rfl rfl rfl rfl rfl ⟨rfl,rfl,rfl,rfl,rfl⟩ rfl rfl rfl rfl rfl QCs func5 QCr
  (X8 τ) (by unfold Func.isWrapper;first|(rw[Qd (by decide +kernel)];kernel_rfl)|(rw[Qc (by decide +kernel)];exact⟨rfl,rfl⟩))
  (λos started H enc _=>QCi os started H enc)
end Go.Fg.X
namespace Go.Proofs.YtkfemlhbbcojnaaGreat
theorem limitLasts_done: Rows.LimitLastsSaid := Go.Fg.X.provedLimitLasts
end Go.Proofs.YtkfemlhbbcojnaaGreat
