/- The statement ScriptRuns is proved. No conditions. -/
import Derived.Test.YtkfemlhbbcojnaaGreatYL9A
import Derived.Test.YtkfemlhbbcojnaaGreatCA3A
import Derived.Test.YtkfemlhbbcojnaaGreatRows
set_option maxRecDepth 100000
set_option maxHeartbeats 16000000
set_option linter.unusedVariables false
set_option linter.unusedSimpArgs false
set_option linter.unusedSectionVars false
set_option linter.defProp false
namespace Go.Fg.X
open Go.Proofs Go.Fg
open Go.Proofs.Tryz
def QJy(x:YD)(hx:∀a∈x.ops,ZV.Ok a):QW prog 3 [.agg x.cells] (QN (QT true)):=by
 have hF:=Qjb x 60 τ;cases f1:yg x 60 with
 | false=>
  rw[f1]at hF;refine xT 0 func3 ntmps3 results3 λbase w hb=>?_;simp only[go_sem];refine VC hb [] Gb rfl ?_ hF rfl λd h hR=>?_
  .simp only[go_sem,Go.undef]
  obtain⟨rfl,rfl⟩:=hR;simp only[go_sem,Go.undef];apply Qg hb;simp only[go_sem,Go.undef];apply ZK hb Qmt QuR;exact qQ hb
 | true=>
 rw[f1]at hF;obtain⟨hlen,ZM⟩:=QjB f1 hx;have tC:∀o∈(Qew x).ops,ZV.Ok o/\ZV.Small o:=λo ho=>by
  obtain⟨u,hu,rfl⟩:=Z2.1 ho;exact QIx (ZM u hu)
 have Jp:(Qew x).ops.length<=1000:=by show (x.ops.map kp).length<=1000;rw[J1];omega
 have hA:=QsA x ω ZM;have hB:=QsA (Qew x) Jp tC;have hP:=QIu x ω λo ho=>by have:=(ZM o ho).2.c;have:=(ZM o ho).2.r;omega
 have eR:eE (Qew x)=eE x:=by
  have h1:=QsH x.ops (S0 x.config) λo ho=>by
   have:=(ZM o ho).1.2.2.2.2.1;exact(wf_u64 this).1
  show (if OD x.config=true then _ else _)=_;unfold eE;show (if OD x.config=true then ((Zn (S0 x.config) (x.ops.map kp)).2.1,(Zn (S0 x.config) (x.ops.map kp)).2.2,0) else _)=_;rw[h1]
 rw[eR]at hB;have hS:(⟨(eE x).1,(eE x).2.1⟩:R8).Small:=by
  unfold eE;by_cases K:OD x.config=true
  .rw[Qd K];have b1:=gN (x:=x) (m:=200) (Qiq.1 K) ω τ hx;have r1:=QsB x.ops (S0 x.config);exact⟨by show (Zn (S0 x.config) x.ops).2.1.length<_;omega,b1⟩
  .rw[Qc K];exact⟨τ,τ⟩
 have hQ:=QIq _ hS;generalize eE x=Z at *;obtain⟨R,E,e⟩:=Z;have cz:R8.cells ⟨R,E⟩=[QGv R,V0 E]:=rfl;rw[cz]at hQ;dsimp only at hA hB hQ;have ee:(e==e)=true:=π;refine xT 0 func3 ntmps3 results3 λbase w hb=>?_;simp only[go_sem];refine VC hb [] Gb rfl ?_ hF rfl λd h hR=>?_
 .simp only[go_sem,Go.undef]
 obtain⟨rfl,rfl⟩:=hR;simp only[go_sem,Go.undef];apply Qg hb;simp only[go_sem,Go.undef];refine VC hb [] Qmu rfl ?_ hA rfl λd h hR=>?_
 .simp only[go_sem,Go.undef]
 obtain⟨rfl,rfl⟩:=hR;simp only[go_sem,Go.undef];apply Qg hb;simp only[go_sem,Go.undef];refine VC hb [] QE9 rfl ?_ hP rfl λd h hR=>?_
 .simp only[go_sem,Go.undef]
 obtain⟨rfl,rfl⟩:=hR;simp only[go_sem,Go.undef];apply Qg hb;simp only[go_sem,Go.undef];refine VC hb [] Qmu rfl ?_ hB rfl λd h hR=>?_
 .simp only[go_sem,Go.undef,ee]
 obtain⟨rfl,rfl⟩:=hR;simp only[go_sem,Go.undef,ee];apply Qg hb;simp only[go_sem,Go.undef,ee];refine VC hb [] QFa rfl ?_ hQ rfl λd h hR=>?_
 .simp only[go_sem,Go.undef,ee]
 obtain⟨rfl,rfl⟩:=hR;simp only[go_sem,Go.undef,ee];apply Qg hb;simp only[go_sem,Go.undef,ee];apply ZK hb Qmt QuR;exact qQ hb
end Go.Fg.X
namespace Go.Fg.X
open Go.Proofs Go.Fg Go.Proofs.YtkfemlhbbcojnaaGreat
open Go.ChangeShapes Go.RowKit
open Go.Proofs.Tryz
def QJz:laidOutB prog=true:=ξ
def QJA:mapsRowed prog=true:=ξ
def QJB:prog.stopsHeard=true:=ξ
def QJC:prog.mayEnter=true:=ξ
def QJD:(Rows.scriptRunsRow.lifted==prog.liftsFinal)=true:=ξ
def QJE:(prog.make==some Rows.scriptRunsRow.make)=true:=ξ
end Go.Fg.X
namespace Go.Fg.X
open Go.Proofs Go.Fg Go.Proofs.YtkfemlhbbcojnaaGreat
open Go.ChangeShapes Go.WideShapes Go.ChangeAt Go.RowKit
open Go.Proofs.Tryz
def QJF:ownKnob prog.godebug=none:=ξ
def QJG:laidOutB prog=true:=ξ
def QJH(os:Os)(started:os.Started)(H:Type)(enc:TypeId × Value->H):
  ReturnsInHanded {} checked os 3 .any (Rows.scriptRunsSpec.pre6 enc prog f3 Rows.scriptRunsRow.domain false) (Rows.scriptRunsSpec.post enc prog f3 false true false false):=by
 refine returnsInHanded_of_change (C:=checked) QJF started ξ func3
  (ChangeSpec.witness6 (enc:=enc) (C:=checked) false ⟨#[],#[.agg #[.int .i64 0,.int .i64 0,.slice none 0 0]],[]⟩ 12 ξ ξ ξ ξ) ?_
 intro W base args ds gs before Uf hW QBW _;have O5:∀(j:Nat) t v,f3.params[j]? = some t->args[j]? = some v->Value.okWide prog W .any base t v:=Uf;have uR:=hW;obtain⟨p,q,Ug,hV,rfl,Cu,ZU⟩:=hW;have hA:DataW.TrodAll enc prog W 0 (λ_=>true) true f3.params.toList args.toList ds p:=Ug;rw[params3]at hA O5;obtain⟨v0,vs0,d0,ds0,p0,q0,Rs,rfl,rfl,h0,r0⟩:=trodAll_cons hA;obtain⟨rfl,rfl,rfl⟩:=trodAll_nil r0;obtain rfl:args=#[v0]:=by cases args;simp_all
 obtain⟨rfl,rfl⟩:=trodVars_none hV;obtain⟨uS,rfl,_⟩:=okWide_struct underlying26 (O5 0 26 v0 rfl rfl);have t0:=h0;have uT:∀x∈p0,x.block<W.heap.size:=by obtain⟨m,hm⟩:=t0;exact DataW.trod_lt m _ _ _ hm
 obtain⟨x0,k0,c0⟩:=Rd.many QdW h0;clear Ug Uf;have walk:Calls prog 3 #[.agg uS] W λe W'=>e=.returned (.bool true)/\Below W.heap.size W W':=QdV (QJy x0 k0.2.1.2) W [_] rfl (λi hi=>match i,hi with
  | 0,_=>c0)
 refine walk.mono λe W' ⟨he,Yj⟩=>?_;subst he;exact⟨_,rfl,_,_,_,[],_,[],uR,trodAll_mk1 (shut_bool underlying4 _),(trodAll_cons_mk (Below.trod QJG ξ (X8 ξ) t0 Yj uT) trodAll_mk0),rfl,Yj.frame _,λh=>by cases h⟩
def jn{a b}(ha:a=true)(hb:b=true):(a&&b)=true:=by rw[ha,hb];rfl
def QJI:(Rows.scriptRunsRow.inPlace==prog.inPlace 3)=true:=ξ
def QJJ:(Rows.scriptRunsRow.unfollowed==prog.unfollowed 3)=true:=ξ
def QJK:(Rows.scriptRunsRow.recurses==prog.recurses 3)=true:=ξ
def QJL:(Rows.scriptRunsRow.named==prog.varsNamed 3)=true:=ξ
def QJM:(Rows.scriptRunsRow.maps==(f3.params.toList++Rows.scriptRunsSpec.plain.varTypes prog).any (prog.mapsRec ·))=true:=ξ
def QJN:(Rows.scriptRunsRow.ifaces==(f3.params.toList++Rows.scriptRunsSpec.plain.varTypes prog).any (prog.ifacesRec ·))=true:=ξ
def QJO:(Rows.scriptRunsRow.loops==(f3.params.toList++Rows.scriptRunsSpec.plain.varTypes prog).any (prog.loopsFrom ·))=true:=ξ
def QJP:joinedFacts prog 3 f3 Rows.scriptRunsSpec Rows.scriptRunsRow=true:=by
 unfold joinedFacts;refine(jn (jn (jn (jn (jn (jn (jn (jn (jn (jn (jn (jn (jn (jn (jn (jn (jn (jn (jn (jn (jn (jn (jn (jn (jn (jn (jn (jn (jn (jn (jn ?_ QJz) QJA) ?_) ?_) ?_) ?_) ?_) ?_) QJI) QJJ) QJK) QJL) QJM) QJN) ?_) QJO) ?_) ?_) ?_) ?_) ?_) ?_) ?_) QJB) QJC) QJD) QJE) ?_) ?_) ?_) ?_);all_goals kernel_rfl
def QJQ:prog.funcNamed Rows.scriptRunsRow.func=some 3:=ξ
theorem provedScriptRuns:Rows.ScriptRunsSaid:=
 OpenClaim.holds_of_wide 3 f3 rfl rfl rfl rfl rfl rfl rfl ⟨rfl,rfl,rfl,rfl,rfl⟩ rfl rfl rfl rfl rfl QJQ func3 QJP
  (X8 ξ) (by unfold Func.isWrapper;first|(rw[Qd (by decide +kernel)];kernel_rfl)|(rw[Qc (by decide +kernel)];exact⟨rfl,rfl⟩))
  (λos started H enc _=>QJH os started H enc)
end Go.Fg.X
namespace Go.Proofs.YtkfemlhbbcojnaaGreat
theorem scriptRuns_done: Rows.ScriptRunsSaid := Go.Fg.X.provedScriptRuns
end Go.Proofs.YtkfemlhbbcojnaaGreat
