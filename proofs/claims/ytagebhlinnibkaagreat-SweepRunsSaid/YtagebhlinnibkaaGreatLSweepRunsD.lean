/- The statement SweepRuns is proved. No conditions. -/
import Derived.Test.YtagebhlinnibkaaGreatCA3D
import Derived.Test.YtagebhlinnibkaaGreatRows
import Derived.Test.YtagebhlinnibkaaGreatSR1D
set_option maxRecDepth 100000
set_option maxHeartbeats 16000000
set_option linter.unusedVariables false
set_option linter.unusedSimpArgs false
set_option linter.unusedSectionVars false
set_option linter.defProp false
namespace Go.Fg.X
open Go.Proofs Go.Fg Go.Proofs.YtagebhlinnibkaaGreat
open Go.ChangeShapes Go.RowKit
open Go.Proofs.Tryz
def QID:laidOutB prog=true:=by kernel_rfl
def QIE:mapsRowed prog=true:=by kernel_rfl
def QIF:prog.stopsHeard=true:=by kernel_rfl
def QIG:prog.mayEnter=true:=by kernel_rfl
def QIH:(Rows.sweepRunsRow.lifted==prog.liftsFinal)=true:=by kernel_rfl
def QII:(prog.make==some Rows.sweepRunsRow.make)=true:=by kernel_rfl
end Go.Fg.X
namespace Go.Fg.X
open Go.Proofs Go.Fg Go.Proofs.YtagebhlinnibkaaGreat
open Go.ChangeShapes Go.WideShapes Go.ChangeAt Go.RowKit
open Go.Proofs.Tryz
def QIJ:ownKnob prog.godebug=none:=by kernel_rfl
def QIK:laidOutB prog=true:=by kernel_rfl
def QIL(os:Os)(started:os.Started)(H:Type)(enc:TypeId × Value->H):
  ReturnsInHanded {} checked os 8 .any (Rows.sweepRunsSpec.pre6 enc prog f8 Rows.sweepRunsRow.domain false) (Rows.sweepRunsSpec.post enc prog f8 false true false false):=by
 refine returnsInHanded_of_change (C:=checked) QIJ started (by kernel_rfl) func8
  (ChangeSpec.witness6 (enc:=enc) (C:=checked) false ⟨#[],#[.agg #[.int .i64 0,.int .i64 0,.slice none 0 0]],[]⟩ 12 (by kernel_rfl) (by kernel_rfl) (by kernel_rfl) (by kernel_rfl)) ?_
 intro W base args ds gs before vC hW dh _;have zk:∀(j:Nat) t v,f8.params[j]? = some t->args[j]? = some v->Value.okWide prog W .any base t v:=vC;have DW:=hW;obtain⟨p,q,vD,hV,rfl,yD,ZY⟩:=hW;have hA:DataW.TrodAll enc prog W 0 (λ_=>true) true f8.params.toList args.toList ds p:=vD;rw[params8]at hA zk;obtain⟨v0,dt,d0,dw,p0,q0,Gj,rfl,rfl,h0,r0⟩:=trodAll_cons hA;obtain⟨rfl,rfl,rfl⟩:=trodAll_nil r0;obtain rfl:args=#[v0]:=by cases args;simp_all
 obtain⟨rfl,rfl⟩:=trodVars_none hV;obtain⟨DX,rfl,_⟩:=okWide_struct underlying26 (zk 0 26 v0 rfl rfl);have t0:=h0;have DY:∀x∈p0,x.block<W.heap.size:=by obtain⟨m,hm⟩:=t0;exact DataW.trod_lt m _ _ _ hm
 obtain⟨x0,k0,c0⟩:=Rd.many P5 h0;clear vD vC;have walk:Calls prog 8 #[.agg DX] W λe W'=>e=.returned (.bool true)/\Below W.heap.size W W':=P4 (QIB x0 k0.2.1.2) W [_] rfl (λi hi=>match i,hi with
  | 0,_=>c0)
 refine walk.mono λe W' ⟨he,VI⟩=>?_;subst he;exact⟨_,rfl,_,_,_,[],_,[],DW,trodAll_mk1 (shut_bool underlying4 _),(trodAll_cons_mk (Below.trod QIK (by kernel_rfl) (Wc (by kernel_rfl)) t0 VI DY) trodAll_mk0),rfl,VI.frame _,λh=>by cases h⟩
def jn{a b}(ha:a=true)(hb:b=true):(a&&b)=true:=by rw[ha,hb];rfl
def QIM:(Rows.sweepRunsRow.inPlace==prog.inPlace 8)=true:=by kernel_rfl
def QIN:(Rows.sweepRunsRow.unfollowed==prog.unfollowed 8)=true:=by kernel_rfl
def QIO:(Rows.sweepRunsRow.recurses==prog.recurses 8)=true:=by kernel_rfl
def QIP:(Rows.sweepRunsRow.named==prog.varsNamed 8)=true:=by kernel_rfl
def QIQ:(Rows.sweepRunsRow.maps==(f8.params.toList++Rows.sweepRunsSpec.plain.varTypes prog).any (prog.mapsRec ·))=true:=by kernel_rfl
def QIR:(Rows.sweepRunsRow.ifaces==(f8.params.toList++Rows.sweepRunsSpec.plain.varTypes prog).any (prog.ifacesRec ·))=true:=by kernel_rfl
def QIS:(Rows.sweepRunsRow.loops==(f8.params.toList++Rows.sweepRunsSpec.plain.varTypes prog).any (prog.loopsFrom ·))=true:=by kernel_rfl
def QIT:joinedFacts prog 8 f8 Rows.sweepRunsSpec Rows.sweepRunsRow=true:=by
 unfold joinedFacts;refine(jn (jn (jn (jn (jn (jn (jn (jn (jn (jn (jn (jn (jn (jn (jn (jn (jn (jn (jn (jn (jn (jn (jn (jn (jn (jn (jn (jn (jn (jn (jn ?_ QID) QIE) ?_) ?_) ?_) ?_) ?_) ?_) QIM) QIN) QIO) QIP) QIQ) QIR) ?_) QIS) ?_) ?_) ?_) ?_) ?_) ?_) ?_) QIF) QIG) QIH) QII) ?_) ?_) ?_) ?_);all_goals kernel_rfl
def QIU:prog.funcNamed Rows.sweepRunsRow.func=some 8:=by kernel_rfl
theorem provedSweepRuns:Rows.SweepRunsSaid:=
 OpenClaim.holds_of_wide 8 f8 rfl rfl rfl rfl rfl rfl rfl ⟨rfl,rfl,rfl,rfl,rfl⟩ rfl rfl rfl rfl rfl QIU func8 QIT
  (Wc (by kernel_rfl)) (by unfold Func.isWrapper;first|(rw[Qf (by decide +kernel)];kernel_rfl)|(rw[Qd (by decide +kernel)];exact⟨rfl,rfl⟩))
  (λos started H enc _=>QIL os started H enc)
end Go.Fg.X
namespace Go.Proofs.YtagebhlinnibkaaGreat
theorem sweepRuns_done: Rows.SweepRunsSaid := Go.Fg.X.provedSweepRuns
end Go.Proofs.YtagebhlinnibkaaGreat
