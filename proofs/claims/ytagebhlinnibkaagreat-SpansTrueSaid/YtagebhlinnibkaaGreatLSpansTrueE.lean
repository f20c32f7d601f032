/- The statement SpansTrue is proved. No conditions. -/
import Derived.Test.YtagebhlinnibkaaGreatCA3E
import Derived.Test.YtagebhlinnibkaaGreatRows
import Derived.Test.YtagebhlinnibkaaGreatST1E
set_option maxRecDepth 100000
set_option maxHeartbeats 16000000
set_option linter.unusedVariables false
set_option linter.unusedSimpArgs false
set_option linter.unusedSectionVars false
set_option linter.defProp false
namespace Go.Fg.X
open Go.Proofs Go.Fg Go.Proofs.YtagebhlinnibkaaGreat
open Go.ChangeShapes Go.RowKit
open Go.Proofs.Tryz
def QDw:laidOutB prog=true:=by kernel_rfl
def QDC:mapsRowed prog=true:=by kernel_rfl
def QDP:prog.stopsHeard=true:=by kernel_rfl
def QDT:prog.mayEnter=true:=by kernel_rfl
def QEl:(Rows.spansTrueRow.lifted==prog.liftsFinal)=true:=by kernel_rfl
def QEm:(prog.make==some Rows.spansTrueRow.make)=true:=by kernel_rfl
end Go.Fg.X
namespace Go.Fg.X
open Go.Proofs Go.Fg Go.Proofs.YtagebhlinnibkaaGreat
open Go.ChangeShapes Go.WideShapes Go.ChangeAt Go.RowKit
open Go.Proofs.Tryz
def QEG:ownKnob prog.godebug=none:=by kernel_rfl
def QlX:laidOutB prog=true:=by kernel_rfl
def QEJ(os:Os)(started:os.Started)(H:Type)(enc:TypeId × Value->H):
  ReturnsInHanded {} checked os 9 .any (Rows.spansTrueSpec.pre6 enc prog f9 Rows.spansTrueRow.domain false) (Rows.spansTrueSpec.post enc prog f9 false true false false):=by
 refine returnsInHanded_of_change (C:=checked) QEG started (by kernel_rfl) func9
  (ChangeSpec.witness6 (enc:=enc) (C:=checked) false ⟨#[],#[.agg #[.int .i64 0,.int .i64 0,.slice none 0 0],.int .i64 0],[]⟩ 12 (by kernel_rfl) (by kernel_rfl) (by kernel_rfl) (by kernel_rfl)) ?_
 intro W base args ds gs before vC hW dh _;have zk:∀(j:Nat) t v,f9.params[j]? = some t->args[j]? = some v->Value.okWide prog W .any base t v:=vC;have DW:=hW;obtain⟨p,q,vD,hV,rfl,yD,ZY⟩:=hW;have hA:DataW.TrodAll enc prog W 0 (λ_=>true) true f9.params.toList args.toList ds p:=vD;rw[params9]at hA zk;obtain⟨v0,dt,d0,dw,p0,q0,Gj,rfl,rfl,h0,r0⟩:=trodAll_cons hA;obtain⟨v1,vs1,d1,ds1,p1,q1,rfl,rfl,rfl,h1,r1⟩:=trodAll_cons r0;obtain⟨rfl,rfl,rfl⟩:=trodAll_nil r1;obtain rfl:args=#[v0,v1]:=by cases args;simp_all
 obtain⟨rfl,rfl⟩:=trodVars_none hV;obtain⟨DX,rfl,_⟩:=okWide_struct underlying26 (zk 0 26 v0 rfl rfl);obtain⟨n1,rfl⟩:=okWide_int underlying3 (zk 1 3 v1 rfl rfl);have t0:=h0;have DY:∀x∈p0,x.block<W.heap.size:=by obtain⟨m,hm⟩:=t0;exact DataW.trod_lt m _ _ _ hm
 have t1:=h1;have dJ:∀x∈p1,x.block<W.heap.size:=by obtain⟨m,hm⟩:=t1;exact DataW.trod_lt m _ _ _ hm
 obtain⟨x0,k0,c0⟩:=Rd.many P5 h0;obtain⟨x1,k1,c1⟩:=Rd.one (Rd.int .i64 underlying3) h1 (tM _ _);clear vD vC;have walk:Calls prog 9 #[.agg DX,.int .i64 n1] W λe W'=>e=.returned (.bool true)/\Below W.heap.size W W':=P4 (QCN x0 x1 k0.2.1.2) W [_,_] rfl (λi hi=>match i,hi with
  | 0,_=>c0
  | 1,_=>c1)
 refine walk.mono λe W' ⟨he,VI⟩=>?_;subst he;exact⟨_,rfl,_,_,_,[],_,[],DW,trodAll_mk1 (shut_bool underlying4 _),(trodAll_cons_mk (Below.trod QlX (by kernel_rfl) (Wc (by kernel_rfl)) t0 VI DY) (trodAll_cons_mk (Below.trod QlX (by kernel_rfl) (Wc (by kernel_rfl)) t1 VI dJ) trodAll_mk0)),rfl,VI.frame _,λh=>by cases h⟩
def jn{a b}(ha:a=true)(hb:b=true):(a&&b)=true:=by rw[ha,hb];rfl
def QEL:(Rows.spansTrueRow.inPlace==prog.inPlace 9)=true:=by kernel_rfl
def QEN:(Rows.spansTrueRow.unfollowed==prog.unfollowed 9)=true:=by kernel_rfl
def QER:(Rows.spansTrueRow.recurses==prog.recurses 9)=true:=by kernel_rfl
def QEV:(Rows.spansTrueRow.named==prog.varsNamed 9)=true:=by kernel_rfl
def QEW:(Rows.spansTrueRow.maps==(f9.params.toList++Rows.spansTrueSpec.plain.varTypes prog).any (prog.mapsRec ·))=true:=by kernel_rfl
def QEX:(Rows.spansTrueRow.ifaces==(f9.params.toList++Rows.spansTrueSpec.plain.varTypes prog).any (prog.ifacesRec ·))=true:=by kernel_rfl
def QE1:(Rows.spansTrueRow.loops==(f9.params.toList++Rows.spansTrueSpec.plain.varTypes prog).any (prog.loopsFrom ·))=true:=by kernel_rfl
def QE2:joinedFacts prog 9 f9 Rows.spansTrueSpec Rows.spansTrueRow=true:=by
 unfold joinedFacts;refine(jn (jn (jn (jn (jn (jn (jn (jn (jn (jn (jn (jn (jn (jn (jn (jn (jn (jn (jn (jn (jn (jn (jn (jn (jn (jn (jn (jn (jn (jn (jn ?_ QDw) QDC) ?_) ?_) ?_) ?_) ?_) ?_) QEL) QEN) QER) QEV) QEW) QEX) ?_) QE1) ?_) ?_) ?_) ?_) ?_) ?_) ?_) QDP) QDT) QEl) QEm) ?_) ?_) ?_) ?_);all_goals kernel_rfl
def QFk:prog.funcNamed Rows.spansTrueRow.func=some 9:=by kernel_rfl
theorem provedSpansTrue:Rows.SpansTrueSaid:=
 OpenClaim.holds_of_wide 9 f9 rfl rfl rfl rfl rfl rfl rfl ⟨rfl,rfl,rfl,rfl,rfl⟩ rfl rfl rfl rfl rfl QFk func9 QE2
  (Wc (by kernel_rfl)) (by unfold Func.isWrapper;first|(rw[Qf (by decide +kernel)];kernel_rfl)|(rw[Qd (by decide +kernel)];exact⟨rfl,rfl⟩))
  (λos started H enc _=>QEJ os started H enc)
end Go.Fg.X
namespace Go.Proofs.YtagebhlinnibkaaGreat
theorem spansTrue_done: Rows.SpansTrueSaid := Go.Fg.X.provedSpansTrue
end Go.Proofs.YtagebhlinnibkaaGreat
