/- The statement BusyEnds is proved. No conditions. -/
import Derived.Test.YtagebhlinnibkaaGreatCA3C
import Derived.Test.YtagebhlinnibkaaGreatRows
import Derived.Test.YtagebhlinnibkaaGreatBE1C
set_option maxRecDepth 100000
set_option maxHeartbeats 16000000
set_option linter.unusedVariables false
set_option linter.unusedSimpArgs false
set_option linter.unusedSectionVars false
set_option linter.defProp false
namespace Go.Fg.X
open Go.Proofs Go.Fg Go.Proofs.YtagebhlinnibkaaGreat
open Go.ChangeShapes Go.RowKit
open Go.Proofs.Tryz
def QGl:laidOutB prog=true:=by kernel_rfl
def QGm:mapsRowed prog=true:=by kernel_rfl
def QGn:prog.stopsHeard=true:=by kernel_rfl
def QGo:prog.mayEnter=true:=by kernel_rfl
def QGp:(Rows.busyEndsRow.lifted==prog.liftsFinal)=true:=by kernel_rfl
def QGq:(prog.make==some Rows.busyEndsRow.make)=true:=by kernel_rfl
end Go.Fg.X
namespace Go.Fg.X
open Go.Proofs Go.Fg Go.Proofs.YtagebhlinnibkaaGreat
open Go.ChangeShapes Go.WideShapes Go.ChangeAt Go.RowKit
open Go.Proofs.Tryz
def QGr:ownKnob prog.godebug=none:=by kernel_rfl
def Qoy:laidOutB prog=true:=by kernel_rfl
def QGs(os:Os)(started:os.Started)(H:Type)(enc:TypeId × Value->H):
  ReturnsInHanded {} checked os 4 .any (Rows.busyEndsSpec.pre6 enc prog f4 Rows.busyEndsRow.domain false) (Rows.busyEndsSpec.post enc prog f4 false true false false):=by
 refine returnsInHanded_of_change (C:=checked) QGr started (by kernel_rfl) func4
  (ChangeSpec.witness6 (enc:=enc) (C:=checked) false ⟨#[],#[.agg #[.int .i64 0,.int .i64 0,.slice none 0 0],.int .u64 0],[]⟩ 12 (by kernel_rfl) (by kernel_rfl) (by kernel_rfl) (by kernel_rfl)) ?_
 intro W base args ds gs before vC hW dh _;have zk:∀(j:Nat) t v,f4.params[j]? = some t->args[j]? = some v->Value.okWide prog W .any base t v:=vC;have DW:=hW;obtain⟨p,q,vD,hV,rfl,yD,ZY⟩:=hW;have hA:DataW.TrodAll enc prog W 0 (λ_=>true) true f4.params.toList args.toList ds p:=vD;rw[params4]at hA zk;obtain⟨v0,dt,d0,dw,p0,q0,Gj,rfl,rfl,h0,r0⟩:=trodAll_cons hA;obtain⟨v1,vs1,d1,ds1,p1,q1,rfl,rfl,rfl,h1,r1⟩:=trodAll_cons r0;obtain⟨rfl,rfl,rfl⟩:=trodAll_nil r1;obtain rfl:args=#[v0,v1]:=by cases args;simp_all
 obtain⟨rfl,rfl⟩:=trodVars_none hV;obtain⟨DX,rfl,_⟩:=okWide_struct underlying26 (zk 0 26 v0 rfl rfl);obtain⟨n1,rfl⟩:=okWide_int underlying38 (zk 1 38 v1 rfl rfl);have t0:=h0;have DY:∀x∈p0,x.block<W.heap.size:=by obtain⟨m,hm⟩:=t0;exact DataW.trod_lt m _ _ _ hm
 have t1:=h1;have dJ:∀x∈p1,x.block<W.heap.size:=by obtain⟨m,hm⟩:=t1;exact DataW.trod_lt m _ _ _ hm
 obtain⟨x0,k0,c0⟩:=Rd.many P5 h0;obtain⟨x1,k1,c1⟩:=Rd.one (Rd.int .u64 underlying38) h1 (tM _ _);clear vD vC;have walk:Calls prog 4 #[.agg DX,.int .u64 n1] W λe W'=>e=.returned (.bool true)/\Below W.heap.size W W':=P4 (QGi x0 x1 k0.2.1.2 k1) W [_,_] rfl (λi hi=>match i,hi with
  | 0,_=>c0
  | 1,_=>c1)
 refine walk.mono λe W' ⟨he,VI⟩=>?_;subst he;exact⟨_,rfl,_,_,_,[],_,[],DW,trodAll_mk1 (shut_bool underlying4 _),(trodAll_cons_mk (Below.trod Qoy (by kernel_rfl) (Wc (by kernel_rfl)) t0 VI DY) (trodAll_cons_mk (Below.trod Qoy (by kernel_rfl) (Wc (by kernel_rfl)) t1 VI dJ) trodAll_mk0)),rfl,VI.frame _,λh=>by cases h⟩
def jn{a b}(ha:a=true)(hb:b=true):(a&&b)=true:=by rw[ha,hb];rfl
def QGt:(Rows.busyEndsRow.inPlace==prog.inPlace 4)=true:=by kernel_rfl
def QGu:(Rows.busyEndsRow.unfollowed==prog.unfollowed 4)=true:=by kernel_rfl
def QGv:(Rows.busyEndsRow.recurses==prog.recurses 4)=true:=by kernel_rfl
def QGw:(Rows.busyEndsRow.named==prog.varsNamed 4)=true:=by kernel_rfl
def QGx:(Rows.busyEndsRow.maps==(f4.params.toList++Rows.busyEndsSpec.plain.varTypes prog).any (prog.mapsRec ·))=true:=by kernel_rfl
def QGy:(Rows.busyEndsRow.ifaces==(f4.params.toList++Rows.busyEndsSpec.plain.varTypes prog).any (prog.ifacesRec ·))=true:=by kernel_rfl
def QGz:(Rows.busyEndsRow.loops==(f4.params.toList++Rows.busyEndsSpec.plain.varTypes prog).any (prog.loopsFrom ·))=true:=by kernel_rfl
def QGA:joinedFacts prog 4 f4 Rows.busyEndsSpec Rows.busyEndsRow=true:=by
 unfold joinedFacts;refine(jn (jn (jn (jn (jn (jn (jn (jn (jn (jn (jn (jn (jn (jn (jn (jn (jn (jn (jn (jn (jn (jn (jn (jn (jn (jn (jn (jn (jn (jn (jn ?_ QGl) QGm) ?_) ?_) ?_) ?_) ?_) ?_) QGt) QGu) QGv) QGw) QGx) QGy) ?_) QGz) ?_) ?_) ?_) ?_) ?_) ?_) ?_) QGn) QGo) QGp) QGq) ?_) ?_) ?_) ?_);all_goals kernel_rfl
def QGB:prog.funcNamed Rows.busyEndsRow.func=some 4:=by kernel_rfl
theorem provedBusyEnds:Rows.BusyEndsSaid:=
 OpenClaim.holds_of_wide 4 f4 rfl rfl rfl rfl rfl rfl rfl ⟨rfl,rfl,rfl,rfl,rfl⟩ rfl rfl rfl rfl rfl QGB func4 QGA
  (Wc (by kernel_rfl)) (by unfold Func.isWrapper;first|(rw[Qf (by decide +kernel)];kernel_rfl)|(rw[Qd (by decide +kernel)];exact⟨rfl,rfl⟩))
  (λos started H enc _=>QGs os started H enc)
end Go.Fg.X
namespace Go.Proofs.YtagebhlinnibkaaGreat
theorem busyEnds_done: Rows.BusyEndsSaid := Go.Fg.X.provedBusyEnds
end Go.Proofs.YtagebhlinnibkaaGreat
