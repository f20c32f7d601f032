/- The statement ReplayFirst is proved. No conditions. -/
import Derived.Test.YtjhngjdipealfaaGreatRD1
import Derived.Test.YtjhngjdipealfaaGreatTB5
import Derived.Test.YtjhngjdipealfaaGreatFgHx
import Derived.Test.YtjhngjdipealfaaGreatRows
set_option maxRecDepth 100000
set_option maxHeartbeats 16000000
set_option linter.unusedVariables false
set_option linter.unusedSimpArgs false
set_option linter.unusedSectionVars false
set_option linter.defProp false
namespace Go.Fg.X
open Go.Proofs Go.Fg
open Go.Proofs.Tryz
def QGF(x:Yw)(n)(h:n<0\/(x.ops.length:Int)<n):Zh prog 26 [.agg x.cells,Qb n] (Qo (.tup [.agg [.nil,.nil],Qb 1])):=by
 by_cases h0:n<0
 ·have d0:=Q7 h0;refine Zy 0 Qh 200 func26 rfl ntmps26 results26 rfl λbase w hb=>?_;simp only[go_sem];simp only[go_sem,d0,Go.undef]
 ·have d0:=QQ h0;have d1:=Q7 (h.resolve_left h0);refine Zy 0 Qh 200 func26 rfl ntmps26 results26 rfl λbase w hb=>?_;simp only[go_sem];simp only[go_sem,d0,d1,Go.undef]
def QGG(x:Yw)(n)(hx:∀a∈x.ops,JC.Ok a):Zh prog 5 [.agg x.cells,Qb n] (Qo (QY true)):=by
 have hF:=QBA x 200 (by decide);have hM:=QzR x.config;by_cases Sa:DY x 200=true
 ·rw[Sa]at hF;simp only[DY,ZJ,Yq]at Sa;obtain⟨hlen,Vo⟩:=Sa;have Js:∀o∈x.ops,JC.Ok o/\JC.Small o:=λo ho=>by
   have:=jN.1 Vo o ho;simp only[Ij,ZJ,Yq]at this;exact⟨hx o ho,by omega,by omega⟩
  by_cases hn:n<0\/(x.ops.length:Int)<n
  ·have hR:=QGF x n hn;by_cases h0:n<0
   ·have d0:=Q7 h0;refine Zy 0 Qh 200 func5 rfl ntmps5 results5 rfl λbase w hb=>?_;simp only[go_sem];refine xM hb [] fC rfl ?_ hF rfl λd h hR=>?_
    ·simp only[go_sem]
    obtain⟨rfl,rfl⟩:=hR;simp only[go_sem];apply ZC hb;refine xM hb [] QeT rfl ?_ hR rfl λd h hR=>?_
    ·simp only[go_sem,d0,Go.undef]
    obtain⟨rfl,rfl⟩:=hR;simp only[go_sem,d0,Go.undef];refine Qf hb ?_;simp only[go_sem,d0,Go.undef];refine Wj hb QeR Qfk (Qo.flat rfl) λd h hR=>?_;obtain⟨rfl,rfl⟩:=hR;exact xY hb
   ·have d0:=QQ h0;have d1:=Q7 (hn.resolve_left h0);refine Zy 0 Qh 200 func5 rfl ntmps5 results5 rfl λbase w hb=>?_;simp only[go_sem];refine xM hb [] fC rfl ?_ hF rfl λd h hR=>?_
    ·simp only[go_sem]
    obtain⟨rfl,rfl⟩:=hR;simp only[go_sem];apply ZC hb;refine xM hb [] QeT rfl ?_ hR rfl λd h hR=>?_
    ·simp only[go_sem,d0,d1,Go.undef]
    obtain⟨rfl,rfl⟩:=hR;simp only[go_sem,d0,d1,Go.undef];refine Qf hb ?_;simp only[go_sem,d0,d1,Go.undef];refine Wj hb QeR Qfk (Qo.flat rfl) λd h hR=>?_;obtain⟨rfl,rfl⟩:=hR;exact xY hb
  ·have d0:=QQ (show ¬n<0 by omega);have d1:=QQ (show ¬(x.ops.length:Int)<n by omega);have hR:=QmZ x n (by omega) (by omega) (by omega) Js;by_cases dc:RG x.config=true
   ·rw[dc]at hM;have K:=QzY.1 dc;have hA:=QBv x K (by omega) Js;have J3:=QGE (m:=200) K hlen (by decide) hx;obtain⟨e1,e2⟩:=QGB x.config x.ops n.toNat (by omega);have eF:Qab (Qad x n.toNat)=((Xp (S0 x.config) x.ops).2.1.take n.toNat,Tz7 (Xp (S0 x.config) x.ops).2.2 n,0):=by
     unfold Qab;rw[Qg (show RG (Qad x n.toNat).config=true from dc)];show ((Xp (S0 x.config) (x.ops.take n.toNat)).2.1,(Xp (S0 x.config) (x.ops.take n.toNat)).2.2,(0:Int))=_;rw[e1,e2,Gc (by omega)];rfl
    rw[eF]at hR;have JR:=Qgg x.ops (S0 x.config);generalize Xp (S0 x.config) x.ops=Z at *;obtain⟨Z0,RR,EE⟩:=Z;dsimp only at hR hA JR J3;have hs:(⟨RR,EE⟩:Mz7).Small:=⟨by show RR.length<_;omega,J3⟩;have Jk:(Qaa ⟨RR,EE⟩ n).Small:=⟨by show (RR.take n.toNat).length<_;rw[Qag];omega,NK (Yo _ _) J3⟩;have c1:=QmT ⟨RR,EE⟩ n hs;have c2:=QGm (Qaa ⟨RR,EE⟩ n) Jk;have c0:Mz7.cells ⟨RR,EE⟩=[RZ RR,OP EE]:=rfl;have c3:Mz7.cells (Qaa ⟨RR,EE⟩ n)=[RZ (RR.take n.toNat),OP (Tz7 EE n)]:=rfl;rw[c0,c3]at c1;rw[c3]at c2;generalize RR.take n.toNat=R1 at *;generalize Tz7 EE n=E1 at *;refine Zy 0 Qh 200 func5 rfl ntmps5 results5 rfl λbase w hb=>?_;simp only[go_sem];refine xM hb [] fC rfl ?_ hF rfl λd h hR=>?_
    ·simp only[go_sem]
    obtain⟨rfl,rfl⟩:=hR;simp only[go_sem];apply ZC hb;refine xM hb [] QeT rfl ?_ hR rfl λd h hR=>?_
    ·simp only[go_sem,d0,d1,Go.undef]
    obtain⟨rfl,rfl⟩:=hR;simp only[go_sem,d0,d1,Go.undef];refine Qf hb ?_;simp only[go_sem,d0,d1,Go.undef];refine xM hb [] Qdr rfl ?_ hM rfl λd h hR=>?_
    ·simp only[go_sem,Go.undef]
    obtain⟨rfl,rfl⟩:=hR;simp only[go_sem,Go.undef];refine Qf hb ?_;simp only[go_sem,Go.undef];refine xM hb [] QqY rfl ?_ hA rfl λd h hR=>?_
    ·simp only[go_sem,Go.undef]
    obtain⟨rfl,rfl⟩:=hR;simp only[go_sem,Go.undef];refine Qf hb ?_;simp only[go_sem,Go.undef];apply QH hb [0,1,2,3,4,5,6,7,8,9,1010,1011,12,13,1014,15,16];simp only[go_sem,Go.undef];refine QeN hb Qg9 rfl ?_ c1 rfl λd h hR=>?_
    ·simp only[go_sem,Go.undef]
    obtain⟨rfl,rfl⟩:=hR;simp only[go_sem,Go.undef];refine Zb hb ?_;simp only[go_sem,Go.undef];refine QeN hb Qys rfl ?_ c2 rfl λd h hR=>?_
    ·simp only[go_sem,Go.undef]
    obtain⟨rfl,rfl⟩:=hR;simp only[go_sem,Go.undef];refine Zb hb ?_;simp only[go_sem,Go.undef];refine KB hb QeR rfl ?_ Qfk (Qo.flat rfl) rfl λd h hR=>?_
    ·simp only[go_sem,Go.undef]
    obtain⟨rfl,rfl⟩:=hR;refine Zb hb ?_;simp only[go_sem,Go.undef]
   ·have dc:RG x.config=false:=by simpa using dc
    rw[dc]at hM;have eF:Qab (Qad x n.toNat)=([],[],1):=by
     unfold Qab;rw[Qd (show ¬RG (Qad x n.toNat).config=true by show ¬RG x.config=true;rw[dc];decide)]
    rw[eF]at hR;refine Zy 0 Qh 200 func5 rfl ntmps5 results5 rfl λbase w hb=>?_;simp only[go_sem];refine xM hb [] fC rfl ?_ hF rfl λd h hR=>?_
    ·simp only[go_sem]
    obtain⟨rfl,rfl⟩:=hR;simp only[go_sem];apply ZC hb;refine xM hb [] QeT rfl ?_ hR rfl λd h hR=>?_
    ·simp only[go_sem,d0,d1,Go.undef]
    obtain⟨rfl,rfl⟩:=hR;simp only[go_sem,d0,d1,Go.undef];refine Qf hb ?_;simp only[go_sem,d0,d1,Go.undef];refine xM hb [] Qdr rfl ?_ hM rfl λd h hR=>?_
    ·simp only[go_sem,Go.undef]
    obtain⟨rfl,rfl⟩:=hR;simp only[go_sem,Go.undef];refine Qf hb ?_;simp only[go_sem,Go.undef];refine Wj hb QeR Qfk (Qo.flat rfl) λd h hR=>?_;obtain⟨rfl,rfl⟩:=hR;exact xY hb
 ·have Sa:DY x 200=false:=by simpa using Sa
  rw[Sa]at hF;refine Zy 0 Qh 200 func5 rfl ntmps5 results5 rfl λbase w hb=>?_;simp only[go_sem];refine xM hb [] fC rfl ?_ hF rfl λd h hR=>?_
  ·simp only[go_sem]
  obtain⟨rfl,rfl⟩:=hR;simp only[go_sem];apply ZC hb;refine Wj hb QeR Qfk (Qo.flat rfl) λd h hR=>?_;obtain⟨rfl,rfl⟩:=hR;exact xY hb
end Go.Fg.X
namespace Go.Fg.X
open Go.Proofs Go.Fg Go.Proofs.YtjhngjdipealfaaGreat
open Go.ChangeShapes Go.RowKit
open Go.Proofs.Tryz
def QGH:laidOutB prog=true:=by kernel_rfl
def QGI:mapsRowed prog=true:=by kernel_rfl
def QGJ:prog.stopsHeard=true:=by kernel_rfl
def QGK:prog.mayEnter=true:=by kernel_rfl
def QGL:(Rows.replayFirstRow.lifted==prog.liftsFinal)=true:=by kernel_rfl
def QGM:(prog.make==some Rows.replayFirstRow.make)=true:=by kernel_rfl
end Go.Fg.X
namespace Go.Fg.X
open Go.Proofs Go.Fg Go.Proofs.YtjhngjdipealfaaGreat
open Go.ChangeShapes Go.WideShapes Go.ChangeAt Go.RowKit
open Go.Proofs.Tryz
def QGN:ownKnob prog.godebug=none:=by kernel_rfl
def Qm6:laidOutB prog=true:=by kernel_rfl
def QGO(os:Os)(started:os.Started)(H:Type)(enc:TypeId × Value->H):
  ReturnsInHanded {} checked os 5 .any (Rows.replayFirstSpec.pre6 enc prog f5 Rows.replayFirstRow.domain false) (Rows.replayFirstSpec.post enc prog f5 false true false false):=by
 refine returnsInHanded_of_change (C:=checked) QGN started (by kernel_rfl) func5
  (ChangeSpec.witness6 (enc:=enc) (C:=checked) false ⟨#[],#[.agg #[.int .i64 0,.int .i64 0,.slice none 0 0],.int .i64 0],[]⟩ 12 (by kernel_rfl) (by kernel_rfl) (by kernel_rfl) (by kernel_rfl)) ?_
 intro W base args ds gs before QjJ hW QFX _;have QjK:∀(j:Nat) t v,f5.params[j]? = some t->args[j]? = some v->Value.okWide prog W .any base t v:=QjJ;have hW':=hW;obtain⟨p,q,hA0,hV,rfl,LY,Z2⟩:=hW;have hA:DataW.TrodAll enc prog W 0 (λ_=>true) true f5.params.toList args.toList ds p:=hA0;rw[params5]at hA QjK;obtain⟨v0,vs0,d0,ds0,p0,q0,Um,rfl,rfl,h0,r0⟩:=trodAll_cons hA;obtain⟨v1,vs1,d1,ds1,p1,q1,rfl,rfl,rfl,h1,r1⟩:=trodAll_cons r0;obtain⟨rfl,rfl,rfl⟩:=trodAll_nil r1;obtain rfl:args=#[v0,v1]:=by cases args;simp_all
 obtain⟨rfl,rfl⟩:=trodVars_none hV;obtain⟨cs0,rfl,_⟩:=okWide_struct underlying26 (QjK 0 26 v0 rfl rfl);obtain⟨n1,rfl⟩:=okWide_int underlying3 (QjK 1 3 v1 rfl rfl);have t0:=h0;have lt0:∀x∈p0,x.block<W.heap.size:=by obtain⟨m,hm⟩:=t0;exact DataW.trod_lt m _ _ _ hm
 have t1:=h1;have lt1:∀x∈p1,x.block<W.heap.size:=by obtain⟨m,hm⟩:=t1;exact DataW.trod_lt m _ _ _ hm
 obtain⟨x0,k0,c0⟩:=Rd.many QsM h0;obtain⟨x1,k1,c1⟩:=Rd.one (Rd.int .i64 underlying3) h1 (Qy2 _ _);clear hA0 QjJ;have walk:Calls prog 5 #[.agg cs0,.int .i64 n1] W λe W'=>e=.returned (.bool true)/\Below W.heap.size W W':=QsE (QGG x0 x1 k0.2.1.2) W [_,_] rfl (λi hi=>match i,hi with
  | 0,_=>c0
  | 1,_=>c1)
 refine walk.mono λe W' ⟨he,qJ⟩=>?_;subst he;exact⟨_,rfl,_,_,_,[],_,[],hW',trodAll_mk1 (shut_bool underlying4 _),(trodAll_cons_mk (Below.trod Qm6 (by kernel_rfl) (YV (by kernel_rfl)) t0 qJ lt0) (trodAll_cons_mk (Below.trod Qm6 (by kernel_rfl) (YV (by kernel_rfl)) t1 qJ lt1) trodAll_mk0)),rfl,qJ.frame _,λh=>by cases h⟩
def jn{a b}(ha:a=true)(hb:b=true):(a&&b)=true:=by rw[ha,hb];rfl
def QGT:(Rows.replayFirstRow.inPlace==prog.inPlace 5)=true:=by kernel_rfl
def QGU:(Rows.replayFirstRow.unfollowed==prog.unfollowed 5)=true:=by kernel_rfl
def QGV:(Rows.replayFirstRow.recurses==prog.recurses 5)=true:=by kernel_rfl
def QGW:(Rows.replayFirstRow.named==prog.varsNamed 5)=true:=by kernel_rfl
def QGX:(Rows.replayFirstRow.maps==(f5.params.toList++Rows.replayFirstSpec.plain.varTypes prog).any (prog.mapsRec ·))=true:=by kernel_rfl
def QGY:(Rows.replayFirstRow.ifaces==(f5.params.toList++Rows.replayFirstSpec.plain.varTypes prog).any (prog.ifacesRec ·))=true:=by kernel_rfl
def QGZ:(Rows.replayFirstRow.loops==(f5.params.toList++Rows.replayFirstSpec.plain.varTypes prog).any (prog.loopsFrom ·))=true:=by kernel_rfl
def QG0:joinedFacts prog 5 f5 Rows.replayFirstSpec Rows.replayFirstRow=true:=by
 unfold joinedFacts;refine(jn (jn (jn (jn (jn (jn (jn (jn (jn (jn (jn (jn (jn (jn (jn (jn (jn (jn (jn (jn (jn (jn (jn (jn (jn (jn (jn (jn (jn (jn (jn ?_ QGH) QGI) ?_) ?_) ?_) ?_) ?_) ?_) QGT) QGU) QGV) QGW) QGX) QGY) ?_) QGZ) ?_) ?_) ?_) ?_) ?_) ?_) ?_) QGJ) QGK) QGL) QGM) ?_) ?_) ?_) ?_);all_goals kernel_rfl
def QG1:prog.funcNamed Rows.replayFirstRow.func=some 5:=by kernel_rfl
theorem provedReplayFirst:Rows.ReplayFirstSaid:=
 OpenClaim.holds_of_wide 5 f5 rfl rfl rfl rfl rfl rfl rfl ⟨rfl,rfl,rfl,rfl,rfl⟩ rfl rfl rfl rfl rfl QG1 func5 QG0
  (YV (by kernel_rfl)) (by unfold Func.isWrapper;first|(rw[Qg (by decide +kernel)];kernel_rfl)|(rw[Qd (by decide +kernel)];exact⟨rfl,rfl⟩))
  (λos started H enc _=>QGO os started H enc)
end Go.Fg.X
namespace Go.Proofs.YtjhngjdipealfaaGreat
theorem replayFirst_done: Rows.ReplayFirstSaid := Go.Fg.X.provedReplayFirst
end Go.Proofs.YtjhngjdipealfaaGreat
