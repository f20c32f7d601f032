/- The statement TopNil is proved. No conditions. -/
import Derived.Test.YtjhngjdipealfaaGreatTB2
import Derived.Test.YtjhngjdipealfaaGreatFgHx
import Derived.Test.YtjhngjdipealfaaGreatRows
set_option maxRecDepth 100000
set_option maxHeartbeats 16000000
set_option linter.unusedVariables false
set_option linter.unusedSimpArgs false
set_option linter.unusedSectionVars false
set_option linter.defProp false
namespace Go.Fg.X
open Go.Proofs Go.Fg
open Go.Proofs.Tryz
def QuZ:List D:=[.raw (.int .i64 0),.raw (.int .i64 0),.raw (.bool false),.raw (.int .u64 0),.raw (.int .u64 0),.raw (.int .u64 0),.raw (.int .u64 0),.raw (.int .u64 0),.raw (.int .u64 0),.raw (.int .u64 0),.raw (.int .u64 0),.raw (.int .u64 0),.raw (.int .i64 0),.raw (.int .i64 0),.raw (.bool false),.raw (.int .u64 0),.raw (.bool false),.raw (.int .u64 0),.raw (.int .u64 0),.raw (.int .u64 0),.raw (.int .u64 0),.raw (.int .u64 0),.raw (.int .u64 0),.raw (.int .u64 0),.raw (.int .u64 0),.raw (.bool false),.raw (.int .u64 0),.raw (.int .u64 0),.raw (.int .u64 0),.raw (.int .u64 0),.raw (.int .u64 0),.raw (.int .u64 0),.raw (.int .u64 0),.raw (.int .u64 0),.raw (.bool false),.raw (.int .u64 0),.raw (.int .u64 0),.raw (.int .u64 0),.raw (.bool false),.raw (.int .u64 0),.raw (.int .u64 0),.raw (.int .u64 0),.raw (.int .u64 0),.raw (.int .u64 0),.raw (.int .u64 0),.raw (.int .u64 0),.raw (.int .u64 0),.raw (.bool false),.raw (.int .u64 0),.raw (.bool false),.raw (.int .u64 0),.raw (.int .u64 0),.raw (.int .u64 0),.raw (.int .u64 0),.raw (.int .u64 0),.raw (.int .u64 0),.raw (.int .u64 0),.raw (.int .u64 0),.raw (.bool false),.raw (.int .u64 0),.raw (.int .u64 0),.raw (.int .u64 0),.raw (.int .u64 0),.raw (.int .u64 0),.raw (.int .u64 0),.raw (.int .u64 0),.raw (.int .u64 0)]
def QJN(h)(o:JC):Zg prog 13 h [.raw (.pointer none),.agg o.cells] (λd=>d=.tup [.agg [Qb 7,Qb 0,Qb 0],.nil]):=by
 refine Ai Qh 200 func13 rfl ntmps13 results13 rfl λbase w pl F hF Za hb=>?_;simp only[go_sem,Qa];first|exact⟨_,rfl⟩|exact⟨_,rfl,rfl⟩
def QJR(h)(id):Zg prog 16 h [.raw (.pointer none),Qb id] (λd=>d=.tup [.agg QuZ,Qb 7]):=by
 refine Ai Qh 200 func16 rfl ntmps16 results16 rfl λbase w pl F hF Za hb=>?_;simp only[go_sem,Qa];first|exact⟨_,rfl⟩|exact⟨_,rfl,rfl⟩
def QKb(h):Zg prog 17 h [.raw (.pointer none)] (λd=>d=.tup [Qb 0,Qb 0]):=by
 refine Ai Qh 200 func17 rfl ntmps17 results17 rfl λbase w pl F hF Za hb=>?_;simp only[go_sem,Qa];exact⟨[],(Zd F).symm⟩
def QKc(h):Zg prog 14 h [.raw (.pointer none)] (λd=>d=u64 0):=by
 refine Ai Qh 200 func14 rfl ntmps14 results14 rfl λbase w pl F hF Za hb=>?_;simp only[go_sem,Qa];exact⟨[],(Zd F).symm⟩
def QKd(h):Zg prog 18 h [.raw (.pointer none)] (λd=>d=u64 0):=by
 refine Ai Qh 200 func18 rfl ntmps18 results18 rfl λbase w pl F hF Za hb=>?_;simp only[go_sem,Qa];exact⟨[],(Zd F).symm⟩
def QKe(h):Zg prog 15 h [.raw (.pointer none)] (λd=>d=u64 9223372036854775808):=by
 refine Ai Qh 200 func15 rfl ntmps15 results15 rfl λbase w pl F hF Za hb=>?_;simp only[go_sem,Qa];exact⟨[],(Zd F).symm⟩
def QKo(h)(id):Zg prog 19 h [.raw (.pointer none),Qb id] (λd=>d=.nil):=by
 refine Ai Qh 200 func19 rfl ntmps19 results19 rfl λbase w pl F hF Za hb=>?_;simp only[go_sem,Qa];exact⟨[],(Zd F).symm⟩
def QKp(h):Zg prog 20 h [.raw (.pointer none)] (λd=>d=.nil):=by
 refine Ai Qh 200 func20 rfl ntmps20 results20 rfl λbase w pl F hF Za hb=>?_;simp only[go_sem,Qa];exact⟨[],(Zd F).symm⟩
def QKq(h):Zg prog 21 h [.raw (.pointer none)] (λd=>d=.nil):=by
 refine Ai Qh 200 func21 rfl ntmps21 results21 rfl λbase w pl F hF Za hb=>?_;simp only[go_sem,Qa];exact⟨[],(Zd F).symm⟩
def QKr(h)(id):Zg prog 22 h [.raw (.pointer none),Qb id] (λd=>d=.agg [u64 0,u64 0,u64 0,u64 0,u64 0]):=by
 refine Ai Qh 200 func22 rfl ntmps22 results22 rfl λbase w pl F hF Za hb=>?_;simp only[go_sem,Qa];first|exact⟨_,rfl⟩|exact⟨_,rfl,rfl⟩
def QKs(h):Zg prog 23 h [.raw (.pointer none)] (λd=>d=u64 0):=by
 refine Ai Qh 200 func23 rfl ntmps23 results23 rfl λbase w pl F hF Za hb=>?_;simp only[go_sem,Qa];exact⟨[],(Zd F).symm⟩
def QKt(h):Zg prog 24 h [.raw (.pointer none)] (λd=>d=.agg [Qb 0,Qb 0]):=by
 refine Ai Qh 200 func24 rfl ntmps24 results24 rfl λbase w pl F hF Za hb=>?_;simp only[go_sem,Qa];first|exact⟨_,rfl⟩|exact⟨_,rfl,rfl⟩
def QKu(o:JC)(id):Zh prog 4 [.agg o.cells,Qb id] (Qo (QY true)):=by
 have hC:=λh=>QJR h id;unfold QuZ at hC;refine Zy 0 Qh 200 func4 rfl ntmps4 results4 rfl λbase w hb=>?_;simp only[go_sem];refine JJ hb Qdt (QJN _ o) λd hR=>?_;subst hR;apply Q1 hb;refine JJ hb QFt (hC _) λd hR=>?_;subst hR;apply Q1 hb;refine JJ hb QFv (QKb _) λd hR=>?_;subst hR;apply Q1 hb;simp only[go_sem,List.append_eq,XW,YT,Jz,List.map_nil];refine JJ hb Lx (QKc _) λd hR=>?_;subst hR;apply Q1 hb;refine JJ hb QFx (QKd _) λd hR=>?_;subst hR;apply Q1 hb;refine JJ hb Qdu (QKe _) λd hR=>?_;subst hR;apply Q1 hb;refine JJ hb QFF (QKo _ id) λd hR=>?_;subst hR;apply Q1 hb;refine JJ hb QFU (QKp _) λd hR=>?_;subst hR;apply Q1 hb;refine JJ hb QFV (QKq _) λd hR=>?_;subst hR;apply Q1 hb;refine JJ hb QFW (QKr _ id) λd hR=>?_;subst hR;apply Q1 hb;refine JJ hb QFY (QKs _) λd hR=>?_;subst hR;apply Q1 hb;refine JJ hb QFZ (QKt _) λd hR=>?_;subst hR;apply Q1 hb;refine Wj hb fD QBJ (Qo.flat rfl) λd h hR=>?_;obtain⟨rfl,rfl⟩:=hR;exact xY hb
end Go.Fg.X
namespace Go.Fg.X
open Go.Proofs Go.Fg Go.Proofs.YtjhngjdipealfaaGreat
open Go.ChangeShapes Go.RowKit
open Go.Proofs.Tryz
def QKv:laidOutB prog=true:=by kernel_rfl
def QKw:mapsRowed prog=true:=by kernel_rfl
def QKx:prog.stopsHeard=true:=by kernel_rfl
def QKy:prog.mayEnter=true:=by kernel_rfl
def QKz:(Rows.topNilRow.lifted==prog.liftsFinal)=true:=by kernel_rfl
def QKA:(prog.make==some Rows.topNilRow.make)=true:=by kernel_rfl
end Go.Fg.X
namespace Go.Fg.X
open Go.Proofs Go.Fg Go.Proofs.YtjhngjdipealfaaGreat
open Go.ChangeShapes Go.WideShapes Go.ChangeAt Go.RowKit
open Go.Proofs.Tryz
def QKB:ownKnob prog.godebug=none:=by kernel_rfl
def Qvw:laidOutB prog=true:=by kernel_rfl
def QKC(os:Os)(started:os.Started)(H:Type)(enc:TypeId × Value->H):
  ReturnsInHanded {} checked os 4 .any (Rows.topNilSpec.pre6 enc prog f4 Rows.topNilRow.domain false) (Rows.topNilSpec.post enc prog f4 false true false false):=by
 refine returnsInHanded_of_change (C:=checked) QKB started (by kernel_rfl) func4
  (ChangeSpec.witness6 (enc:=enc) (C:=checked) false ⟨#[],#[.agg #[.int .i64 0,.slice none 0 0,.slice none 0 0,.int .u64 0,.int .i64 0,.int .u16 0,.int .u16 0,.int .u16 0,.int .u16 0,.int .u64 0],.int .i64 0],[]⟩ 12 (by kernel_rfl) (by kernel_rfl) (by kernel_rfl) (by kernel_rfl)) ?_
 intro W base args ds gs before QjJ hW QFX _;have QjK:∀(j:Nat) t v,f4.params[j]? = some t->args[j]? = some v->Value.okWide prog W .any base t v:=QjJ;have hW':=hW;obtain⟨p,q,hA0,hV,rfl,LY,Z2⟩:=hW;have hA:DataW.TrodAll enc prog W 0 (λ_=>true) true f4.params.toList args.toList ds p:=hA0;rw[params4]at hA QjK;obtain⟨v0,vs0,d0,ds0,p0,q0,Um,rfl,rfl,h0,r0⟩:=trodAll_cons hA;obtain⟨v1,vs1,d1,ds1,p1,q1,rfl,rfl,rfl,h1,r1⟩:=trodAll_cons r0;obtain⟨rfl,rfl,rfl⟩:=trodAll_nil r1;obtain rfl:args=#[v0,v1]:=by cases args;simp_all
 obtain⟨rfl,rfl⟩:=trodVars_none hV;obtain⟨cs0,rfl,_⟩:=okWide_struct underlying43 (QjK 0 43 v0 rfl rfl);obtain⟨n1,rfl⟩:=okWide_int underlying3 (QjK 1 3 v1 rfl rfl);have t0:=h0;have lt0:∀x∈p0,x.block<W.heap.size:=by obtain⟨m,hm⟩:=t0;exact DataW.trod_lt m _ _ _ hm
 have t1:=h1;have lt1:∀x∈p1,x.block<W.heap.size:=by obtain⟨m,hm⟩:=t1;exact DataW.trod_lt m _ _ _ hm
 obtain⟨x0,k0,c0⟩:=Rd.many QsL h0;obtain⟨x1,k1,c1⟩:=Rd.one (Rd.int .i64 underlying3) h1 (Qy2 _ _);clear hA0 QjJ;have walk:Calls prog 4 #[.agg cs0,.int .i64 n1] W λe W'=>e=.returned (.bool true)/\Below W.heap.size W W':=QsE (QKu x0 x1) W [_,_] rfl (λi hi=>match i,hi with
  | 0,_=>c0
  | 1,_=>c1)
 refine walk.mono λe W' ⟨he,qJ⟩=>?_;subst he;exact⟨_,rfl,_,_,_,[],_,[],hW',trodAll_mk1 (shut_bool underlying4 _),(trodAll_cons_mk (Below.trod Qvw (by kernel_rfl) (YV (by kernel_rfl)) t0 qJ lt0) (trodAll_cons_mk (Below.trod Qvw (by kernel_rfl) (YV (by kernel_rfl)) t1 qJ lt1) trodAll_mk0)),rfl,qJ.frame _,λh=>by cases h⟩
def jn{a b}(ha:a=true)(hb:b=true):(a&&b)=true:=by rw[ha,hb];rfl
def QKH:(Rows.topNilRow.inPlace==prog.inPlace 4)=true:=by kernel_rfl
def QKI:(Rows.topNilRow.unfollowed==prog.unfollowed 4)=true:=by kernel_rfl
def QKJ:(Rows.topNilRow.recurses==prog.recurses 4)=true:=by kernel_rfl
def QKK:(Rows.topNilRow.named==prog.varsNamed 4)=true:=by kernel_rfl
def QKL:(Rows.topNilRow.maps==(f4.params.toList++Rows.topNilSpec.plain.varTypes prog).any (prog.mapsRec ·))=true:=by kernel_rfl
def QKM:(Rows.topNilRow.ifaces==(f4.params.toList++Rows.topNilSpec.plain.varTypes prog).any (prog.ifacesRec ·))=true:=by kernel_rfl
def QKN:(Rows.topNilRow.loops==(f4.params.toList++Rows.topNilSpec.plain.varTypes prog).any (prog.loopsFrom ·))=true:=by kernel_rfl
def QKO:joinedFacts prog 4 f4 Rows.topNilSpec Rows.topNilRow=true:=by
 unfold joinedFacts;refine(jn (jn (jn (jn (jn (jn (jn (jn (jn (jn (jn (jn (jn (jn (jn (jn (jn (jn (jn (jn (jn (jn (jn (jn (jn (jn (jn (jn (jn (jn (jn ?_ QKv) QKw) ?_) ?_) ?_) ?_) ?_) ?_) QKH) QKI) QKJ) QKK) QKL) QKM) ?_) QKN) ?_) ?_) ?_) ?_) ?_) ?_) ?_) QKx) QKy) QKz) QKA) ?_) ?_) ?_) ?_);all_goals kernel_rfl
def QKP:prog.funcNamed Rows.topNilRow.func=some 4:=by kernel_rfl
theorem provedTopNil:Rows.TopNilSaid:=
 OpenClaim.holds_of_wide 4 f4 rfl rfl rfl rfl rfl rfl rfl ⟨rfl,rfl,rfl,rfl,rfl⟩ rfl rfl rfl rfl rfl QKP func4 QKO
  (YV (by kernel_rfl)) (by unfold Func.isWrapper;first|(rw[Qg (by decide +kernel)];kernel_rfl)|(rw[Qd (by decide +kernel)];exact⟨rfl,rfl⟩))
  (λos started H enc _=>QKC os started H enc)
end Go.Fg.X
namespace Go.Proofs.YtjhngjdipealfaaGreat
theorem topNil_done: Rows.TopNilSaid := Go.Fg.X.provedTopNil
end Go.Proofs.YtjhngjdipealfaaGreat
