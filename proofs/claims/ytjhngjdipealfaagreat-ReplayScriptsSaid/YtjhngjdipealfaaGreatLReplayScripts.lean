/- The statement ReplayScripts is proved. No conditions. -/
import Derived.Test.YtjhngjdipealfaaGreatRD1
import Derived.Test.YtjhngjdipealfaaGreatTB5
import Derived.Test.YtjhngjdipealfaaGreatFgHx
import Derived.Test.YtjhngjdipealfaaGreatRows
set_option maxRecDepth 100000
set_option maxHeartbeats 16000000
set_option linter.unusedVariables false
set_option linter.unusedSimpArgs false
set_option linter.unusedSectionVars false
set_option linter.defProp false
namespace Go.Fg.X
open Go.Proofs Go.Fg
open Go.Proofs.Tryz
def QLH(a:Mz7):Qak a a=none:=by
 unfold Qak;rw[List.find?_range_eq_none];intro i hi;have hi:i<a.results.length:=by omega
 unfold QeU;rw[QQ (by omega),Q7 rfl,Q7 rfl];rfl
def QA6(l:List Ev)(n i:Nat)(h:i<n):Sz7 (l.filter λe=>decide (e.op<(n:Int))) i=Sz7 l i:=by
 unfold Sz7;rw[List.filter_filter];refine Si λe _=>?_;by_cases he:e.op=i
 ·rw[he,Q7 (by omega)];simp
 ·rw[Xt he];rfl
def QLI(c)(a b:List JC)(n)(hn:n<=a.length)(A B:List WD × List Ev)(hA:A=(Xp (S0 c) a).2)(hB:B=(Xp (S0 c) (a.take n++b)).2):
  Qak ⟨A.1,A.2⟩ ⟨B.1,B.2⟩=none\/∃i,Qak ⟨A.1,A.2⟩ ⟨B.1,B.2⟩=some i/\n<=i:=by
 cases hd:Qak ⟨A.1,A.2⟩ ⟨B.1,B.2⟩ with
 | none=>exact .inl rfl
 | some i=>
  refine .inr ⟨i,rfl,Qnc λhi=>?_⟩;have h1:QeU ⟨A.1,A.2⟩ ⟨B.1,B.2⟩ i=true:=vR hd;have ht:(a.take n++b).take n=a.take n:=by
   rw[Qna (by rw[Qag];omega),Qnb (by rw[Qag];omega)]
  obtain⟨a1,a2⟩:=QGB c a n hn;obtain⟨b1,b2⟩:=QGB c (a.take n++b) n (by rw[ZX,Qag];omega);rw[ht]at b1 b2;have l1:=Qgg a (S0 c);have l2:=Qgg (a.take n++b) (S0 c);rw[ZX,Qag]at l2;rw[<- hA]at a1 a2 l1;rw[<- hB]at b1 b2 l2;have e1:A.1.getD i default=B.1.getD i default:=by
   have h:=a1.symm.trans b1;have h:=congrArg (λl=>l.getD i default) h;simpa[Q8,W5,hi] using h
  have e2:Sz7 A.2 i=Sz7 B.2 i:=by
   rw[<- QA6 A.2 n i hi,<- QA6 B.2 n i hi,<- a2,<- b2]
  unfold QeU at h1;rw[QQ (show ¬A.1.length<=i by omega),QQ (show ¬B.1.length<=i by omega),Q7 e1,Q7 e2]at h1;cases h1
def QLJ(x:Yw)(n)(more:List JC)(hx:∀a∈x.ops,JC.Ok a)(hm:∀a∈more,JC.Ok a):Zh prog 6 [.agg x.cells,Qb n,.imm 10 more.length (JC.rows more)] (Qo (QY true)):=by
 have hF:=QBA x 80 (by decide);have hZ:=QBA ⟨x.config,more⟩ 40 (by decide);have cz:Yw.cells ⟨x.config,more⟩=[Qb x.config.t,Qb x.config.Vc,.imm 10 more.length (JC.rows more)]:=rfl;rw[cz]at hZ;have hM:=QzR x.config;cases f1:DY x 80 with
 | false=>
  rw[f1]at hF;refine Zy 0 Qh 200 func6 rfl ntmps6 results6 rfl λbase w hb=>?_;simp only[go_sem];refine xM hb [] fC rfl ?_ hF rfl λd h hR=>?_
  ·simp only[go_sem,Go.undef]
  obtain⟨rfl,rfl⟩:=hR;simp only[go_sem,Go.undef];refine Qf hb ?_;simp only[go_sem,Go.undef];refine Wj hb QeR Qfk (Qo.flat rfl) λd h hR=>?_;obtain⟨rfl,rfl⟩:=hR;exact xY hb
 | true=>
 rw[f1]at hF;cases f2:DY ⟨x.config,more⟩ 40 with
 | false=>
  rw[f2]at hZ;refine Zy 0 Qh 200 func6 rfl ntmps6 results6 rfl λbase w hb=>?_;simp only[go_sem];refine xM hb [] fC rfl ?_ hF rfl λd h hR=>?_
  ·simp only[go_sem,Go.undef]
  obtain⟨rfl,rfl⟩:=hR;simp only[go_sem,Go.undef];refine Qf hb ?_;simp only[go_sem,Go.undef];refine xM hb [] fC rfl ?_ hZ rfl λd h hR=>?_
  ·simp only[go_sem,Go.undef]
  obtain⟨rfl,rfl⟩:=hR;simp only[go_sem,Go.undef];refine Qf hb ?_;simp only[go_sem,Go.undef];refine Wj hb QeR Qfk (Qo.flat rfl) λd h hR=>?_;obtain⟨rfl,rfl⟩:=hR;exact xY hb
 | true=>
 rw[f2]at hZ;cases f3:RG x.config with
 | false=>
  rw[f3]at hM;refine Zy 0 Qh 200 func6 rfl ntmps6 results6 rfl λbase w hb=>?_;simp only[go_sem];refine xM hb [] fC rfl ?_ hF rfl λd h hR=>?_
  ·simp only[go_sem,Go.undef]
  obtain⟨rfl,rfl⟩:=hR;simp only[go_sem,Go.undef];refine Qf hb ?_;simp only[go_sem,Go.undef];refine xM hb [] fC rfl ?_ hZ rfl λd h hR=>?_
  ·simp only[go_sem,Go.undef]
  obtain⟨rfl,rfl⟩:=hR;simp only[go_sem,Go.undef];refine Qf hb ?_;simp only[go_sem,Go.undef];refine xM hb [] Qdr rfl ?_ hM rfl λd h hR=>?_
  ·simp only[go_sem,Go.undef]
  obtain⟨rfl,rfl⟩:=hR;simp only[go_sem,Go.undef];refine Qf hb ?_;simp only[go_sem,Go.undef];refine Wj hb QeR Qfk (Qo.flat rfl) λd h hR=>?_;obtain⟨rfl,rfl⟩:=hR;exact xY hb
 | true=>
 rw[f3]at hM;by_cases h0:n<0
 ·have d0:=Q7 h0;refine Zy 0 Qh 200 func6 rfl ntmps6 results6 rfl λbase w hb=>?_;simp only[go_sem];refine xM hb [] fC rfl ?_ hF rfl λd h hR=>?_
  ·simp only[go_sem,Go.undef]
  obtain⟨rfl,rfl⟩:=hR;simp only[go_sem,Go.undef];refine Qf hb ?_;simp only[go_sem,Go.undef];refine xM hb [] fC rfl ?_ hZ rfl λd h hR=>?_
  ·simp only[go_sem,Go.undef]
  obtain⟨rfl,rfl⟩:=hR;simp only[go_sem,Go.undef];refine Qf hb ?_;simp only[go_sem,Go.undef];refine xM hb [] Qdr rfl ?_ hM rfl λd h hR=>?_
  ·simp only[go_sem,Go.undef,d0]
  obtain⟨rfl,rfl⟩:=hR;simp only[go_sem,Go.undef,d0];refine Qf hb ?_;simp only[go_sem,Go.undef,d0];refine Wj hb QeR Qfk (Qo.flat rfl) λd h hR=>?_;obtain⟨rfl,rfl⟩:=hR;exact xY hb
 have d0:=QQ h0;by_cases h1:(x.ops.length:Int)<n
 ·have d1:=Q7 h1;refine Zy 0 Qh 200 func6 rfl ntmps6 results6 rfl λbase w hb=>?_;simp only[go_sem];refine xM hb [] fC rfl ?_ hF rfl λd h hR=>?_
  ·simp only[go_sem,Go.undef]
  obtain⟨rfl,rfl⟩:=hR;simp only[go_sem,Go.undef];refine Qf hb ?_;simp only[go_sem,Go.undef];refine xM hb [] fC rfl ?_ hZ rfl λd h hR=>?_
  ·simp only[go_sem,Go.undef]
  obtain⟨rfl,rfl⟩:=hR;simp only[go_sem,Go.undef];refine Qf hb ?_;simp only[go_sem,Go.undef];refine xM hb [] Qdr rfl ?_ hM rfl λd h hR=>?_
  ·simp only[go_sem,Go.undef,d0,d1]
  obtain⟨rfl,rfl⟩:=hR;simp only[go_sem,Go.undef,d0,d1];refine Qf hb ?_;simp only[go_sem,Go.undef,d0,d1];refine Wj hb QeR Qfk (Qo.flat rfl) λd h hR=>?_;obtain⟨rfl,rfl⟩:=hR;exact xY hb
 have d1:=QQ h1;obtain⟨m,rfl⟩:∃m:Nat,n=m:=⟨n.toNat,by omega⟩;have hmx:m<=x.ops.length:=by omega
 have d2:decide (x.ops.length<m)=false:=QQ (by omega);have hz:((m:Int) - 0).toNat=m:=by omega
 obtain⟨l1,o1⟩:=QJY f1 hx;obtain⟨l2,o2⟩:=QJY f2 hm;have K:=QzY.1 f3;have hA:=QBv x K (by omega) o1;refine Zy 0 Qh 200 func6 rfl ntmps6 results6 rfl λbase w hb=>?_;simp only[go_sem];refine xM hb [] fC rfl ?_ hF rfl λd h hR=>?_
 ·simp only[go_sem,Go.undef]
 obtain⟨rfl,rfl⟩:=hR;simp only[go_sem,Go.undef];refine Qf hb ?_;simp only[go_sem,Go.undef];refine xM hb [] fC rfl ?_ hZ rfl λd h hR=>?_
 ·simp only[go_sem,Go.undef]
 obtain⟨rfl,rfl⟩:=hR;simp only[go_sem,Go.undef];refine Qf hb ?_;simp only[go_sem,Go.undef];refine xM hb [] Qdr rfl ?_ hM rfl λd h hR=>?_
 ·simp only[go_sem,Go.undef,d0,d2,hmx,hz]
 obtain⟨rfl,rfl⟩:=hR;simp only[go_sem,Go.undef,d0,d2,hmx,hz];refine Qf hb ?_;simp only[go_sem,Go.undef,d0,d2,hmx,hz];have l2:more.length<=40:=l2;refine⟨by omega,by omega,?_⟩;refine xM hb [] QqY rfl ?_ hA rfl λd h hR=>?_
 ·simp only[go_sem]
 obtain⟨rfl,rfl⟩:=hR;simp only[go_sem];obtain⟨ys,Gx⟩:∃ys,ys=x.ops.take m++more:=⟨_,rfl⟩;have BO:(x.ops.take m).length=m:=by rw[Qag];omega
 have hly:ys.length=m+more.length:=by rw[Gx,ZX,BO]
 have Zx:=cO (f:=JC.cells) (L:=x.ops.take m) (M:=more) (r1:=λi=>(x.ops.getD i default).cells) (r2:=JC.rows more) (λi hi=>by
  rw[BO]at hi;show _=((x.ops.take m).getD i default).cells;rw[Q8,Q8,List.getElem?_take_of_lt hi]) (λi hi=>rfl)
 rw[<- Gx,BO,hly]at Zx;have o3:∀o∈ys,JC.Ok o/\JC.Small o:=λo ho=>by
  rw[Gx]at ho;rcases QT.1 ho with h|h
  ·exact o1 o (List.mem_of_mem_take h)
  ·exact o2 o h
 have hB:=QBv ⟨x.config,ys⟩ K (by show ys.length<=1000;omega) o3;have cb:Yw.cells ⟨x.config,ys⟩=[Qb x.config.t,Qb x.config.Vc,.imm 10 ys.length (JC.rows ys)]:=rfl;rw[cb]at hB;have b1:=QGE (x:=x) (m:=200) K (by omega) (by decide) hx;have b2:=QGE (x:=⟨x.config,ys⟩) (m:=200) K (by show ys.length<=200;omega) (by decide) λo ho=>(o3 o ho).1;have hd:=QLI x.config x.ops more m hmx _ _ rfl rfl;rw[<- Gx]at hd;have r1:=Qgg x.ops (S0 x.config);have r2:=Qgg ys (S0 x.config);have b2:(Xp (S0 x.config) ys).2.2.length<100000000:=b2;refine Bp Qh hb 13 ?_;simp only[go_sem,Go.undef];refine GW (QI.rows 2 (JC.rows ys) (by exact rfl) ?_) ?_
 ·intro i hi;dsimp only at hi ⊢;exact Zx i hi
 simp only[go_sem];refine GW (QI.freeze rfl 2 rfl rfl (λi hi=>rfl)) ?_;simp only[go_sem];generalize Xp (S0 x.config) x.ops=Z at *;obtain⟨Z0,RR,EE⟩:=Z;dsimp only at *;refine xM hb [] QqY rfl ?_ hB rfl λd h hR=>?_
 ·simp only[go_sem,hly]
 obtain⟨rfl,rfl⟩:=hR;simp only[go_sem];generalize Xp (S0 x.config) ys=Y at *;obtain⟨Y0,R2,E2⟩:=Y;dsimp only at *;have s1:(⟨RR,EE⟩:Mz7).Small:=⟨by show RR.length<_;omega,b1⟩;have s2:(⟨R2,E2⟩:Mz7).Small:=⟨by show R2.length<_;omega,b2⟩;have c1:=QmV ⟨RR,EE⟩ ⟨R2,E2⟩ s1 s2;have c2:=QmV ⟨RR,EE⟩ ⟨RR,EE⟩ s1 s1;rw[QLH]at c2;have e1:Mz7.cells ⟨RR,EE⟩=[RZ RR,OP EE]:=rfl;have e2:Mz7.cells ⟨R2,E2⟩=[RZ R2,OP E2]:=rfl;rw[e1,e2]at c1;rw[e1]at c2;apply Q1 hb;rcases hd with hd|⟨i,hd,hi⟩
 ·rw[hd]at c1;refine xM hb [] Qhh rfl ?_ c1 rfl λd h hR=>?_
  ·simp only[go_sem]
  obtain⟨rfl,rfl⟩:=hR;simp only[go_sem];refine Qf hb ?_;simp only[go_sem,Qa,IB,kP,Go.undef];refine xM hb [] Qhh rfl ?_ c2 rfl λd h hR=>?_
  ·simp only[go_sem]
  obtain⟨rfl,rfl⟩:=hR;simp only[go_sem];refine Qf hb ?_;simp only[go_sem,Qa,IB,kP,Go.undef];refine Wj hb QeR Qfk (Qo.flat rfl) λd h hR=>?_;obtain⟨rfl,rfl⟩:=hR;exact xY hb
 ·rw[hd]at c1;have d5:=Q7 hi;refine xM hb [] Qhh rfl ?_ c1 rfl λd h hR=>?_
  ·simp only[go_sem]
  obtain⟨rfl,rfl⟩:=hR;simp only[go_sem];refine Qf hb ?_;simp only[go_sem,Qa,KS,jP,Go.undef];refine xM hb [] Qhh rfl ?_ c2 rfl λd h hR=>?_
  ·simp only[go_sem]
  obtain⟨rfl,rfl⟩:=hR;simp only[go_sem];refine Qf hb ?_;simp only[go_sem,Qa,IB,kP,Go.undef,d5];refine Wj hb QeR Qfk (Qo.flat rfl) λd h hR=>?_;obtain⟨rfl,rfl⟩:=hR;exact xY hb
end Go.Fg.X
namespace Go.Fg.X
open Go.Proofs Go.Fg Go.Proofs.YtjhngjdipealfaaGreat
open Go.ChangeShapes Go.RowKit
open Go.Proofs.Tryz
def QLK:laidOutB prog=true:=by kernel_rfl
def QLL:mapsRowed prog=true:=by kernel_rfl
def QLM:prog.stopsHeard=true:=by kernel_rfl
def QLN:prog.mayEnter=true:=by kernel_rfl
def QLO:(Rows.replayScriptsRow.lifted==prog.liftsFinal)=true:=by kernel_rfl
def QLP:(prog.make==some Rows.replayScriptsRow.make)=true:=by kernel_rfl
end Go.Fg.X
namespace Go.Fg.X
open Go.Proofs Go.Fg Go.Proofs.YtjhngjdipealfaaGreat
open Go.ChangeShapes Go.WideShapes Go.ChangeAt Go.RowKit
open Go.Proofs.Tryz
def QLQ:ownKnob prog.godebug=none:=by kernel_rfl
def Qnt:laidOutB prog=true:=by kernel_rfl
def QLR(os:Os)(started:os.Started)(H:Type)(enc:TypeId × Value->H):
  ReturnsInHanded {} checked os 6 .any (Rows.replayScriptsSpec.pre6 enc prog f6 Rows.replayScriptsRow.domain false) (Rows.replayScriptsSpec.post enc prog f6 false true false false):=by
 refine returnsInHanded_of_change (C:=checked) QLQ started (by kernel_rfl) func6
  (ChangeSpec.witness6 (enc:=enc) (C:=checked) false ⟨#[],#[.agg #[.int .i64 0,.int .i64 0,.slice none 0 0],.int .i64 0,.slice none 0 0],[]⟩ 12 (by kernel_rfl) (by kernel_rfl) (by kernel_rfl) (by kernel_rfl)) ?_
 intro W base args ds gs before QjJ hW QFX _;have QjK:∀(j:Nat) t v,f6.params[j]? = some t->args[j]? = some v->Value.okWide prog W .any base t v:=QjJ;have hW':=hW;obtain⟨p,q,hA0,hV,rfl,LY,Z2⟩:=hW;have hA:DataW.TrodAll enc prog W 0 (λ_=>true) true f6.params.toList args.toList ds p:=hA0;rw[params6]at hA QjK;obtain⟨v0,vs0,d0,ds0,p0,q0,Um,rfl,rfl,h0,r0⟩:=trodAll_cons hA;obtain⟨v1,vs1,d1,ds1,p1,q1,rfl,rfl,rfl,h1,r1⟩:=trodAll_cons r0;obtain⟨v2,vs2,d2,ds2,p2,q2,rfl,rfl,rfl,h2,r2⟩:=trodAll_cons r1;obtain⟨rfl,rfl,rfl⟩:=trodAll_nil r2;obtain rfl:args=#[v0,v1,v2]:=by cases args;simp_all
 obtain⟨rfl,rfl⟩:=trodVars_none hV;obtain⟨cs0,rfl,_⟩:=okWide_struct underlying26 (QjK 0 26 v0 rfl rfl);obtain⟨n1,rfl⟩:=okWide_int underlying3 (QjK 1 3 v1 rfl rfl);obtain⟨a2,QLU,QLV,rfl⟩:=okWide_slice underlying24 (QjK 2 24 v2 rfl rfl);have t0:=h0;have lt0:∀x∈p0,x.block<W.heap.size:=by obtain⟨m,hm⟩:=t0;exact DataW.trod_lt m _ _ _ hm
 have t1:=h1;have lt1:∀x∈p1,x.block<W.heap.size:=by obtain⟨m,hm⟩:=t1;exact DataW.trod_lt m _ _ _ hm
 have t2:=h2;have R8:∀x∈p2,x.block<W.heap.size:=by obtain⟨m,hm⟩:=t2;exact DataW.trod_lt m _ _ _ hm
 obtain⟨x0,k0,c0⟩:=Rd.many QsM h0;obtain⟨x1,k1,c1⟩:=Rd.one (Rd.int .i64 underlying3) h1 (Qy2 _ _);obtain⟨x2,k2,c2⟩:=Rd.one (Rd.slice 10 underlying24 (by kernel_rfl) (by decide) QsL) h2 (QIm _ _ _);clear hA0 QjJ;have walk:Calls prog 6 #[.agg cs0,.int .i64 n1,.slice a2 QLU QLV] W λe W'=>e=.returned (.bool true)/\Below W.heap.size W W':=QsE (QLJ x0 x1 x2 k0.2.1.2 k2.2) W [_,_,_] rfl (λi hi=>match i,hi with
  | 0,_=>c0
  | 1,_=>c1
  | 2,_=>c2)
 refine walk.mono λe W' ⟨he,qJ⟩=>?_;subst he;exact⟨_,rfl,_,_,_,[],_,[],hW',trodAll_mk1 (shut_bool underlying4 _),(trodAll_cons_mk (Below.trod Qnt (by kernel_rfl) (YV (by kernel_rfl)) t0 qJ lt0) (trodAll_cons_mk (Below.trod Qnt (by kernel_rfl) (YV (by kernel_rfl)) t1 qJ lt1) (trodAll_cons_mk (Below.trod Qnt (by kernel_rfl) (YV (by kernel_rfl)) t2 qJ R8) trodAll_mk0))),rfl,qJ.frame _,λh=>by cases h⟩
def jn{a b}(ha:a=true)(hb:b=true):(a&&b)=true:=by rw[ha,hb];rfl
def QLW:(Rows.replayScriptsRow.inPlace==prog.inPlace 6)=true:=by kernel_rfl
def QLX:(Rows.replayScriptsRow.unfollowed==prog.unfollowed 6)=true:=by kernel_rfl
def QLY:(Rows.replayScriptsRow.recurses==prog.recurses 6)=true:=by kernel_rfl
def QLZ:(Rows.replayScriptsRow.named==prog.varsNamed 6)=true:=by kernel_rfl
def QL0:(Rows.replayScriptsRow.maps==(f6.params.toList++Rows.replayScriptsSpec.plain.varTypes prog).any (prog.mapsRec ·))=true:=by kernel_rfl
def QL1:(Rows.replayScriptsRow.ifaces==(f6.params.toList++Rows.replayScriptsSpec.plain.varTypes prog).any (prog.ifacesRec ·))=true:=by kernel_rfl
def QL2:(Rows.replayScriptsRow.loops==(f6.params.toList++Rows.replayScriptsSpec.plain.varTypes prog).any (prog.loopsFrom ·))=true:=by kernel_rfl
def QL3:joinedFacts prog 6 f6 Rows.replayScriptsSpec Rows.replayScriptsRow=true:=by
 unfold joinedFacts;refine(jn (jn (jn (jn (jn (jn (jn (jn (jn (jn (jn (jn (jn (jn (jn (jn (jn (jn (jn (jn (jn (jn (jn (jn (jn (jn (jn (jn (jn (jn (jn ?_ QLK) QLL) ?_) ?_) ?_) ?_) ?_) ?_) QLW) QLX) QLY) QLZ) QL0) QL1) ?_) QL2) ?_) ?_) ?_) ?_) ?_) ?_) ?_) QLM) QLN) QLO) QLP) ?_) ?_) ?_) ?_);all_goals kernel_rfl
def QL4:prog.funcNamed Rows.replayScriptsRow.func=some 6:=by kernel_rfl
theorem provedReplayScripts:Rows.ReplayScriptsSaid:=
 OpenClaim.holds_of_wide 6 f6 rfl rfl rfl rfl rfl rfl rfl ⟨rfl,rfl,rfl,rfl,rfl⟩ rfl rfl rfl rfl rfl QL4 func6 QL3
  (YV (by kernel_rfl)) (by unfold Func.isWrapper;first|(rw[Qg (by decide +kernel)];kernel_rfl)|(rw[Qd (by decide +kernel)];exact⟨rfl,rfl⟩))
  (λos started H enc _=>QLR os started H enc)
end Go.Fg.X
namespace Go.Proofs.YtjhngjdipealfaaGreat
theorem replayScripts_done: Rows.ReplayScriptsSaid := Go.Fg.X.provedReplayScripts
end Go.Proofs.YtjhngjdipealfaaGreat
