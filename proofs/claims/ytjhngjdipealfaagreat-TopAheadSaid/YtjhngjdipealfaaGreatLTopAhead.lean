/- The statement TopAhead is proved. No conditions. -/
import Derived.Test.YtjhngjdipealfaaGreatTB2
import Derived.Test.YtjhngjdipealfaaGreatFgHx
import Derived.Test.YtjhngjdipealfaaGreatRows
set_option maxRecDepth 100000
set_option maxHeartbeats 16000000
set_option linter.unusedVariables false
set_option linter.unusedSimpArgs false
set_option linter.unusedSectionVars false
set_option linter.defProp false
namespace Go.Fg.X
open Go.Proofs Go.Fg
open Go.Proofs.Tryz
def QBL(c:Cf):(S0 c).Ql<ZL (S0 c):=by
 show 0<XU 0 0 (KQ (M0 c));have:KQ (M0 c)=9223372036854775808:=by kernel_rfl
 rw[this];decide
structure AhI (x:Yw) (p k:Nat) (own:Nat->Tag) (tw:Nat->TT) (H:List Ob) (S:ZH):Prop where
 T:VS own tw H p S
 V:Jh S
 C:F4 S
 ops:S.ops=k
 nx:S.Ql<ZL S
 hx:H[0]? = some ⟨.one,0,3,1,λ_=>x.cells⟩
def QBM(x:Yw)(hx:∀a∈x.ops,JC.Ok a):Zh prog 3 [.agg x.cells] (Qo (QY true)):=by
 refine pH (R:=λd hh=>d=QY true) _ rfl (λd hh h=>.inl (h▸xN _ _)) ?_;have hF:=QBA x 1000 (by decide);have hM:=QzR x.config;have h2:=QBJ;refine Uf Qh 200 func3 rfl ntmps3 results3 rfl λbase w hb=>?_;simp only[go_sem,Qa];by_cases Sa:DY x 1000=true
 ·rw[Sa]at hF;by_cases dc:RG x.config=true
  ·rw[dc]at hM;have K:=QzY.1 dc;simp only[DY,ZJ,Yq]at Sa;obtain⟨hlen,Vo⟩:=Sa;have Js:∀o∈x.ops,JC.Ok o/\JC.Small o:=λo ho=>by
    have:=jN.1 Vo o ho;simp only[Ij,ZJ,Yq]at this;exact⟨hx o ho,by omega,by omega⟩
   refine xM hb [] fC rfl ?_ hF rfl λd h hR=>?_
   ·simp only[go_sem,Qa]
   obtain⟨rfl,rfl⟩:=hR;simp only[go_sem,Qa];apply Q1 hb;refine xM hb [] Qdr rfl ?_ hM rfl λd h hR=>?_
   ·simp only[go_sem,Qa]
   obtain⟨rfl,rfl⟩:=hR;simp only[go_sem,Qa];apply Q1 hb;have hN:=Qjm (own:=λ_=>.no) (tw:=λ_=>.my) (λ_ _=>rfl) [(⟨.one,0,3,1,λ_=>x.cells⟩:Ob)] K;refine BD hb Qds hN λd h1 hR=>?_;obtain⟨Z7,Vk,p,rfl,T1,K1⟩:=hR;have VK:h1[0]? = some _:=K1.my 0 (by simp) rfl;have qw:=Qc VK;refine Qf hb ?_;simp only[go_sem,Qa,VK,qw];have I0:VS Z7 Vk h1 p (S0 x.config)/\Jh (S0 x.config)/\F4 (S0 x.config)/\(S0 x.config).ops=0/\(S0 x.config).Ql<ZL (S0 x.config):=⟨T1,Jh.start T1,⟨λk=>JQ _⟩,rfl,QBL _⟩;refine ZZ (λk s=>∃own tw H S,(VS own tw H p S/\Jh S/\F4 S/\S.ops=k/\S.Ql<ZL S)/\s=⟨[(3,.ptr p 0 0 0),(4,Qb 0),(5,u64 S.Ql),(30,.imm 10 x.ops.length (JC.rows x.ops)),(31,Qb x.ops.length),(32,Qb k)],H⟩) x.ops.length (QI.frame (by simp only[go_sem];rfl)) ⟨_,_,_,_,I0,rfl⟩ ?_;clear I0 T1 K1 VK qw hN;rintro k _ hk ⟨own,tw,H,S,⟨T,V,C,ops,nx⟩,rfl⟩;by_cases Qs:k<x.ops.length
   ·have dk:=Q7 Qs;have Zq:=Vp (show k<4611686018427387904 by omega);obtain⟨o,ho⟩:∃o,o=x.ops.getD k default:=⟨_,rfl⟩;have B9:o∈x.ops:=by rw[ho];exact jq x.ops default k Qs
    obtain⟨_,_,_,_,Tx⟩:=T;have T1:=Tx.jL [⟨.one,0,10,1,λ_=>o.cells⟩];have cP:=Qjc ⟨_,_,_,_,T1⟩ V C (by omega) o (Js o B9).1 (Js o B9).2.c (Js o B9).2.r;have hA:=QAB V nx (Js o B9).1.2.1.2;have V2:=V.do (Js o B9).1.2.1.2;have C2:=C.do o;have o2:=oY S o;rw[ops]at o2;refine Qf hb ?_;simp only[go_sem,Qa,dk,Qs,<- ho];refine Jl hb Qdt cP λd h2 hR=>?_;obtain⟨dl,JK,W0,rfl,T2,s2,K2⟩:=hR;refine Bp Qh hb 7 ?_;simp only[go_sem,Qa];obtain⟨Y,hY⟩:∃Y,Y=qV S o:=⟨_,rfl⟩;have s2l:=pJ S o Tx.co.cI;rw[<- hY]at T2 s2 hA V2 C2 o2 s2l ⊢;obtain⟨_,_,_,_,cQ⟩:=T2;have T3:=cQ.jL [⟨.one,0,3,1,λ_=>Y.r.cells⟩];have s3:WS (λl=>l<h2.length/\JK l=.no/\W0 l=.no) (h2++[(⟨.one,0,3,1,λ_=>Y.r.cells⟩:Ob)]) 12 Ev.cells dl Y.l:=s2.step λj hj h1=>⟨⟨hj,h1.2⟩,QC hj⟩;obtain⟨row,h4,W4,Zx,Dl,k4⟩:=Qjp (w0:=⟨w,[],[]⟩) rfl rfl (λa=>rfl) (fr:=[(3,.ptr p 0 0 0),(4,Qb 0),(5,u64 S.Ql),(9,dl),(30,.imm 10 x.ops.length (JC.rows x.ops)),(31,Qb x.ops.length),(32,Qb k)]) (h:=h2++[(⟨.one,0,3,1,λ_=>Y.r.cells⟩:Ob)]) 9 rfl s3;have Dl:h2.length+1<=h4.length:=by simpa using Dl
    have T4:=VS.far ⟨_,_,_,_,T3⟩ (by simpa using Dl) λl hl hn=>k4 l hl λhh=>hn ⟨(JY hh.1).trans hh.2.1,(KR hh.1).trans hh.2.2⟩;generalize QS (QS JK h2 .no) (h2++[(⟨.one,0,3,1,λ_=>Y.r.cells⟩:Ob)]) .no=own4 at T4;generalize ZS (ZS W0 h2 .my) (h2++[(⟨.one,0,3,1,λ_=>Y.r.cells⟩:Ob)]) .no=tw4 at T4;refine EO (QI.trans (QI.frame (fr':=[(3,.ptr p 0 0 0),(4,Qb 0),(5,u64 S.Ql),(9,dl),(30,.imm 10 x.ops.length (JC.rows x.ops)),(31,Qb x.ops.length),(32,Qb k)]) (by simp only[go_sem])) W4) ?_;clear W4 k4 T3 cQ K2 s2 s3 Tx T1 cP;obtain⟨Z,r,L⟩:=Y;have hA1:=hA.next;have hA2:=hA.Ql;have DO:=hA.ev;clear hA hY;dsimp only at *;have hZ:Z.Ql<=4611686018427387904:=V2.cl;apply Q1 hb;refine ZZ (λj s=>∃own tw H,∃last:Int,(VS own tw H p Z/\ahead Z.Ql last (L.drop j))/\s=⟨[(3,.ptr p 0 0 0),(4,Qb 0),(5,u64 S.Ql),(10,.raw (.int .u64 last)),(30,.imm 10 x.ops.length (JC.rows x.ops)),(31,Qb x.ops.length),(32,Qb k),(43,.imm 12 L.length row),(44,Qb L.length),(45,Qb j)],H⟩) L.length QO ⟨_,_,_,_,⟨T4,DO⟩,rfl⟩ ?_;clear T4 DO;rintro j _ hj ⟨wS,cH,H5,last,⟨T5,hA5⟩,rfl⟩;by_cases DZ:j<L.length
    ·have dj:=Q7 DZ;have hwj:=Vp (show j<4611686018427387904 by have:=s2l;omega);obtain⟨v,hv⟩:∃v,v=L.getD j default:=⟨_,rfl⟩;have hr:=Zx j DZ;rw[<- hv]at hr;have Jc:L.drop j=v::L.drop (j+1):=by
      rw[Iv DZ,hv,Q8,QP DZ];rfl
     rw[Jc]at hA5;obtain⟨b1,b2,b3,b4,b5⟩:=hA5;have d1:=QQ (show ¬ v.at_<last by omega);have d2:=QQ (show ¬ (Z.Ql:Int)<v.at_ by omega);obtain⟨_,_,_,_,Sb⟩:=T5;have T6:=Sb.jL [⟨.one,0,12,1,λ_=>v.cells⟩];have hC:=cT ⟨_,_,_,_,T6⟩;have hg:(H5++[(⟨.one,0,12,1,λ_=>v.cells⟩:Ob)])[H5.length]? = some ⟨.one,0,12,1,λ_=>v.cells⟩:=Ko rfl;refine Qf hb ?_;simp only[go_sem,Qa,dj,DZ,hr];cases hi:v.X9 with
     | true=>
      have d3:(v.done != 0)=false:=by rw[b3 hi];rfl
      apply QH hb [0,1,2,3,4,5,6,7,1008,9,10,11,12,13,14,15,16,17,18,19,20,21,22,23,24,25,26,27,28,29,30,31];simp only[go_sem,Qa,d1,hi];refine Wv hb Lx rfl ?_ (cT ⟨_,_,_,_,Sb.jL _⟩) rfl λd hR=>?_
      ·simp only[go_sem,Qa,d2,d3,hi]
      subst hR;refine Zb hb ?_;simp only[go_sem,Qa,d2,d3,hi];exact⟨DZ,_,QI.frame (by simp only[go_sem,hwj]),_,_,_,_,⟨⟨_,_,_,_,Sb.jL _⟩,b5⟩,rfl⟩
     | false=>
      have d3:=QQ (show ¬ v.done<=v.at_ by have:=b4 hi;omega);apply QH hb [0,1,2,3,4,5,6,7,1008,9,10,11,12,13,14,15,16,17,18,19,20,21,22,23,24,25,26,27,28,29,30,31];simp only[go_sem,Qa,d1,hi];refine Wv hb Lx rfl ?_ (cT ⟨_,_,_,_,Sb.jL _⟩) rfl λd hR=>?_
      ·simp only[go_sem,Qa,d2,d3,hi]
      subst hR;refine Zb hb ?_;simp only[go_sem,Qa,d2,d3,hi];exact⟨DZ,_,QI.frame (by simp only[go_sem,hwj]),_,_,_,_,⟨⟨_,_,_,_,Sb.jL _⟩,b5⟩,rfl⟩
    ·obtain rfl:j=L.length:=by omega
     have dj:=QQ DZ;have hC:=cT T5;have hN:=Qi0 T5;have d1:=QQ (show ¬ ZL Z<=Z.Ql by omega);have d2:=QQ (show ¬ Z.Ql<S.Ql by omega);have d3:=QQ (show ¬ 4611686018427387904<(Z.Ql:Int) by omega);refine Qf hb ?_;simp only[go_sem,Qa,dj,DZ];apply Q1 hb;refine JJ hb Qdu hN λd hR=>?_;subst hR;apply Q1 hb;refine ZT hb Lx rfl ?_ hC rfl λd hR=>?_
     ·simp only[go_sem,Qa,d1]
     subst hR;refine Qf hb ?_;simp only[go_sem,Qa,d1];refine ZT hb Lx rfl ?_ hC rfl λd hR=>?_
     ·simp only[go_sem,Qa,d2]
     subst hR;refine Qf hb ?_;simp only[go_sem,Qa,d2];refine ZT hb Lx rfl ?_ hC rfl λd hR=>?_
     ·simp only[go_sem,Qa,d3]
     subst hR;refine Qf hb ?_;simp only[go_sem,Qa,d3];refine JJ hb Lx hC λd hR=>?_;subst hR;apply Q1 hb;exact⟨Qs,_,QI.frame (by simp only[go_sem,Zq]),_,_,_,_,⟨T5,V2,C2,o2,hA1⟩,rfl⟩
   ·obtain rfl:k=x.ops.length:=by omega
    have dk:=QQ Qs;refine Qf hb ?_;simp only[go_sem,Qa,dk,Qs];apply Q1 hb;refine xM hb [] fD rfl ?_ h2 rfl λd h hR=>?_
    ·simp only[go_sem,Qa]
    obtain⟨rfl,rfl⟩:=hR;simp only[go_sem,Qa];exact LV hb
  ·rw[W3]at dc;rw[dc]at hM;refine xM hb [] fC rfl ?_ hF rfl λd h hR=>?_
   ·simp only[go_sem,Qa]
   obtain⟨rfl,rfl⟩:=hR;simp only[go_sem,Qa];apply Q1 hb;refine xM hb [] Qdr rfl ?_ hM rfl λd h hR=>?_
   ·simp only[go_sem,Qa]
   obtain⟨rfl,rfl⟩:=hR;simp only[go_sem,Qa];apply Q1 hb;refine xM hb [] fD rfl ?_ h2 rfl λd h hR=>?_
   ·simp only[go_sem,Qa]
   obtain⟨rfl,rfl⟩:=hR;simp only[go_sem,Qa];exact LV hb
 ·rw[W3]at Sa;rw[Sa]at hF;refine xM hb [] fC rfl ?_ hF rfl λd h hR=>?_
  ·simp only[go_sem,Qa]
  obtain⟨rfl,rfl⟩:=hR;simp only[go_sem,Qa];apply Q1 hb;refine xM hb [] fD rfl ?_ h2 rfl λd h hR=>?_
  ·simp only[go_sem,Qa]
  obtain⟨rfl,rfl⟩:=hR;simp only[go_sem,Qa];exact LV hb
end Go.Fg.X
namespace Go.Fg.X
open Go.Proofs Go.Fg Go.Proofs.YtjhngjdipealfaaGreat
open Go.ChangeShapes Go.RowKit
open Go.Proofs.Tryz
def QBO:laidOutB prog=true:=by kernel_rfl
def QBP:mapsRowed prog=true:=by kernel_rfl
def QBQ:prog.stopsHeard=true:=by kernel_rfl
def QBR:prog.mayEnter=true:=by kernel_rfl
def QBS:(Rows.topAheadRow.lifted==prog.liftsFinal)=true:=by kernel_rfl
def QBT:(prog.make==some Rows.topAheadRow.make)=true:=by kernel_rfl
end Go.Fg.X
namespace Go.Fg.X
open Go.Proofs Go.Fg Go.Proofs.YtjhngjdipealfaaGreat
open Go.ChangeShapes Go.WideShapes Go.ChangeAt Go.RowKit
open Go.Proofs.Tryz
def QBU:ownKnob prog.godebug=none:=by kernel_rfl
def QBV:laidOutB prog=true:=by kernel_rfl
def QBW(os:Os)(started:os.Started)(H:Type)(enc:TypeId × Value->H):
  ReturnsInHanded {} checked os 3 .any (Rows.topAheadSpec.pre6 enc prog f3 Rows.topAheadRow.domain false) (Rows.topAheadSpec.post enc prog f3 false true false false):=by
 refine returnsInHanded_of_change (C:=checked) QBU started (by kernel_rfl) func3
  (ChangeSpec.witness6 (enc:=enc) (C:=checked) false ⟨#[],#[.agg #[.int .i64 0,.int .i64 0,.slice none 0 0]],[]⟩ 12 (by kernel_rfl) (by kernel_rfl) (by kernel_rfl) (by kernel_rfl)) ?_
 intro W base args ds gs before QjJ hW QFX _;have QjK:∀(j:Nat) t v,f3.params[j]? = some t->args[j]? = some v->Value.okWide prog W .any base t v:=QjJ;have hW':=hW;obtain⟨p,q,hA0,hV,rfl,LY,Z2⟩:=hW;have hA:DataW.TrodAll enc prog W 0 (λ_=>true) true f3.params.toList args.toList ds p:=hA0;rw[params3]at hA QjK;obtain⟨v0,vs0,d0,ds0,p0,q0,Um,rfl,rfl,h0,r0⟩:=trodAll_cons hA;obtain⟨rfl,rfl,rfl⟩:=trodAll_nil r0;obtain rfl:args=#[v0]:=by cases args;simp_all
 obtain⟨rfl,rfl⟩:=trodVars_none hV;obtain⟨cs0,rfl,_⟩:=okWide_struct underlying26 (QjK 0 26 v0 rfl rfl);have t0:=h0;have lt0:∀x∈p0,x.block<W.heap.size:=by obtain⟨m,hm⟩:=t0;exact DataW.trod_lt m _ _ _ hm
 obtain⟨x0,k0,c0⟩:=Rd.many QsM h0;clear hA0 QjJ;have walk:Calls prog 3 #[.agg cs0] W λe W'=>e=.returned (.bool true)/\Below W.heap.size W W':=QsE (QBM x0 k0.2.1.2) W [_] rfl (λi hi=>match i,hi with
  | 0,_=>c0)
 refine walk.mono λe W' ⟨he,qJ⟩=>?_;subst he;exact⟨_,rfl,_,_,_,[],_,[],hW',trodAll_mk1 (shut_bool underlying4 _),(trodAll_cons_mk (Below.trod QBV (by kernel_rfl) (YV (by kernel_rfl)) t0 qJ lt0) trodAll_mk0),rfl,qJ.frame _,λh=>by cases h⟩
def jn{a b}(ha:a=true)(hb:b=true):(a&&b)=true:=by rw[ha,hb];rfl
def QB0:(Rows.topAheadRow.inPlace==prog.inPlace 3)=true:=by kernel_rfl
def QB1:(Rows.topAheadRow.unfollowed==prog.unfollowed 3)=true:=by kernel_rfl
def QB2:(Rows.topAheadRow.recurses==prog.recurses 3)=true:=by kernel_rfl
def QB3:(Rows.topAheadRow.named==prog.varsNamed 3)=true:=by kernel_rfl
def QB4:(Rows.topAheadRow.maps==(f3.params.toList++Rows.topAheadSpec.plain.varTypes prog).any (prog.mapsRec ·))=true:=by kernel_rfl
def QB5:(Rows.topAheadRow.ifaces==(f3.params.toList++Rows.topAheadSpec.plain.varTypes prog).any (prog.ifacesRec ·))=true:=by kernel_rfl
def QB6:(Rows.topAheadRow.loops==(f3.params.toList++Rows.topAheadSpec.plain.varTypes prog).any (prog.loopsFrom ·))=true:=by kernel_rfl
def QB7:joinedFacts prog 3 f3 Rows.topAheadSpec Rows.topAheadRow=true:=by
 unfold joinedFacts;refine(jn (jn (jn (jn (jn (jn (jn (jn (jn (jn (jn (jn (jn (jn (jn (jn (jn (jn (jn (jn (jn (jn (jn (jn (jn (jn (jn (jn (jn (jn (jn ?_ QBO) QBP) ?_) ?_) ?_) ?_) ?_) ?_) QB0) QB1) QB2) QB3) QB4) QB5) ?_) QB6) ?_) ?_) ?_) ?_) ?_) ?_) ?_) QBQ) QBR) QBS) QBT) ?_) ?_) ?_) ?_);all_goals kernel_rfl
def QB8:prog.funcNamed Rows.topAheadRow.func=some 3:=by kernel_rfl
theorem provedTopAhead:Rows.TopAheadSaid:=
 OpenClaim.holds_of_wide 3 f3 rfl rfl rfl rfl rfl rfl rfl ⟨rfl,rfl,rfl,rfl,rfl⟩ rfl rfl rfl rfl rfl QB8 func3 QB7
  (YV (by kernel_rfl)) (by unfold Func.isWrapper;first|(rw[Qg (by decide +kernel)];kernel_rfl)|(rw[Qd (by decide +kernel)];exact⟨rfl,rfl⟩))
  (λos started H enc _=>QBW os started H enc)
end Go.Fg.X
namespace Go.Proofs.YtjhngjdipealfaaGreat
theorem topAhead_done: Rows.TopAheadSaid := Go.Fg.X.provedTopAhead
end Go.Proofs.YtjhngjdipealfaaGreat
