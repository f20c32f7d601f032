/- The statement StateAll is proved. No conditions. -/
import Derived.Test.YtpafochnmfelfaaGreatSWkH
import Derived.Test.YtpafochnmfelfaaGreatCA5H
import Derived.Test.YtpafochnmfelfaaGreatRows
set_option maxRecDepth 100000
set_option maxHeartbeats 16000000
set_option linter.unusedVariables false
set_option linter.unusedSimpArgs false
set_option linter.unusedSectionVars false
set_option linter.defProp false
namespace Go.Fg.X
open Go.Proofs Go.Fg
open Go.Proofs.Tryz
def QE9(x y:qI)(b:List ZY)(hx:∀a∈x.ops,ZY.Ok a)(hy:∀a∈y.ops,ZY.Ok a)(hm:∀a∈b,ZY.Ok a):Q6 prog 4 [.agg x.cells,.agg y.cells,.imm 10 b.length (ZY.rows b)] (Zm (QT true)):=by
 refine sG (R:=λd hh=>d=QT true) _ rfl (λd hh h=>.inl (h▸qH _ _)) ?_;obtain⟨z,hz⟩:∃z:qI,z=⟨x.config,b⟩:=⟨_,rfl⟩;have v:=Qys x 100 π;have I:=Qys y 100 π;have u:Q6 prog 7 [.agg [Qb x.config.t,Qb x.config.JU,.imm 10 b.length (ZY.rows b)],Qb 60] (Zm (QT (CY z 60))):=by rw[hz];exact Qys ⟨x.config,b⟩ 60 π
 have T:=QwM x.config;have hN:=QwM y.config;have J:=Qzx;refine af J8 200 func4 rfl ntmps4 results4 rfl λb5 w c=>?_;simp only[go_sem,Qa];cases sZ:CY x 100 with
 | false=>
  rw[sZ]at v;refine kQ c [] PL rfl ?_ v rfl λd h e=>?_
  .simp only[go_sem,Qa,Go.undef]
  obtain⟨rfl,rfl⟩:=e;simp only[go_sem,Qa,Go.undef];apply Qg c;simp only[go_sem,Qa,Go.undef];refine kQ c [] Mx rfl ?_ J rfl λd h e=>?_
  .simp only[go_sem,Qa]
  obtain⟨rfl,rfl⟩:=e;simp only[go_sem,Qa];exact HT c
 | true=>
 rw[sZ]at v;cases By:CY y 100 with
 | false=>
  rw[By]at I;refine kQ c [] PL rfl ?_ v rfl λd h e=>?_
  .simp only[go_sem,Qa,Go.undef]
  obtain⟨rfl,rfl⟩:=e;simp only[go_sem,Qa,Go.undef];apply Qg c;simp only[go_sem,Qa,Go.undef];refine kQ c [] PL rfl ?_ I rfl λd h e=>?_
  .simp only[go_sem,Qa,Go.undef]
  obtain⟨rfl,rfl⟩:=e;simp only[go_sem,Qa,Go.undef];apply Qg c;simp only[go_sem,Qa,Go.undef];refine kQ c [] Mx rfl ?_ J rfl λd h e=>?_
  .simp only[go_sem,Qa]
  obtain⟨rfl,rfl⟩:=e;simp only[go_sem,Qa];exact HT c
 | true=>
 rw[By]at I;cases M:CY z 60 with
 | false=>
  rw[M]at u;refine kQ c [] PL rfl ?_ v rfl λd h e=>?_
  .simp only[go_sem,Qa,Go.undef]
  obtain⟨rfl,rfl⟩:=e;simp only[go_sem,Qa,Go.undef];apply Qg c;simp only[go_sem,Qa,Go.undef];refine kQ c [] PL rfl ?_ I rfl λd h e=>?_
  .simp only[go_sem,Qa,Go.undef]
  obtain⟨rfl,rfl⟩:=e;simp only[go_sem,Qa,Go.undef];apply Qg c;simp only[go_sem,Qa,Go.undef];refine kQ c [] PL rfl ?_ u rfl λd h e=>?_
  .simp only[go_sem,Qa,Go.undef]
  obtain⟨rfl,rfl⟩:=e;simp only[go_sem,Qa,Go.undef];apply Qg c;simp only[go_sem,Qa,Go.undef];refine kQ c [] Mx rfl ?_ J rfl λd h e=>?_
  .simp only[go_sem,Qa]
  obtain⟨rfl,rfl⟩:=e;simp only[go_sem,Qa];exact HT c
 | true=>
 rw[M]at u;cases ta:SG x.config with
 | false=>
  rw[ta]at T;refine kQ c [] PL rfl ?_ v rfl λd h e=>?_
  .simp only[go_sem,Qa,Go.undef]
  obtain⟨rfl,rfl⟩:=e;simp only[go_sem,Qa,Go.undef];apply Qg c;simp only[go_sem,Qa,Go.undef];refine kQ c [] PL rfl ?_ I rfl λd h e=>?_
  .simp only[go_sem,Qa,Go.undef]
  obtain⟨rfl,rfl⟩:=e;simp only[go_sem,Qa,Go.undef];apply Qg c;simp only[go_sem,Qa,Go.undef];refine kQ c [] PL rfl ?_ u rfl λd h e=>?_
  .simp only[go_sem,Qa,Go.undef]
  obtain⟨rfl,rfl⟩:=e;simp only[go_sem,Qa,Go.undef];apply Qg c;simp only[go_sem,Qa,Go.undef];refine kQ c [] aM rfl ?_ T rfl λd h e=>?_
  .simp only[go_sem,Qa,Go.undef]
  obtain⟨rfl,rfl⟩:=e;simp only[go_sem,Qa,Go.undef];apply Qg c;simp only[go_sem,Qa,Go.undef];refine kQ c [] Mx rfl ?_ J rfl λd h e=>?_
  .simp only[go_sem,Qa]
  obtain⟨rfl,rfl⟩:=e;simp only[go_sem,Qa];exact HT c
 | true=>
 rw[ta]at T;cases CH:SG y.config with
 | false=>
  rw[CH]at hN;refine kQ c [] PL rfl ?_ v rfl λd h e=>?_
  .simp only[go_sem,Qa,Go.undef]
  obtain⟨rfl,rfl⟩:=e;simp only[go_sem,Qa,Go.undef];apply Qg c;simp only[go_sem,Qa,Go.undef];refine kQ c [] PL rfl ?_ I rfl λd h e=>?_
  .simp only[go_sem,Qa,Go.undef]
  obtain⟨rfl,rfl⟩:=e;simp only[go_sem,Qa,Go.undef];apply Qg c;simp only[go_sem,Qa,Go.undef];refine kQ c [] PL rfl ?_ u rfl λd h e=>?_
  .simp only[go_sem,Qa,Go.undef]
  obtain⟨rfl,rfl⟩:=e;simp only[go_sem,Qa,Go.undef];apply Qg c;simp only[go_sem,Qa,Go.undef];refine kQ c [] aM rfl ?_ T rfl λd h e=>?_
  .simp only[go_sem,Qa,Go.undef]
  obtain⟨rfl,rfl⟩:=e;simp only[go_sem,Qa,Go.undef];apply Qg c;simp only[go_sem,Qa,Go.undef];refine kQ c [] aM rfl ?_ hN rfl λd h e=>?_
  .simp only[go_sem,Qa,Go.undef]
  obtain⟨rfl,rfl⟩:=e;simp only[go_sem,Qa,Go.undef];apply Qg c;simp only[go_sem,Qa,Go.undef];refine kQ c [] Mx rfl ?_ J rfl λd h e=>?_
  .simp only[go_sem,Qa]
  obtain⟨rfl,rfl⟩:=e;simp only[go_sem,Qa];exact HT c
 | true=>
 rw[CH]at hN;have K:=QwT.1 ta;have K2:=QwT.1 CH;obtain⟨b3,JF⟩:=QzC sZ hx;obtain⟨dG,rB⟩:=QzC By hy;have a2:z.ops=b:=by rw[hz]
 obtain⟨b2,f⟩:=QzC M (by rw[a2];exact hm);rw[a2]at b2 f;refine kQ c [] PL rfl ?_ v rfl λd h e=>?_
 .simp only[go_sem,Qa,Go.undef]
 obtain⟨rfl,rfl⟩:=e;simp only[go_sem,Qa,Go.undef];apply Qg c;simp only[go_sem,Qa,Go.undef];refine kQ c [] PL rfl ?_ I rfl λd h e=>?_
 .simp only[go_sem,Qa,Go.undef]
 obtain⟨rfl,rfl⟩:=e;simp only[go_sem,Qa,Go.undef];apply Qg c;simp only[go_sem,Qa,Go.undef];refine kQ c [] PL rfl ?_ u rfl λd h e=>?_
 .simp only[go_sem,Qa,Go.undef]
 obtain⟨rfl,rfl⟩:=e;simp only[go_sem,Qa,Go.undef];apply Qg c;simp only[go_sem,Qa,Go.undef];refine kQ c [] aM rfl ?_ T rfl λd h e=>?_
 .simp only[go_sem,Qa,Go.undef]
 obtain⟨rfl,rfl⟩:=e;simp only[go_sem,Qa,Go.undef];apply Qg c;simp only[go_sem,Qa,Go.undef];refine kQ c [] aM rfl ?_ hN rfl λd h e=>?_
 .simp only[go_sem,Qa,Go.undef]
 obtain⟨rfl,rfl⟩:=e;simp only[go_sem,Qa,Go.undef];apply Qg c;simp only[go_sem,Qa,Go.undef];have hA:=Qh5 (own:=λ_=>.no) (tw:=λ_=>.my) (λ_ _=>rfl) [(⟨.one,0,3,1,λ_=>x.cells⟩:Ob),⟨.one,0,3,1,λ_=>y.cells⟩,⟨.one,0,3,1,λ_=>[Qb x.config.t,Qb x.config.JU,.imm 10 b.length (ZY.rows b)]⟩] x K ω JF;refine A4 c QbO hA λd h1 e=>?_;obtain⟨Je,Vf,p,rfl,T1,C1,n1,V1,D1⟩:=e;have y1:h1[1]? = some (⟨.one,0,3,1,λ_=>y.cells⟩:Ob):=D1.my 1 σ rfl;have a7:=Qc y1;apply Qg c;simp only[go_sem,Qa,y1,a7];refine A4 c QbO (Qh5 (own:=λ_=>.no) (tw:=λ_=>.my) (λ_ _=>rfl) h1 y K2 ω rB) λd h2 e=>?_;obtain⟨JM,VW,t,rfl,T2,C2,n2,V2,D2⟩:=e;generalize (VD (S0 x.config) x.ops).1=S at *;generalize (VD (S0 y.config) y.ops).1=U at *;have O:Two (QV Je h1 .no) (Z5 Vf h1 .my) JM VW h2 p t S U:=⟨T1.Qyl λl hl _=>D2.my l hl rfl,T2,λl hl=>by
  by_cases B:l<h1.length
  .exact .inr ⟨D2.s1 l B,D2.s2 l B⟩
  .exact .inl ⟨km ω,kj ω⟩⟩
 have Q:=Lj O.a;have z2:=Lj O.b;have f1:=fi _ _ Q z2;apply QC c;apply ZA c HS (Li O.a.toRo);apply QC c;apply ZA c HS (Li O.b.toRo);apply QC c;cases hs:qy (Ka S) (Ka U) with
 | false=>
  rw[hs]at f1;refine Jk c aN ?_ f1 ?_
  .simp only[go_sem,Qa,Go.undef]
  apply Qg c;simp only[go_sem,Qa,Go.undef];refine kQ c [] Mx rfl ?_ J rfl λd h e=>?_
  .simp only[go_sem,Qa]
  obtain⟨rfl,rfl⟩:=e;simp only[go_sem,Qa];exact HT c
 | true=>
 rw[hs]at f1;have a0:=QEZ V1 V2 (QyK.1 hs);refine Jk c aN ?_ f1 ?_
 .simp only[go_sem,Qa,Go.undef]
 apply Qg c;simp only[go_sem,Qa,Go.undef];refine Z4 (λk s=>∃a1 tw F ZO H S U,(Two a1 tw F ZO H p t S U/\Jd S/\EP S/\Jd U/\EP U/\S.ops<=100+k/\U.ops<=100+k/\QEa S U)/\s=⟨[(8,.ptr p 0 0 0),(10,.ptr t 0 0 0),(74,.imm 10 b.length (ZY.rows b)),(75,Qb b.length),(76,Qb k)],H⟩) b.length QN ⟨_,_,_,_,_,_,_,⟨O,V1,C1,V2,C2,ω,ω,a0⟩,rfl⟩ ?_;clear O V1 C1 V2 C2 n1 n2 a0 T1 T2 D1 D2 f1 Q z2 hs hA y1 a7;rintro k _ hk ⟨a1,tw,F,ZO,H,S,U,⟨W,V,C,V',C',n1,n2,A⟩,rfl⟩;by_cases P:k<b.length
 .have dk:=Q3 P;have Zl:=KJ (show k<4611686018427387904 from ω);obtain⟨o,ho⟩:∃o,o=b.getD k default:=⟨_,rfl⟩;have E:o∈b:=by rw[ho];exact za b default k P
  have W1:=W.app [(⟨.one,0,10,1,λ_=>o.cells⟩:Ob)];have hD:=Ot W1.a V C ω o (f o E).1 (f o E).2.c (f o E).2.r;apply Qg c;simp only[go_sem,Qa,dk,P,<- ho];refine Jb c My hD λd B e=>?_;obtain⟨dl,j6,BC,rfl,T3,s3,D3⟩:=e;refine HH J8 c 9 ?_;simp only[go_sem,Qa];have a9:(Wv S o).l.length<=5000:=by
   obtain⟨_,_,_,_,Tx⟩:=W1.a;exact QEN S o Tx.co.cnt
  obtain⟨Y,hY⟩:∃Y,Y=Wv S o:=⟨_,rfl⟩;have V3:=V.do (o:=o) (f o E).1.2.1.2;have C3:=C.do o;have p3:=eK S o;obtain⟨er,el,eA⟩:=A.do V V' o;rw[<- hY]at T3 s3 V3 C3 p3 er el eA a9 ⊢;obtain⟨h4,o4,t4,b9,b7,a6,W4,k4,g4⟩:=W1.step T3 s3 D3 [⟨.one,0,3,1,λ_=>Y.r.cells⟩] (w0:=⟨w,[],[]⟩) rfl rfl (fr:=[(8,.ptr p 0 0 0),(10,.ptr t 0 0 0),(13,.ptr H.length 0 0 0),(14,.ptr B.length 0 0 0),(15,dl),(74,.imm 10 b.length (ZY.rows b)),(75,Qb b.length),(76,Qb k)]) 15 rfl;refine B6 (QF.trans (QF.frame (fr':=[(8,.ptr p 0 0 0),(10,.ptr t 0 0 0),(13,.ptr H.length 0 0 0),(14,.ptr B.length 0 0 0),(15,dl),(74,.imm 10 b.length (ZY.rows b)),(75,Qb b.length),(76,Qb k)]) (by simp only[go_sem])) a6) ?_;have N:=g4 0 Qdi;have l4:=Qc N.1;have b4:=k4 H.length σ ⟨km (QB _),kj (QB _),km (QB _),kj (QB _)⟩;have x4:h4[H.length]? = some (⟨.one,0,10,1,λ_=>o.cells⟩:Ob):=b4.1.trans (JZ rfl);have b1:=Qc x4;have a3:=Ot W4.b V' C' ω o (f o E).1 (f o E).2.c (f o E).2.r;apply Qg c;simp only[go_sem,Qa,x4,b1];refine Jb c My a3 λd h5 e=>?_;obtain⟨a4,Ab,sv,rfl,T5,s5,D5⟩:=e;refine HH J8 c 9 ?_;simp only[go_sem,Qa];obtain⟨Z,u⟩:∃Z,Z=Wv U o:=⟨_,rfl⟩;have V5:=V'.do (o:=o) (f o E).1.2.1.2;have C5:=C'.do o;have p5:=eK U o;rw[<- u]at T5 s5 V5 C5 p5 er el eA ⊢;obtain⟨h6,o6,t6,b8,b6,a5,W6,k6,g6⟩:=W4.swap.step T5 s5 D5 [⟨.one,0,3,1,λ_=>Z.r.cells⟩] (w0:=⟨w,[],[]⟩) rfl rfl (fr:=[(8,.ptr p 0 0 0),(10,.ptr t 0 0 0),(14,.ptr B.length 0 0 0),(15,evs Y.l),(16,.ptr h5.length 0 0 0),(17,a4),(74,.imm 10 b.length (ZY.rows b)),(75,Qb b.length),(76,Qb k)]) 17 rfl;refine FD (QF.trans (QF.frame (fr':=[(8,.ptr p 0 0 0),(10,.ptr t 0 0 0),(14,.ptr B.length 0 0 0),(15,evs Y.l),(16,.ptr h5.length 0 0 0),(17,a4),(74,.imm 10 b.length (ZY.rows b)),(75,Qb b.length),(76,Qb k)]) (by simp only[go_sem])) a5) ?_;have r:h6[B.length]? = some (⟨.one,0,3,1,λ_=>Y.r.cells⟩:Ob):=(k6 _ l4 ⟨N.2.2.2.1,N.2.2.2.2,N.2.1,N.2.2.1⟩).1.trans N.1;have q:h6[h5.length]? = some (⟨.one,0,3,1,λ_=>Z.r.cells⟩:Ob):=(g6 0 Qdi).1;rw[er]at q;have m:=Qc r;have i:=Qc q;have Z7:Z.l.length=Y.l.length:=by rw[el,JV]
  have L:((Z.l.length:Nat):Int)=((Y.l.length:Nat):Int):=by rw[Z7]
  have Q:=Lj W6.b;have f1:=fi _ _ Q Q;rw[sN]at f1;have b0:=Li W6.b.toRo;have Hu:=Li W6.a.toRo;rw[eA.st]at Hu;clear T3 s3 D3 T5 s5 D5 hD a3 a6 a5;apply Qg c;simp only[go_sem,Qa,r,m,q,i,QaU,L];refine VP c HS ?_ b0 ?_
  .simp only[go_sem,Qa,r,m,q,i,QaU,L]
  apply Qg c;simp only[go_sem,Qa,r,m,q,i,QaU,L];refine VP c HS ?_ Hu ?_
  .simp only[go_sem,Qa,r,m,q,i,QaU,L]
  apply Qg c;simp only[go_sem,Qa,r,m,q,i,QaU,L];refine Jk c aN ?_ f1 ?_
  .simp only[go_sem,Qa,r,m,q,i,QaU,L,Go.undef]
  apply Qg c;simp only[go_sem,Qa,r,m,q,i,QaU,L,Go.undef];refine Z4 (λj s=>∃g H,H=h6++g/\s=⟨[(8,.ptr p 0 0 0),(10,.ptr t 0 0 0),(17,evs Z.l),(74,.imm 10 b.length (ZY.rows b)),(75,Qb b.length),(76,Qb k),(110,evs Y.l),(111,Qb Y.l.length),(112,Qb j)],H⟩) Y.l.length QN ⟨[],_,(Jl _).symm,rfl⟩ ?_;rintro j _ hj ⟨g,_,rfl,rfl⟩;by_cases n:j<Y.l.length
  .have dj:=Q3 n;have a8:=KJ (show j<4611686018427387904 from ω);have hw:Z.l.getD j default=opE U.ops (Y.l.getD j default):=by
    rw[el,Q5,Kl,Q5,QP n];rfl
   apply Qg c;simp only[go_sem,Qa,dj,n,Z7,hw,opE,QaU,Go.undef];exact⟨_,QF.frame (by simp only[go_sem,a8]),_,_,rfl,rfl⟩
  .obtain rfl:j=Y.l.length:=ω;have dj:=QS n;apply Qg c;simp only[go_sem,Qa,dj,n];apply QC c;exact⟨P,_,QF.frame (by simp only[go_sem,Zl]),_,_,_,_,_,_,_,⟨W6.swap.app g,V3,C3,V5,C5,ω,ω,eA⟩,rfl⟩
 .obtain rfl:k=b.length:=ω;have dk:=QS P;apply Qg c;simp only[go_sem,Qa,dk,P];apply QC c;refine kQ c [] Mx rfl ?_ J rfl λd h e=>?_
  .simp only[go_sem,Qa]
  obtain⟨rfl,rfl⟩:=e;simp only[go_sem,Qa];exact HT c
end Go.Fg.X
namespace Go.Fg.X
open Go.Proofs Go.Fg Go.Proofs.YtpafochnmfelfaaGreat
open Go.ChangeShapes Go.RowKit
open Go.Proofs.Tryz
def QFf:laidOutB prog=true:=τ
def QFg:mapsRowed prog=true:=τ
def QFh:prog.stopsHeard=true:=τ
def QFi:prog.mayEnter=true:=τ
def QFj:(Rows.stateAllRow.lifted==prog.liftsFinal)=true:=τ
def QFk:(prog.make==some Rows.stateAllRow.make)=true:=τ
end Go.Fg.X
namespace Go.Fg.X
open Go.Proofs Go.Fg Go.Proofs.YtpafochnmfelfaaGreat
open Go.ChangeShapes Go.WideShapes Go.ChangeAt Go.RowKit
open Go.Proofs.Tryz
def QFl:ownKnob prog.godebug=none:=τ
def QeI:laidOutB prog=true:=τ
def QFm(K:Os)(b:K.Started)(H:Type)(c:TypeId × Value->H):
  ReturnsInHanded {} checked K 4 .any (Rows.stateAllSpec.pre6 c prog f4 Rows.stateAllRow.domain false) (Rows.stateAllSpec.post c prog f4 false true false false):=by
 refine returnsInHanded_of_change (C:=checked) QFl b τ func4
  (ChangeSpec.witness6 (enc:=c) (C:=checked) false ⟨#[],#[.agg #[.int .i64 0,.int .i64 0,.slice none 0 0],.agg #[.int .i64 0,.int .i64 0,.slice none 0 0],.slice none 0 0],[]⟩ 12 τ τ τ τ) ?_
 intro W l a ds gs r g L a7 _;have n:∀(j:Nat) t v,f4.params[j]? = some t->a[j]? = some v->Value.okWide prog W .any l t v:=g;have y:=L;obtain⟨p,q,f,hV,rfl,Ga,Z3⟩:=L;have M:DataW.TrodAll c prog W 0 (λ_=>true) true f4.params.toList a.toList ds p:=f;rw[params4]at M n;obtain⟨J,a3,d0,a6,p0,q0,ar,rfl,rfl,P,Y⟩:=trodAll_cons M;obtain⟨I,a1,d1,a5,p1,q1,rfl,rfl,rfl,O,V⟩:=trodAll_cons Y;obtain⟨F,a0,d2,a4,Z,q2,rfl,rfl,rfl,N,U⟩:=trodAll_cons V;obtain⟨rfl,rfl,rfl⟩:=trodAll_nil U;obtain rfl:a=#[J,I,F]:=by cases a;simp_all
 obtain⟨rfl,rfl⟩:=trodVars_none hV;obtain⟨z,rfl,_⟩:=okWide_struct underlying26 (n 0 26 J rfl rfl);obtain⟨gK,rfl,_⟩:=okWide_struct underlying26 (n 1 26 I rfl rfl);obtain⟨a2,E,B,rfl⟩:=okWide_slice underlying24 (n 2 24 F rfl rfl);have t0:=P;have w:∀x∈p0,x.block<W.heap.size:=by obtain⟨m,d⟩:=t0;exact DataW.trod_lt m _ _ _ d
 have t1:=O;have u:∀x∈p1,x.block<W.heap.size:=by obtain⟨m,d⟩:=t1;exact DataW.trod_lt m _ _ _ d
 have t2:=N;have s:∀x∈Z,x.block<W.heap.size:=by obtain⟨m,d⟩:=t2;exact DataW.trod_lt m _ _ _ d
 obtain⟨T,k0,c0⟩:=Rd.many QpA P;obtain⟨S,k1,c1⟩:=Rd.many QpA O;obtain⟨R,k2,c2⟩:=Rd.one (Rd.slice 10 underlying24 τ π QcH) N (QvL _ _ _);clear f g;have k:Calls prog 4 #[.agg z,.agg gK,.slice a2 E B] W λe Q=>e=.returned (.bool true)/\Below W.heap.size W Q:=Qpt (QE9 T S R k0.2.1.2 k1.2.1.2 k2.2) W [_,_,_] rfl (λi hi=>match i,hi with
  | 0,_=>c0
  | 1,_=>c1
  | 2,_=>c2)
 refine k.mono λe Q ⟨he,o⟩=>?_;subst he;exact⟨_,rfl,_,_,_,[],_,[],y,trodAll_mk1 (shut_bool underlying4 _),(trodAll_cons_mk (Below.trod QeI τ (Yo τ) t0 o w) (trodAll_cons_mk (Below.trod QeI τ (Yo τ) t1 o u) (trodAll_cons_mk (Below.trod QeI τ (Yo τ) t2 o s) trodAll_mk0))),rfl,o.frame _,λh=>by cases h⟩
def jn{a b}(d:a=true)(c:b=true):(a&&b)=true:=by rw[d,c];rfl
def QFu:(Rows.stateAllRow.inPlace==prog.inPlace 4)=true:=τ
def QFv:(Rows.stateAllRow.unfollowed==prog.unfollowed 4)=true:=τ
def QFw:(Rows.stateAllRow.recurses==prog.recurses 4)=true:=τ
def QFx:(Rows.stateAllRow.named==prog.varsNamed 4)=true:=τ
def QFy:(Rows.stateAllRow.maps==(f4.params.toList++Rows.stateAllSpec.plain.varTypes prog).any (prog.mapsRec ·))=true:=τ
def QFI:(Rows.stateAllRow.ifaces==(f4.params.toList++Rows.stateAllSpec.plain.varTypes prog).any (prog.ifacesRec ·))=true:=τ
def QFJ:(Rows.stateAllRow.loops==(f4.params.toList++Rows.stateAllSpec.plain.varTypes prog).any (prog.loopsFrom ·))=true:=τ
def QFK:joinedFacts prog 4 f4 Rows.stateAllSpec Rows.stateAllRow=true:=by
 unfold joinedFacts;refine(jn (jn (jn (jn (jn (jn (jn (jn (jn (jn (jn (jn (jn (jn (jn (jn (jn (jn (jn (jn (jn (jn (jn (jn (jn (jn (jn (jn (jn (jn (jn ?_ QFf) QFg) ?_) ?_) ?_) ?_) ?_) ?_) QFu) QFv) QFw) QFx) QFy) QFI) ?_) QFJ) ?_) ?_) ?_) ?_) ?_) ?_) ?_) QFh) QFi) QFj) QFk) ?_) ?_) ?_) ?_);all_goals kernel_rfl
def QFL:prog.funcNamed Rows.stateAllRow.func=some 4:=τ
theorem provedStateAll:Rows.StateAllSaid:=
 OpenClaim.holds_of_wide 4 f4 rfl rfl rfl rfl rfl rfl rfl ⟨rfl,rfl,rfl,rfl,rfl⟩ rfl rfl rfl rfl rfl QFL func4 QFK
  (Yo τ) (by unfold Func.isWrapper;first|(rw[Qf (by decide +kernel)];kernel_rfl)|(rw[Qe (by decide +kernel)];exact⟨rfl,rfl⟩))
  (λc a H b _=>QFm c a H b)
end Go.Fg.X
namespace Go.Proofs.YtpafochnmfelfaaGreat
theorem stateAll_done: Rows.StateAllSaid := Go.Fg.X.provedStateAll
end Go.Proofs.YtpafochnmfelfaaGreat
