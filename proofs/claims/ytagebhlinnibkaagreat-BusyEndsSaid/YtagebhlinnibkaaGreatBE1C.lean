/- Contracts and laws on the way to the statement. No conditions. -/
import Derived.Test.YtagebhlinnibkaaGreatTW3C
set_option maxRecDepth 100000
set_option maxHeartbeats 16000000
set_option linter.unusedVariables false
set_option linter.unusedSimpArgs false
set_option linter.unusedSectionVars false
set_option linter.defProp false
namespace Go.Fg.X
open Go.Proofs Go.Fg
open Go.Proofs.Tryz
def Qor(S:Zf)(op now:Nat):(Z2 S op now).1.M.lk=S.M.lk:=by
 unfold Z2;split
 ·rfl
 ·split<;>exact LH _ _
def Qos(op e):∀(n:Nat) (S:Zf),(Zz op e n S).1.M.lk=S.M.lk
 | 0,S=>rfl
 | n+1,S=>by
  unfold Zz;split
  ·rfl
  ·exact(Qos op e n _).trans (Qor { S with Qh:=QP S } op (QP S))
def QGf(S:Zf)(o:QZ):(QY S o).S.M.lk=S.M.lk:=by
 show (JA { S with ops:=S.ops+1 } S.ops o).S.M.lk=S.M.lk;unfold JA;split
 ·exact Sy _ _ _
 ·split
  ·split<;>rfl
  ·split
   ·unfold X3;split
    ·rfl
    ·split
     ·exact(Qor _ _ _).trans (LG _ _ _ _)
     ·exact LG _ _ _ _
   ·split
    ·unfold Yo;split
     ·rfl
     ·exact Qos _ _ _ _
    ·rfl
def Qot:∀(l:List QZ) (S:Zf),(Zh S l).1.M.lk=S.M.lk
 | [],S=>rfl
 | o::l,S=>by rw[Zh,Qot l,QGf]
def QGg{own}{tw}{h}{p}{S:Zf}(T:Kj own tw h p S):yZ S.M<=67108864:=by
 obtain⟨_,_,_,_,T⟩:=T;have h1:=SJ (λc=>Wa (Zn S.M c.iD)) 1048576 S.M.T λc _=>T.co.b20 c.iD;have h2:=T.co.I.tree.len;unfold yZ;exact KZ h1 (by omega)
def QGh{t:Nat}(h:t<=9223372036854775807):QZ.Ok (ZM t)/\(ZM t).changes.length<1000000/\(ZM t).rules.length<1000000:=
 ⟨⟨rfl,⟨Z7 _,λa h=>by cases h⟩,⟨Z7 _,λa h=>by cases h⟩,⟨rfl,rfl,rfl,rfl,rfl,rfl,trivial⟩,Qoq (by show 0<=(t:Int)/\(t:Int)<=_;omega),trivial⟩,xV _,xV _⟩
def jH.ext{c}{ops ops':List QZ}{p k lo g}{h0}{Kp}{own}{tw}{H}{S}{E}{row}(I:jH c ops p k lo g h0 Kp own tw H S E row)(e:ops'.take k=ops.take k):jH c ops' p k lo g h0 Kp own tw H S E row:=
 { I with S_:=by rw[e];exact I.S_,E_:=by rw[e];exact I.E_ }
def QGi(x:KW)(more:Int)(hx:∀a∈x.ops,QZ.Ok a)(hm:(Lit.int .u64 more).wf=true):Q4 prog 4 [.agg x.cells,.raw (.int .u64 more)] (Qn (QJ true)):=by
 refine Oo (R:=λd hh=>d=QJ true) _ rfl (λd hh h=>.inl (h▸kP _ _)) ?_;have hF:=SU x 200 (by decide);have hM:=Sx x.config;have vB:=Qn8;refine Il Qi 200 func4 rfl ntmps4 results4 rfl λbase w hb=>?_;simp only[go_sem,Qa];cases YM:wN x 200 with
 | false=>
  rw[YM]at hF;refine Zu hb [] Yf rfl ?_ hF rfl λd h hR=>?_
  ·simp only[go_sem,Qa,Go.undef]
  obtain⟨rfl,rfl⟩:=hR;simp only[go_sem,Qa,Go.undef];refine Qe hb ?_;simp only[go_sem,Qa,Go.undef];refine Zu hb [] BF rfl ?_ vB rfl λd h hR=>?_
  ·simp only[go_sem,Qa]
  obtain⟨rfl,rfl⟩:=hR;simp only[go_sem,Qa];exact V9 hb
 | true=>
 rw[YM]at hF;cases Y7:Fu x.config with
 | false=>
  rw[Y7]at hM;refine Zu hb [] Yf rfl ?_ hF rfl λd h hR=>?_
  ·simp only[go_sem,Qa,Go.undef]
  obtain⟨rfl,rfl⟩:=hR;simp only[go_sem,Qa,Go.undef];refine Qe hb ?_;simp only[go_sem,Qa,Go.undef];refine Zu hb [] jr rfl ?_ hM rfl λd h hR=>?_
  ·simp only[go_sem,Qa,Go.undef]
  obtain⟨rfl,rfl⟩:=hR;simp only[go_sem,Qa,Go.undef];refine Qe hb ?_;simp only[go_sem,Qa,Go.undef];refine Zu hb [] BF rfl ?_ vB rfl λd h hR=>?_
  ·simp only[go_sem,Qa]
  obtain⟨rfl,rfl⟩:=hR;simp only[go_sem,Qa];exact V9 hb
 | true=>
 rw[Y7]at hM;have K:=Sz.1 Y7;obtain⟨hlen,Ja⟩:=S5 YM hx;have FB:=Qn3 x (by omega);cases ZF:LX x.ops with
 | false=>
  rw[ZF]at FB;refine Zu hb [] Yf rfl ?_ hF rfl λd h hR=>?_
  ·simp only[go_sem,Qa,Go.undef]
  obtain⟨rfl,rfl⟩:=hR;simp only[go_sem,Qa,Go.undef];refine Qe hb ?_;simp only[go_sem,Qa,Go.undef];refine Zu hb [] jr rfl ?_ hM rfl λd h hR=>?_
  ·simp only[go_sem,Qa,Go.undef]
  obtain⟨rfl,rfl⟩:=hR;simp only[go_sem,Qa,Go.undef];refine Qe hb ?_;simp only[go_sem,Qa,Go.undef];refine Zu hb [] UB rfl ?_ FB rfl λd h hR=>?_
  ·simp only[go_sem,Qa,Go.undef]
  obtain⟨rfl,rfl⟩:=hR;simp only[go_sem,Qa,Go.undef];refine Qe hb ?_;simp only[go_sem,Qa,Go.undef];refine Zu hb [] BF rfl ?_ vB rfl λd h hR=>?_
  ·simp only[go_sem,Qa]
  obtain⟨rfl,rfl⟩:=hR;simp only[go_sem,Qa];exact V9 hb
 | true=>
 rw[ZF]at FB;by_cases m1:(1152921504606846976:Int)<more
 ·have d1:=Q5 m1;refine Zu hb [] Yf rfl ?_ hF rfl λd h hR=>?_
  ·simp only[go_sem,Qa,Go.undef]
  obtain⟨rfl,rfl⟩:=hR;simp only[go_sem,Qa,Go.undef];refine Qe hb ?_;simp only[go_sem,Qa,Go.undef];refine Zu hb [] jr rfl ?_ hM rfl λd h hR=>?_
  ·simp only[go_sem,Qa,Go.undef]
  obtain⟨rfl,rfl⟩:=hR;simp only[go_sem,Qa,Go.undef];refine Qe hb ?_;simp only[go_sem,Qa,Go.undef];refine Zu hb [] UB rfl ?_ FB rfl λd h hR=>?_
  ·simp only[go_sem,Qa,Go.undef,d1]
  obtain⟨rfl,rfl⟩:=hR;simp only[go_sem,Qa,Go.undef,d1];refine Qe hb ?_;simp only[go_sem,Qa,Go.undef,d1];refine Zu hb [] BF rfl ?_ vB rfl λd h hR=>?_
  ·simp only[go_sem,Qa]
  obtain⟨rfl,rfl⟩:=hR;simp only[go_sem,Qa];exact V9 hb
 have d1:=QN m1;refine Zu hb [] Yf rfl ?_ hF rfl λd h hR=>?_
 ·simp only[go_sem,Qa,Go.undef]
 obtain⟨rfl,rfl⟩:=hR;simp only[go_sem,Qa,Go.undef];refine Qe hb ?_;simp only[go_sem,Qa,Go.undef];refine Zu hb [] jr rfl ?_ hM rfl λd h hR=>?_
 ·simp only[go_sem,Qa,Go.undef]
 obtain⟨rfl,rfl⟩:=hR;simp only[go_sem,Qa,Go.undef];refine Qe hb ?_;simp only[go_sem,Qa,Go.undef];refine Zu hb [] UB rfl ?_ FB rfl λd h hR=>?_
 ·simp only[go_sem,Qa,Go.undef,d1]
 obtain⟨rfl,rfl⟩:=hR;simp only[go_sem,Qa,Go.undef,d1];refine Qe hb ?_;simp only[go_sem,Qa,Go.undef,d1];have hN:=cJ (own:=λ_=>.no) (tw:=λ_=>.my) (λ_ _=>rfl) [(⟨.one,0,3,1,λ_=>x.cells⟩:Ob)] K;refine qZ hb UC hN λd h1 hR=>?_;obtain⟨Ji,Kw,p,rfl,T1,K1⟩:=hR;have Kc:h1[0]? = some _:=K1.my 0 (by simp) rfl;have VU:=Qc Kc;refine Qe hb ?_;simp only[go_sem,Qa,Kc,VU];have LY:∀l,l<[(⟨.one,0,3,1,λ_=>x.cells⟩:Ob)].length->True->l<h1.length/\h1[l]? = [(⟨.one,0,3,1,λ_=>x.cells⟩:Ob)][l]?/\Ji l=.no/\Kw l=.my:=λl hl _=>by
  have:l=0:=by simpa using hl
  subst this;exact⟨VU,Kc,K1.s1 0 (by simp),K1.s2 0 (by simp)⟩
 have I0:=jH.start (ops:=x.ops) T1 LY (by have:=K1.len;simpa using this);obtain⟨lo,Zm⟩:∃lo,lo=h1.length:=⟨_,rfl⟩;refine qS (Qp.bY 7 12 (by simp only[go_sem])) ?_;simp only[go_sem];rw[<- Zm]at I0 ⊢;refine Jg (λk s=>∃g own tw H S E row,jH x.config x.ops p k lo g [(⟨.one,0,3,1,λ_=>x.cells⟩:Ob)] (λ_=>True) own tw H S E row/\(0<k->AZ (Zh (S0 x.config) (x.ops.take 1)).1.M.T)/\s=⟨[(1,.raw (.int .u64 more)),(2,.ptr 0 0 0 0),(5,.ptr p 0 0 0),(6,Qb 0),(7,.ref lo g 0 E.length),(45,.imm 10 x.ops.length (QZ.rows x.ops)),(46,Qb x.ops.length),(47,Qb k)],H⟩) x.ops.length QQ ⟨_,_,_,_,_,_,_,I0,λh=>absurd h (YP 0),rfl⟩ ?_;clear I0 T1 K1 Kc VU hN LY Zm;rintro k _ hk ⟨g,own,tw,H,S,E,row,I,hP,rfl⟩;by_cases Qj:k<x.ops.length
 ·have dk:=Q5 Qj;have QT:=JX (show k<4611686018427387904 by omega);obtain⟨o,ho⟩:∃o,o=x.ops.getD k default:=⟨_,rfl⟩;have YL:o∈x.ops:=by rw[ho];exact WI x.ops default k Qj
  obtain⟨⟨_,_,_,_,Tx⟩,hV,hC,jG⟩:=And.intro I.T (And.intro I.V (And.intro I.C I.jG));have Ch:=Fz ⟨_,_,_,_,Tx.YK [⟨.one,0,10,1,λ_=>o.cells⟩]⟩ hV hC (by omega) o (Ja o YL).1 (Ja o YL).2.c (Ja o YL).2.r;refine Qe hb ?_;simp only[go_sem,Qa,dk,Qj,<- ho];refine Jh hb EK Ch λd h2 hR=>?_;obtain⟨dl,JC,Vv,rfl,T2,s2,K2⟩:=hR;refine Ye Qi hb 9 ?_;simp only[go_sem,Qa];obtain⟨ko,h4,W3,W5,W4,ZH,yW,I4⟩:=I.step Qj (ho▸(Ja o YL).1.2.1.2) (ho▸T2) (ho▸s2) K2 [⟨.one,0,3,1,λ_=>(QY S o).r.cells⟩] (w0:=⟨w,[],[]⟩) rfl rfl (fr:=[(1,.raw (.int .u64 more)),(2,.ptr 0 0 0 0),(5,.ptr p 0 0 0),(6,Qb 0),(7,.ref lo g 0 E.length),(8,Qb k),(11,dl),(45,.imm 10 x.ops.length (QZ.rows x.ops)),(46,Qb x.ops.length),(47,Qb k)]) 11 rfl;rw[<- ho]at W4 ZH I4;refine kO (Qp.trans (Qp.frame (fr':=[(1,.raw (.int .u64 more)),(2,.ptr 0 0 0 0),(5,.ptr p 0 0 0),(6,Qb 0),(7,.ref lo g 0 E.length),(8,Qb k),(11,dl),(45,.imm 10 x.ops.length (QZ.rows x.ops)),(46,Qb x.ops.length),(47,Qb k)]) (by simp only[go_sem])) W4) ?_;have OC:=Qc yW;have ZP:∀i,i<(QY S o).l.length->(ko i).all D.KK=true:=λi hi=>by rw[ZH i hi];rfl
  have lE:=I4.lE;rw[Zj]at lE;refine Ye Qi hb 6 ?_;simp only[go_sem,Qa,yW,OC,ZP];refine⟨⟨by omega,ZP⟩,?_⟩;have OD:E.length+(QY S o).l.length=(E++(QY S o).l).length:=(Zj).symm;rw[OD]at I4 lE ⊢;obtain⟨E5,LZ⟩:∃E5,E5=E++(QY S o).l:=⟨_,rfl⟩;rw[<- LZ]at I4 lE ⊢;obtain⟨H5,Lu⟩:∃H5,H5=h4.set lo ⟨.arr,g+1,12,E5.length,J1 E.length 0 row ko⟩:=⟨_,rfl⟩;rw[<- Lu]at I4 ⊢;have T4:=I4.T;have hPl:=Qn5 T4;have eT:k=0->(QY S o).S.M.T=(Zh (S0 x.config) (x.ops.take 1)).1.M.T:=λe=>by rw[I4.S_,e]
  first|refine Yu ?_|skip
  refine Lb (λst=>∃gg b,(b=false->AZ (Zh (S0 x.config) (x.ops.take 1)).1.M.T)/\st=⟨[(1,.raw (.int .u64 more)),(2,.ptr 0 0 0 0),(5,.ptr p 0 0 0),(6,Qb 0),(7,.ref lo (g+1) 0 E5.length),(8,Qb k),(45,.imm 10 x.ops.length (QZ.rows x.ops)),(46,Qb x.ops.length),(47,Qb k),(67,QJ b)],H5++gg⟩) ?_ ?_
  ·by_cases k0:k=0
   ·have d0:=Wg (show (k:Int)=0 by omega);refine Qe hb ?_;simp only[go_sem,Qa,d0];refine Jh hb Qhm hPl λd h6 hR=>?_;obtain⟨rfl,g6,rfl⟩:=hR;apply QC hb;exact⟨⟨[(1,.raw (.int .u64 more)),(2,.ptr 0 0 0 0),(5,.ptr p 0 0 0),(6,Qb 0),(7,.ref lo (g+1) 0 E5.length),(8,Qb k),(45,.imm 10 x.ops.length (QZ.rows x.ops)),(46,Qb x.ops.length),(47,Qb k),(67,QJ (!((QY S o).S.M.T.all wO)))],H5++g6⟩,⟨g6,!((QY S o).S.M.T.all wO),λe=>eT k0▸Qn4.1 (by simpa using e),rfl⟩,QQ⟩
   ·have d0:=J5 (show ¬(k:Int)=0 by omega);refine Qe hb ?_;simp only[go_sem,Qa,d0];exact⟨⟨[(1,.raw (.int .u64 more)),(2,.ptr 0 0 0 0),(5,.ptr p 0 0 0),(6,Qb 0),(7,.ref lo (g+1) 0 E5.length),(8,Qb k),(45,.imm 10 x.ops.length (QZ.rows x.ops)),(46,Qb x.ops.length),(47,Qb k),(67,QJ false)],H5⟩,⟨[],false,λ_=>hP (by omega),by rw[QU];rfl⟩,QQ⟩
  rintro s1 ⟨gg,b,hPb,rfl⟩;cases b with
  | true=>
   apply QC hb;refine Zu hb [] BF rfl ?_ vB rfl λd h hR=>?_
   ·simp only[go_sem,Qa]
   obtain⟨rfl,rfl⟩:=hR;simp only[go_sem,Qa];exact V9 hb
  | false=>
   have P:=hPb rfl;apply QC hb;exact⟨Qj,_,Qp.frame (by simp only[go_sem,QT]),_,_,_,_,_,_,_,I4.app gg,λ_=>P,rfl⟩
 ·obtain rfl:k=x.ops.length:=by omega
  have dk:=QN Qj;have wW:yY (E.foldl Kn.next ⟨0,0,0⟩) S:=by
   by_cases h0:x.ops.length=0
   ·have e1:S=S0 x.config:=by rw[I.S_,h0];rfl
    have e2:E=[]:=by rw[I.E_,h0];rfl
    rw[e1,e2];exact QnX x.config
   ·have:=(oY K hx ZF (hP (by omega)) x.ops.length (QB _) (by omega)).2.2;rw[<- I.E_,<- I.S_]at this;exact this
  have ZP:=I.V.cl;have zC:=I.V.un;have hB:=Qdi I.T;have hU:=cW I.T;have L0:=cU I.T;have w9:H[0]? = some ⟨.one,0,3,1,λ_=>x.cells⟩:=(I.kp 0 (by simp) trivial).1;have Qou:=Qc w9;have b1:=QGg I.T;have kt1:=K.t1;have kt2:=K.t2;have klk:S.M.lk.t=x.config.t:=by rw[I.S_,Qot];rfl
  rw[Qdy,QFs]at hB;obtain⟨mo,rfl⟩:∃t:Nat,more=t:=⟨more.toNat,by have:=wf_u64 hm;omega⟩;obtain⟨tc,htc⟩:∃t:Nat,x.config.t=t:=⟨x.config.t.toNat,by omega⟩;have Ia:yZ S.M*tc<=67108864*65536:=vF b1 (by omega);obtain⟨P0,hP0⟩:∃P0,P0=yZ S.M*tc:=⟨_,rfl⟩;have w1:IntKind.u64.wrap (IntKind.i64.wrap ((yZ S.M:Int)*x.config.t))=((P0:Nat):Int):=by
   rw[htc,<- OM,<- hP0,wrap64 (by omega) (by omega),IntKind.wrap_u64];omega
  have w2:IntKind.u64.wrap ((P0:Int)+mo)=((P0+mo:Nat):Int):=by rw[IntKind.wrap_u64];omega
  have w3:S.Qh<S.JI->IntKind.u64.wrap (IntKind.u64.wrap (((P0+mo:Nat):Int)+S.JI) - S.Qh)=((P0+mo+S.JI - S.Qh:Nat):Int):=λh=>by
   have:IntKind.u64.wrap (((P0+mo:Nat):Int)+S.JI)=((P0+mo+S.JI:Nat):Int):=by rw[IntKind.wrap_u64];omega
   rw[this,IntKind.wrap_u64];omega
  obtain⟨tk,YT⟩:∃tk,tk=if S.Qh<S.JI then P0+mo+S.JI - S.Qh else P0+mo:=⟨_,rfl⟩;refine Qe hb ?_;simp only[go_sem,Qa,dk,Qj];apply QC hb;refine Z8 hb sM rfl ?_ hB rfl λd hR=>?_
  ·simp only[go_sem,Qa,w9,Qou,w1,w2]
  subst hR;refine Qe hb ?_;simp only[go_sem,Qa,w9,Qou,w1,w2];refine ZN hb Iw hU λd hR=>?_;subst hR;apply QC hb;refine ZN hb Ng L0 λd hR=>?_;subst hR;refine Ye Qi hb 2 ?_;simp only[go_sem,Qa];first|refine Yu ?_|skip
  refine Lb (λst=>st=⟨[(2,.ptr 0 0 0 0),(5,.ptr p 0 0 0),(6,Qb 0),(7,.ref lo g 0 E.length),(14,.raw (.int .u64 ((tk:Nat):Int)))],H⟩) ?_ ?_
  ·by_cases hc:S.Qh<S.JI
   ·have d2:=Q5 hc;rw[Qf hc]at YT;subst YT;refine Qe hb ?_;simp only[go_sem,Qa,d2];refine ZN hb Iw hU λd hR=>?_;subst hR;apply QC hb;refine Z8 hb Ng rfl ?_ L0 rfl λd hR=>?_
    ·simp only[go_sem,Qa,w3 hc]
    subst hR;refine Qe hb ?_;simp only[go_sem,Qa,w3 hc];exact⟨_,rfl,QQ⟩
   ·have d2:=QN hc;rw[Qd hc]at YT;subst YT;refine Qe hb ?_;simp only[go_sem,Qa,d2];exact⟨_,rfl,QQ⟩
  rintro s1 rfl;have QGj:tk<=9223372036854775807:=by rw[YT];split<;>omega
  have XP:max S.Qh S.JI+P0<=S.Qh+tk:=by rw[YT];split<;>omega
  clear YT w1 w2 w3;have oT:=QGh QGj;have I':=I.ext (ops':=x.ops++[ZM tk]) (by rw[List.take_left,YO]);have Em:(x.ops++[ZM tk]).getD x.ops.length default=ZM tk:=by rw[Ze,Kf (QB _),Ee];rfl
  obtain⟨⟨_,_,_,_,Tx⟩,hV,hC,jG⟩:=And.intro I.T (And.intro I.V (And.intro I.C I.jG));have Ch:=QK.PQ (Fz (h:=H++[]) ⟨_,_,_,_,Tx.YK []⟩ hV hC (by omega) (ZM tk) oT.1 oT.2.1 oT.2.2) (ph p tk);rw[QU]at Ch;apply QC hb;refine Jh hb EK Ch λd h2 hR=>?_;obtain⟨dl,JC,Vv,rfl,T2,s2,K2⟩:=hR;refine Ye Qi hb 9 ?_;simp only[go_sem,Qa];rcases pn S tk with e0|e0
  ·have po:=kr S tk;obtain⟨Y,hY⟩:∃Y,Y=QY S (ZM tk):=⟨_,rfl⟩;have Qc:¬4611686018427387904 - S.Qh<tk:=λh=>by
    rw[po,Qf h]at e0;cases e0
   rw[Qd Qc]at po;obtain⟨z1,z2,z3⟩:=Qn0 (op:=S.ops) (e:=S.Qh+tk) (by omega) (Zo S.M+1) hV (by omega) wW (Bc _) (by
    rw[klk,htc,FK,<- hP0];exact XP)
   obtain⟨_,wE⟩:=Qdw hV wW (o:=ZM tk) oT.1.2.1.2 (by show (4:Int)≠1;decide);have y1:Zo Y.S.M=0:=by rw[hY,po];exact z1
   have y2:Y.S.JI<=Y.S.Qh:=by rw[hY,po];show _<=(Zz S.ops (S.Qh+tk) (Zo S.M+1) S).1.Qh;rw[z3];exact z2
   rw[<- hY]at T2 s2 e0 wE ⊢;have b0:=Wg e0;have Cn:(Y.r.err != 0)=false:=by rw[e0];rfl
   refine Ye Qi hb 6 ?_;simp only[go_sem,Qa,Cn];obtain⟨ko,h4,W3,W5,W4,ZH,yW,I4⟩:=I'.step (by rw[Zj];exact Bc _) (by rw[Em];exact oT.1.2.1.2) (G:=[]) (by rw[Em,<- hY];exact T2) (by rw[Em,<- hY,QU];exact s2) (by rw[QU];exact K2) [⟨.one,0,3,1,λ_=>Y.r.cells⟩] (w0:=⟨w,[],[]⟩) rfl rfl (fr:=[(2,.ptr 0 0 0 0),(5,.ptr p 0 0 0),(6,Qb 0),(7,.ref lo g 0 E.length),(16,dl)]) 16 rfl;rw[Em,<- hY]at W4 ZH I4;refine qS (Qp.trans (Qp.frame (fr':=[(2,.ptr 0 0 0 0),(5,.ptr p 0 0 0),(6,Qb 0),(7,.ref lo g 0 E.length),(16,dl)]) (by simp only[go_sem])) W4) ?_;have OC:=Kr yW;have Qox:∀i,i<Y.l.length->(ko i).all D.KK=true:=λi hi=>by rw[ZH i hi];rfl
   have lE:=I4.lE;rw[Zj]at lE;refine Ye Qi hb 6 ?_;simp only[go_sem,Qa,yW,OC,Qox];refine⟨⟨by omega,Qox⟩,?_⟩;have T4:=I4.T;have OD:E.length+Y.l.length=(E++Y.l).length:=(Zj).symm;rw[OD]at I4 lE ⊢;rw[<- kz]at wE;obtain⟨E5,LZ⟩:∃E5,E5=E++Y.l:=⟨_,rfl⟩;rw[<- LZ]at I4 lE wE ⊢;obtain⟨H5,Lu⟩:∃H5,H5=h4.set lo ⟨.arr,g+1,12,E5.length,J1 E.length 0 row ko⟩:=⟨_,rfl⟩;rw[<- Lu]at I4 ⊢;have T5:=I4.T;have hB:=Qdi T5;have hU:=cW T5;have L0:=cU T5;have hW:=Q4.de (h:=H5) (args':=[.ref lo (g+1) 0 E5.length]) (Qdp E5 (by omega)) rfl rfl (λd hh h=>h.1) rfl (λi hi=>by obtain rfl:i=0:=(by simpa using hi);exact df I4.Zm I4.rw_);have hL:=Q4.de (h:=H5) (args':=[.ref lo (g+1) 0 E5.length]) (Qdq E5 (by omega)) rfl rfl (λd hh h=>h.1) rfl (λi hi=>by obtain rfl:i=0:=(by simpa using hi);exact df I4.Zm I4.rw_);rw[oZ,wE.w,y1]at hW;rw[oZ,wE.u]at hL;rw[Qdy,y1]at hB;have pq:=Q5 y2;apply QC hb;refine ZN hb sM hB λd hR=>?_;subst hR;refine Qe hb ?_;simp only[go_sem,Qa,Go.undef];refine ZN hb iJ hW λd hR=>?_;subst hR;apply QC hb;refine ZN hb Iw hU λd hR=>?_;subst hR;apply QC hb;refine Z8 hb Ng rfl ?_ L0 rfl λd hR=>?_
   ·simp only[go_sem,Qa,pq]
   subst hR;refine Qe hb ?_;simp only[go_sem,Qa,pq];refine ZN hb iK hL λd hR=>?_;subst hR;apply QC hb;refine Z8 hb Ng rfl ?_ L0 rfl λd hR=>?_
   ·simp only[go_sem,Qa,pq]
   subst hR;refine Qe hb ?_;simp only[go_sem,Qa,pq];refine Zu hb [] BF rfl ?_ vB rfl λd h hR=>?_
   ·simp only[go_sem,Qa]
   obtain⟨rfl,rfl⟩:=hR;simp only[go_sem,Qa];exact V9 hb
  ·have b27:=Wg e0;have Cn:((QY S (ZM tk)).r.err != 0)=true:=by rw[e0];rfl
   refine Qe hb ?_;simp only[go_sem,Qa,Cn,b27,Go.undef];refine Zu hb [] BF rfl ?_ vB rfl λd h hR=>?_
   ·simp only[go_sem,Qa]
   obtain⟨rfl,rfl⟩:=hR;simp only[go_sem,Qa];exact V9 hb
end Go.Fg.X
