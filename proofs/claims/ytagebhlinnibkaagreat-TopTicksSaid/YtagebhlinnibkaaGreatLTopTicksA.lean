/- The statement TopTicks is proved. No conditions. -/
import Derived.Test.YtagebhlinnibkaaGreatTB5A
import Derived.Test.YtagebhlinnibkaaGreatXLayA
import Derived.Test.YtagebhlinnibkaaGreatRows
set_option maxRecDepth 100000
set_option maxHeartbeats 16000000
set_option linter.unusedVariables false
set_option linter.unusedSimpArgs false
set_option linter.unusedSectionVars false
set_option linter.defProp false
namespace Go.Fg.X
open Go.Proofs Go.Fg
open Go.Proofs.Tryz
def QdE{op e}(he:e<=4611686018427387904):∀(n m:Nat) {S:Zf},ZV S->S.Qh<=e->Zo S.M<n->Zo S.M<m->Zz op e n S=Zz op e m S
 | 0,_,S,T,h,hn,hm=>absurd hn (Vw _)
 | _,0,S,T,h,hn,hm=>absurd hm (Vw _)
 | n+1,m+1,S,T,h,hn,hm=>by
  unfold Zz;split
  ·rfl
  ·rename_i h2;have h2:QP S<=e:=by omega
   obtain⟨T3,c1,c2,c3⟩:=Oj T op he h2;have:=QdE (op:=op) he n m T3 (by rw[c3];exact h2) (by omega) (by omega);dsimp only;rw[this]
def QF4{S:Zf}{e}(h:S.Qh<=e)(h2:e<QP S):QP { S with Qh:=e }=QP S:=by
 unfold QP XL at *;dsimp only at *;omega
def QF5{op e f}{S:Zf}(h:S.Qh<=e)(h2:e<QP S)(hf:e<=f):∀n,Zz op f n { S with Qh:=e }=Zz op f n S
 | 0=>rfl
 | n+1=>by
  unfold Zz;rw[QF4 h h2]
def QdF{op e}(he:e<=4611686018427387904):∀(n:Nat) {S:Zf},ZV S->S.Qh<=e->Zo (Zz op e n S).1.M<=Zo S.M
 | 0,S,T,h=>QB _
 | n+1,S,T,h=>by
  unfold Zz;split
  ·exact QB _
  ·rename_i h2;have h2:QP S<=e:=by omega
   obtain⟨T3,c1,c2,c3⟩:=Oj T op he h2;have:=QdF (op:=op) he n T3 (by rw[c3];exact h2);dsimp only;omega
def Qon{op e f}(hf:f<=4611686018427387904)(pg:e<=f):∀(n:Nat) {S:Zf},ZV S->S.Qh<=e->Zo S.M<n ->
  Zz op f n S=((Zz op f n (Zz op e n S).1).1,(Zz op e n S).2++(Zz op f n (Zz op e n S).1).2)
 | 0,S,T,h,hn=>absurd hn (Vw _)
 | n+1,S,T,h,hn=>by
  by_cases h2:e<QP S
  ·have e1:Zz op e (n+1) S=({ S with Qh:=e },[]):=by
    unfold Zz;rw[Qf h2]
   rw[e1];show Zz op f (n+1) S=((Zz op f (n+1) { S with Qh:=e }).1,[]++(Zz op f (n+1) { S with Qh:=e }).2);rw[QF5 h h2 pg,zo]
  ·have h3:QP S<=e:=by omega
   obtain⟨T3,c1,c2,c3⟩:=Oj T op (by omega) h3;obtain⟨A,hA⟩:∃A,A=Z2 { S with Qh:=QP S } op (QP S):=⟨_,rfl⟩;have e1:∀g,e<=g->Zz op g (n+1) S=((Zz op g n A.1).1,A.2++(Zz op g n A.1).2):=λg hg=>by
    rw[hA]
    conv=>lhs;unfold Zz
    rw[Qd (by omega)]
   rw[<- hA]at T3 c1 c3;have ih:=Qon (op:=op) hf pg n T3 (by rw[c3];exact h3) (by omega);rw[e1 e (QB _),e1 f pg];dsimp only;have T4:ZV (Zz op e n A.1).1:=T3.go (by omega) n (by rw[c3];exact h3);have hc:Zo (Zz op e n A.1).1.M<=Zo A.1.M:=QdF (by omega) n T3 (by rw[c3];exact h3);have hk:=(Hi op e n A.1).2;rw[QdE (op:=op) (e:=f) hf (n+1) n T4 (by rw[hk];exact pg) (by omega) (by omega)];rw[ih];simp only[WC]
def A4(op:Nat)(v:Ev):Ev:={ v with op:=op }
def Qoo(S:Zf)(op Hq now:Nat):(Z2 S Hq now).1=(Z2 S op now).1/\(Z2 S Hq now).2=(Z2 S op now).2.map (A4 Hq):=by
 unfold Z2;split
 ·exact⟨rfl,rfl⟩
 ·split<;>exact⟨rfl,rfl⟩
def QdG(op Hq e):∀(n:Nat) (S:Zf),(Zz Hq e n S).1=(Zz op e n S).1/\(Zz Hq e n S).2=(Zz op e n S).2.map (A4 Hq)
 | 0,S=>⟨rfl,rfl⟩
 | n+1,S=>by
  unfold Zz;split
  ·exact⟨rfl,rfl⟩
  ·obtain⟨p1,p2⟩:=Qoo { S with Qh:=QP S } op Hq (QP S);dsimp only;rw[p1,p2];obtain⟨r1,r2⟩:=QdG op Hq e n (Z2 { S with Qh:=QP S } op (QP S)).1;rw[r1,r2,jN];exact⟨rfl,rfl⟩
def Z6(S:Zf)(m:Nat):Zf:={ S with ops:=m }
def QdH(S:Zf)(m op now:Nat):(Z2 (Z6 S m) op now).1=Z6 (Z2 S op now).1 m/\(Z2 (Z6 S m) op now).2=(Z2 S op now).2:=by
 unfold Z2;split
 ·rename_i h;rw[Qf (show now<S.JI from h)];exact⟨rfl,rfl⟩
 ·rename_i h;rw[Qd (show ¬now<S.JI from h)];split
  ·rename_i h2;rw[Qf (show Xt S.M now=true from h2)];exact⟨rfl,rfl⟩
  ·rename_i h2;rw[Qd (show ¬Xt S.M now=true from h2)];exact⟨rfl,rfl⟩
def dH(op e m):∀(n:Nat) (S:Zf),(Zz op e n (Z6 S m)).1=Z6 (Zz op e n S).1 m/\(Zz op e n (Z6 S m)).2=(Zz op e n S).2
 | 0,S=>⟨rfl,rfl⟩
 | n+1,S=>by
  unfold Zz;by_cases h:e<QP S
  ·rw[Qf h,Qf (show e<QP (Z6 S m) from h)];exact⟨rfl,rfl⟩
  ·rw[Qd h,Qd (show ¬e<QP (Z6 S m) from h)];obtain⟨p1,p2⟩:=QdH { S with Qh:=QP S } m op (QP S);have p1:(Z2 { Z6 S m with Qh:=QP (Z6 S m) } op (QP (Z6 S m))).1=Z6 (Z2 { S with Qh:=QP S } op (QP S)).1 m:=p1;have p2:(Z2 { Z6 S m with Qh:=QP (Z6 S m) } op (QP (Z6 S m))).2=(Z2 { S with Qh:=QP S } op (QP S)).2:=p2;dsimp only;rw[p1,p2];obtain⟨r1,r2⟩:=dH op e m n (Z2 { S with Qh:=QP S } op (QP S)).1;rw[r1,r2];exact⟨rfl,rfl⟩
def ZM(t:Nat):QZ:=⟨4,[],[],default,t⟩
def kr(S:Zf)(t):QY S (ZM t)=if 4611686018427387904 - S.Qh<t then ⟨{ S with ops:=S.ops+1 },⟨27,0,0⟩,[]⟩ else ⟨Z6 (Zz S.ops (S.Qh+t) (Zo S.M+1) S).1 (S.ops+1),⟨0,0,0⟩,(Zz S.ops (S.Qh+t) (Zo S.M+1) S).2⟩:=by
 show JA { S with ops:=S.ops+1 } S.ops (ZM t)=_;unfold JA;have hk:(ZM t).kind=4:=rfl;rw[Qd (by rw[hk];decide),Qd (by rw[hk];decide),Qd (by rw[hk];decide),Qf hk];show Yo { S with ops:=S.ops+1 } S.ops (t:Int).toNat=_;rw[Int.toNat_natCast];unfold Yo;obtain⟨h1,h2⟩:=dH S.ops (S.Qh+t) (S.ops+1) (Zo S.M+1) S;show (if 4611686018427387904 - S.Qh<t then _ else _)=_;split
 ·rfl
 ·show (⟨(Zz S.ops (S.Qh+t) (Zo S.M+1) (Z6 S (S.ops+1))).1,⟨0,0,0⟩,(Zz S.ops (S.Qh+t) (Zo S.M+1) (Z6 S (S.ops+1))).2⟩:Fw)=_;rw[h1,h2]
def QF6{S}(T:ZV S)(a b)(h:(QY S (ZM a)).r.err≠0\/(QY (QY S (ZM a)).S (ZM b)).r.err≠0\/(QY S (ZM (a+b))).r.err≠0):
  ((QY S (ZM a)).r.err=27\/(QY (QY S (ZM a)).S (ZM b)).r.err=27)/\(QY S (ZM (a+b))).r.err=27:=by
 have hc:=T.cl;by_cases h1:4611686018427387904 - S.Qh<a
 ·rw[kr S a,kr S (a+b),Qf h1,Qf (by omega)];exact⟨.inl rfl,rfl⟩
 ·have e1:QY S (ZM a)=⟨Z6 (Zz S.ops (S.Qh+a) (Zo S.M+1) S).1 (S.ops+1),⟨0,0,0⟩,(Zz S.ops (S.Qh+a) (Zo S.M+1) S).2⟩:=by rw[kr,Qd h1]
  have hk:(QY S (ZM a)).S.Qh=S.Qh+a:=by rw[e1];exact(Hi S.ops (S.Qh+a) (Zo S.M+1) S).2
  by_cases h2:4611686018427387904 - (S.Qh+a)<b
  ·rw[kr (QY S (ZM a)).S b,hk,Qf h2,kr S (a+b),Qf (by omega)];exact⟨.inr rfl,rfl⟩
  ·exfalso;rw[kr (QY S (ZM a)).S b,hk,Qd h2,kr S (a+b),Qd (by omega),e1]at h;rcases h with h|h|h<;>exact h rfl
def Qop{S}(T:ZV S)(a b)(h:(QY S (ZM (a+b))).r.err=0):
  (QY S (ZM (a+b))).l=(QY S (ZM a)).l++(QY (QY S (ZM a)).S (ZM b)).l.map (A4 S.ops)/\(QY S (ZM (a+b))).S=Z6 (QY (QY S (ZM a)).S (ZM b)).S (S.ops+1):=by
 have hc:=T.cl;have h0:¬4611686018427387904 - S.Qh<a+b:=λhh=>by
  rw[kr,Qf hh]at h;cases h
 have e1:QY S (ZM a)=⟨Z6 (Zz S.ops (S.Qh+a) (Zo S.M+1) S).1 (S.ops+1),⟨0,0,0⟩,(Zz S.ops (S.Qh+a) (Zo S.M+1) S).2⟩:=by rw[kr,Qd (by omega)]
 obtain⟨A,hA⟩:∃A,A=Zz S.ops (S.Qh+a) (Zo S.M+1) S:=⟨_,rfl⟩;rw[<- hA]at e1;have hk:A.1.Qh=S.Qh+a:=by rw[hA];exact(Hi S.ops (S.Qh+a) (Zo S.M+1) S).2
 have TA:ZV A.1:=by rw[hA];exact T.go (by omega) _ (by omega)
 have hcn:Zo A.1.M<=Zo S.M:=by rw[hA];exact QdF (by omega) _ T (by omega)
 have e2:QY (Z6 A.1 (S.ops+1)) (ZM b)=⟨Z6 (Zz (S.ops+1) (S.Qh+a+b) (Zo A.1.M+1) (Z6 A.1 (S.ops+1))).1 (S.ops+1+1),⟨0,0,0⟩,(Zz (S.ops+1) (S.Qh+a+b) (Zo A.1.M+1) (Z6 A.1 (S.ops+1))).2⟩:=by
  rw[kr,Qd (by show ¬4611686018427387904 - A.1.Qh<b;omega)];show (⟨Z6 (Zz (S.ops+1) (A.1.Qh+b) (Zo A.1.M+1) (Z6 A.1 (S.ops+1))).1 (S.ops+1+1),⟨0,0,0⟩,(Zz (S.ops+1) (A.1.Qh+b) (Zo A.1.M+1) (Z6 A.1 (S.ops+1))).2⟩:Fw)=_;rw[hk]
 have hs:=Qon (op:=S.ops) (e:=S.Qh+a) (f:=S.Qh+(a+b)) (by omega) (by omega) (Zo S.M+1) T (by omega) (Bc _);rw[<- hA]at hs;have hfu:=QdE (op:=S.ops) (e:=S.Qh+(a+b)) (by omega) (Zo S.M+1) (Zo A.1.M+1) TA (by omega) (by omega) (Bc _);rw[hfu]at hs;obtain⟨w1,w2⟩:=dH (S.ops+1) (S.Qh+a+b) (S.ops+1) (Zo A.1.M+1) A.1;obtain⟨s1,s2⟩:=QdG (S.ops+1) S.ops (S.Qh+a+b) (Zo A.1.M+1) A.1;rw[e1];dsimp only;rw[e2,w1,w2,kr,Qd h0];dsimp only;rw[hs];dsimp only;rw[show S.Qh+(a+b)=S.Qh+a+b by omega,s1,s2];exact⟨rfl,rfl⟩
def Qoq{n:Int}(h:0<=n/\n<=18446744073709551615):(Lit.int .u64 n).wf=true:=by
 simp only[Lit.wf,Z9,XM];exact h
def QdI{t:Nat}(h:t<=4611686018427387904):QZ.Ok (ZM t)/\(ZM t).changes.length<1000000/\(ZM t).rules.length<1000000:=
 ⟨⟨rfl,⟨Z7 _,λa h=>by cases h⟩,⟨Z7 _,λa h=>by cases h⟩,⟨rfl,rfl,rfl,rfl,rfl,rfl,trivial⟩,Qoq (by show 0<=(t:Int)/\(t:Int)<=_;omega),trivial⟩,xV _,xV _⟩
@[go_sem] def QF8(t:Nat):List D:=[Qb 4,.nil,.nil,.raw (.int .u64 0),.raw (.int .i64 0),.raw (.int .u16 0),.raw (.int .u16 0),.raw (.int .u16 0),.raw (.int .u16 0),.raw (.int .u64 (t:Int))]
def ph(p t:Nat):zK (J3 6) [.ptr p 0 0 0,.agg (QF8 t)] [.ptr p 0 0 0,.agg (ZM t).cells]:=⟨rfl,⟨rfl,rfl,rfl,rfl,rfl,rfl,rfl,rfl,rfl,rfl,trivial⟩,trivial⟩
def pn(S:Zf)(t):(QY S (ZM t)).r.err=0\/(QY S (ZM t)).r.err=27:=by
 rw[kr];split
 ·exact .inr rfl
 ·exact .inl rfl
def QF9(x:KW)(a b:Int)(hx:∀a∈x.ops,QZ.Ok a)(ha:(Lit.int .u64 a).wf=true)(KR:(Lit.int .u64 b).wf=true):Q4 prog 6 [.agg x.cells,.raw (.int .u64 a),.raw (.int .u64 b)] (Qn (QJ true)):=by
 refine Oo (R:=λd hh=>d=QJ true) _ rfl (λd hh h=>.inl (h▸kP _ _)) ?_;have hF:=SU x 1000 (by decide);have hM:=Sx x.config;have xQ:=Qom;refine Il Qi 200 func6 rfl ntmps6 results6 rfl λbase w hb=>?_;simp only[go_sem,Qa];cases YM:wN x 1000 with
 | false=>
  rw[YM]at hF;refine Zu hb [] Yf rfl ?_ hF rfl λd h hR=>?_
  ·simp only[go_sem,Qa,Go.undef]
  obtain⟨rfl,rfl⟩:=hR;simp only[go_sem,Qa,Go.undef];refine Qe hb ?_;simp only[go_sem,Qa,Go.undef];refine Zu hb [] ym rfl ?_ xQ rfl λd h hR=>?_
  ·simp only[go_sem,Qa]
  obtain⟨rfl,rfl⟩:=hR;simp only[go_sem,Qa];exact V9 hb
 | true=>
 rw[YM]at hF;cases Y7:Fu x.config with
 | false=>
  rw[Y7]at hM;refine Zu hb [] Yf rfl ?_ hF rfl λd h hR=>?_
  ·simp only[go_sem,Qa,Go.undef]
  obtain⟨rfl,rfl⟩:=hR;simp only[go_sem,Qa,Go.undef];refine Qe hb ?_;simp only[go_sem,Qa,Go.undef];refine Zu hb [] jr rfl ?_ hM rfl λd h hR=>?_
  ·simp only[go_sem,Qa,Go.undef]
  obtain⟨rfl,rfl⟩:=hR;simp only[go_sem,Qa,Go.undef];refine Qe hb ?_;simp only[go_sem,Qa,Go.undef];refine Zu hb [] ym rfl ?_ xQ rfl λd h hR=>?_
  ·simp only[go_sem,Qa]
  obtain⟨rfl,rfl⟩:=hR;simp only[go_sem,Qa];exact V9 hb
 | true=>
 rw[Y7]at hM;by_cases a1:(2305843009213693952:Int)<a
 ·have d1:=Q5 a1;refine Zu hb [] Yf rfl ?_ hF rfl λd h hR=>?_
  ·simp only[go_sem,Qa,Go.undef]
  obtain⟨rfl,rfl⟩:=hR;simp only[go_sem,Qa,Go.undef];refine Qe hb ?_;simp only[go_sem,Qa,Go.undef];refine Zu hb [] jr rfl ?_ hM rfl λd h hR=>?_
  ·simp only[go_sem,Qa,Go.undef,d1]
  obtain⟨rfl,rfl⟩:=hR;simp only[go_sem,Qa,Go.undef,d1];refine Qe hb ?_;simp only[go_sem,Qa,Go.undef,d1];refine Zu hb [] ym rfl ?_ xQ rfl λd h hR=>?_
  ·simp only[go_sem,Qa]
  obtain⟨rfl,rfl⟩:=hR;simp only[go_sem,Qa];exact V9 hb
 have d1:=QN a1;by_cases b1:(2305843009213693952:Int)<b
 ·have d2:=Q5 b1;refine Zu hb [] Yf rfl ?_ hF rfl λd h hR=>?_
  ·simp only[go_sem,Qa,Go.undef]
  obtain⟨rfl,rfl⟩:=hR;simp only[go_sem,Qa,Go.undef];refine Qe hb ?_;simp only[go_sem,Qa,Go.undef];refine Zu hb [] jr rfl ?_ hM rfl λd h hR=>?_
  ·simp only[go_sem,Qa,Go.undef,d1,d2]
  obtain⟨rfl,rfl⟩:=hR;simp only[go_sem,Qa,Go.undef,d1,d2];refine Qe hb ?_;simp only[go_sem,Qa,Go.undef,d1,d2];refine Zu hb [] ym rfl ?_ xQ rfl λd h hR=>?_
  ·simp only[go_sem,Qa]
  obtain⟨rfl,rfl⟩:=hR;simp only[go_sem,Qa];exact V9 hb
 have d2:=QN b1;have K:=Sz.1 Y7;obtain⟨hlen,Ja⟩:=S5 YM hx;refine Zu hb [] Yf rfl ?_ hF rfl λd h hR=>?_
 ·simp only[go_sem,Qa,Go.undef]
 obtain⟨rfl,rfl⟩:=hR;simp only[go_sem,Qa,Go.undef];refine Qe hb ?_;simp only[go_sem,Qa,Go.undef];refine Zu hb [] jr rfl ?_ hM rfl λd h hR=>?_
 ·simp only[go_sem,Qa,Go.undef,d1,d2]
 obtain⟨rfl,rfl⟩:=hR;simp only[go_sem,Qa,Go.undef,d1,d2];refine Qe hb ?_;simp only[go_sem,Qa,Go.undef,d1,d2];refine qZ hb iN (o5 (own:=λ_=>.no) (tw:=λ_=>.my) (λ_ _=>rfl) [(⟨.one,0,3,1,λ_=>x.cells⟩:Ob)] x K hlen Ja) λd h1 hR=>?_;obtain⟨Ji,Kw,p,rfl,T1,C1,o1,V1,D1⟩:=hR;have Kc:h1[0]? = some _:=D1.my 0 (by simp) rfl;have VU:=Qc Kc;refine Qe hb ?_;simp only[go_sem,Qa,Kc,VU];refine qZ hb iN (o5 (own:=λ_=>.no) (tw:=λ_=>.my) (λ_ _=>rfl) h1 x K hlen Ja) λd h2 hR=>?_;obtain⟨JC,Vv,p2,rfl,T2,_,_,_,D2⟩:=hR;generalize (Zh (S0 x.config) x.ops).1=S at *;have W0:zl (QX Ji h1 .no) (ZX Kw h1 .my) JC Vv h2 p p2 S S:=⟨T1.Ot λl hl _=>D2.my l hl rfl,T2,λl hl=>by
  by_cases h3:l<h1.length
  ·exact .inr ⟨D2.s1 l h3,D2.s2 l h3⟩
  ·exact .inl ⟨Xb (by omega),zf (by omega)⟩⟩
 obtain⟨ta,rfl⟩:∃t:Nat,a=t:=⟨a.toNat,by have:=wf_u64 ha;omega⟩;obtain⟨tb,rfl⟩:∃t:Nat,b=t:=⟨b.toNat,by have:=wf_u64 KR;omega⟩;have oA:=QdI (t:=ta) (by omega);have oB:=QdI (t:=tb) (by omega);have oC:=QdI (t:=ta+tb) (by omega);have Gd:=QK.PQ (Fz W0.a V1 C1 (by omega) (ZM ta) oA.1 oA.2.1 oA.2.2) (ph p ta);have Xg:h2[0]? = some _:=(D2.my 0 VU rfl).trans Kc;apply QC hb;refine Jh hb EK Gd λd h3 hR=>?_;obtain⟨dl,YI,wL,rfl,T3,s3,D3⟩:=hR;refine Ye Qi hb 9 ?_;simp only[go_sem,Qa];obtain⟨Ya,S6⟩:∃Y,Y=QY S (ZM ta):=⟨_,rfl⟩;rw[<- S6]at T3 s3 ⊢;obtain⟨h4,o4,t4,o4',t4',Wk4,W4,k4,g4⟩:=W0.step T3 s3 D3 [⟨.one,0,3,1,λ_=>Ya.r.cells⟩] (w0:=⟨w,[],[]⟩) rfl rfl (fr:=[(1,.raw (.int .u64 ((ta:Nat):Int))),(2,.raw (.int .u64 ((tb:Nat):Int))),(7,.ptr p 0 0 0),(8,Qb 0),(9,.ptr p2 0 0 0),(10,Qb 0),(11,.ptr h3.length 0 0 0),(12,dl)]) 12 rfl;refine kO (Qp.trans (Qp.frame (fr':=[(1,.raw (.int .u64 ((ta:Nat):Int))),(2,.raw (.int .u64 ((tb:Nat):Int))),(7,.ptr p 0 0 0),(8,Qb 0),(9,.ptr p2 0 0 0),(10,Qb 0),(11,.ptr h3.length 0 0 0),(12,dl)]) (by simp only[go_sem])) Wk4) ?_;have q4:=g4 0 eR;have l4:=Qc q4.1;have V4:=V1.do (o:=ZM ta) λc h=>by cases h
 have C4:=C1.do (ZM ta);have p4:=Oi S (ZM ta);rw[<- S6]at V4 C4 p4;have PA:=QK.PQ (Fz W4.a V4 C4 (by omega) (ZM tb) oB.1 oB.2.1 oB.2.2) (ph p tb);apply QC hb;refine Jh hb EK PA λd h5 hR=>?_;obtain⟨dl,xI,SI,rfl,T5,s5,D5⟩:=hR;refine Ye Qi hb 9 ?_;simp only[go_sem,Qa];obtain⟨Yb,S8⟩:∃Y,Y=QY Ya.S (ZM tb):=⟨_,rfl⟩;rw[<- S8]at T5 s5 ⊢;obtain⟨h6,o6,t6,o6',t6',Wk6,W6,k6,g6⟩:=W4.step T5 s5 D5 [⟨.one,0,3,1,λ_=>Yb.r.cells⟩] (w0:=⟨w,[],[]⟩) rfl rfl (fr:=[(1,.raw (.int .u64 ((ta:Nat):Int))),(2,.raw (.int .u64 ((tb:Nat):Int))),(7,.ptr p 0 0 0),(8,Qb 0),(9,.ptr p2 0 0 0),(10,Qb 0),(11,.ptr h3.length 0 0 0),(12,Kv Ya.l),(13,.ptr h5.length 0 0 0),(14,dl)]) 14 rfl;refine kO (Qp.trans (Qp.frame (fr':=[(1,.raw (.int .u64 ((ta:Nat):Int))),(2,.raw (.int .u64 ((tb:Nat):Int))),(7,.ptr p 0 0 0),(8,Qb 0),(9,.ptr p2 0 0 0),(10,Qb 0),(11,.ptr h3.length 0 0 0),(12,Kv Ya.l),(13,.ptr h5.length 0 0 0),(14,dl)]) (by simp only[go_sem])) Wk6) ?_;have q6:=g6 0 eR;have l6:=Qc q6.1;have r6:=k6 _ l4 q4.2;have Vo:IntKind.u64.wrap ((ta:Int)+tb)=((ta+tb:Nat):Int):=by rw[IntKind.wrap_u64];omega
 have hD3:=QK.PQ (Fz W6.b V1 C1 (by omega) (ZM (ta+tb)) oC.1 oC.2.1 oC.2.2) (ph p2 (ta+tb));refine Qe hb ?_;simp only[go_sem,Qa,Vo];refine Jh hb EK hD3 λd h7 hR=>?_;obtain⟨dl,jA,tw7,rfl,T7,s7,D7⟩:=hR;refine Ye Qi hb 9 ?_;simp only[go_sem,Qa];obtain⟨Yc,dI⟩:∃Y,Y=QY S (ZM (ta+tb)):=⟨_,rfl⟩;rw[<- dI]at T7 s7 ⊢;obtain⟨h8,o8,t8,o8',t8',Wk8,W8,k8,g8⟩:=W6.swap.step T7 s7 D7 [⟨.one,0,3,1,λ_=>Yc.r.cells⟩] (w0:=⟨w,[],[]⟩) rfl rfl (fr:=[(1,.raw (.int .u64 ((ta:Nat):Int))),(2,.raw (.int .u64 ((tb:Nat):Int))),(7,.ptr p 0 0 0),(8,Qb 0),(9,.ptr p2 0 0 0),(10,Qb 0),(11,.ptr h3.length 0 0 0),(12,Kv Ya.l),(13,.ptr h5.length 0 0 0),(14,Kv Yb.l),(15,.ptr h7.length 0 0 0),(16,dl)]) 16 rfl;refine qS (Qp.trans (Qp.frame (fr':=[(1,.raw (.int .u64 ((ta:Nat):Int))),(2,.raw (.int .u64 ((tb:Nat):Int))),(7,.ptr p 0 0 0),(8,Qb 0),(9,.ptr p2 0 0 0),(10,Qb 0),(11,.ptr h3.length 0 0 0),(12,Kv Ya.l),(13,.ptr h5.length 0 0 0),(14,Kv Yb.l),(15,.ptr h7.length 0 0 0),(16,dl)]) (by simp only[go_sem])) Wk8) ?_;have j7:h8[h7.length]? = some ⟨.one,0,3,1,λ_=>Yc.r.cells⟩:=(g8 0 eR).1;have m2:dB o6' t6' o6 t6 h5.length:=⟨q6.2.2.2.1,q6.2.2.2.2,q6.2.1,q6.2.2.1⟩;have m1:dB o6' t6' o6 t6 h3.length:=⟨r6.2.2.2.1,r6.2.2.2.2,r6.2.1,r6.2.2.1⟩;have Jp:h8[h5.length]? = some ⟨.one,0,3,1,λ_=>Yb.r.cells⟩:=(k8 _ l6 m2).1.trans q6.1;have Vx:h8[h3.length]? = some ⟨.one,0,3,1,λ_=>Ya.r.cells⟩:=((k8 _ (Qc (r6.1.trans q4.1)) m1).1.trans r6.1).trans q4.1;have Y6:=Qc Vx;have Yp:=Qc Jp;have DT:=Qc j7;have eA:=pn S ta;have eB:=pn Ya.S tb;have eC:=pn S (ta+tb);have QdO:=QF6 V1 ta tb;rw[<- S6,<- S8,<- dI]at QdO;rw[<- S6]at eA;rw[<- S8]at eB;rw[<- dI]at eC;by_cases hz:Ya.r.err=0/\Yb.r.err=0
 ·obtain⟨e1,e2⟩:=hz;have e3:Yc.r.err=0:=eC.resolve_right λh=>by
   rcases (QdO (.inr (.inr (by rw[h];decide)))).1 with h|h
   ·rw[e1]at h;cases h
   ·rw[e2]at h;cases h
  obtain⟨hl,hS⟩:=Qop V1 ta tb (by rw[<- dI];exact e3);rw[<- S6,<- S8,<- dI]at hl hS;have oa:∀e∈Yb.l,e.op=(S.ops+1:Nat):=λe he=>by
   rw[S8]at he;have:=Qdl Ya.S (ZM tb) e he;rw[p4]at this;exact this
  have la:Ya.l.length<=5000:=by
   obtain⟨_,_,_,_,Tx⟩:=W0.a;rw[S6];exact cO S _ Tx.co.LM
  have lb:Yb.l.length<=5000:=by
   obtain⟨_,_,_,_,Tx⟩:=W4.a;rw[S8];exact cO Ya.S _ Tx.co.LM
  have Sd:Yc.l.length=Ya.l.length+Yb.l.length:=by rw[hl,Zj,Kl]
  have G7:IntKind.i64.wrap ((Ya.l.length:Int)+(Yb.l.length:Int))=((Yc.l.length:Nat):Int):=by rw[wrap64 (by omega) (by omega)];omega
  have hAl:=λg=>Qof (W8.swap.app g) (S:=Yb.S) (S':=Yc.S) (by rw[hS];exact⟨jc.of rfl rfl rfl rfl rfl rfl,rfl,rfl,rfl,rfl⟩) false (λ_ id n hn=>by rw[hS];exact hn) (by rw[hS];rfl);refine Qe hb ?_;simp only[go_sem,Qa,Go.undef,Vx,Y6,Jp,Yp,j7,DT,e1,e2,e3,G7,kB];refine Jg (λk s=>∃g H,H=h8++g/\s=⟨[(7,.ptr p 0 0 0),(8,Qb 0),(9,.ptr p2 0 0 0),(10,Qb 0),(12,Kv Ya.l),(14,Kv Yb.l),(108,Kv Yc.l),(109,Qb Yc.l.length),(110,Qb k)],H⟩) Yc.l.length QQ ⟨[],_,(QU _).symm,rfl⟩ ?_;rintro k _ hk ⟨g,_,rfl,rfl⟩;by_cases Qj:k<Yc.l.length
  ·have dk:=Q5 Qj;have QT:=JX (show k<4611686018427387904 by omega);obtain⟨v,hv⟩:∃v,v=Yc.l.getD k default:=⟨_,rfl⟩;by_cases h3:k<Ya.l.length
   ·have d3:=Q5 h3;have ev:Ya.l.getD k default=v:=by rw[hv,hl,Ze,Ze,JD h3]
    refine Qe hb ?_;simp only[go_sem,Qa,dk,Qj,<- hv,d3,h3,ev];exact⟨_,Qp.frame (by simp only[go_sem,QT]),_,_,rfl,rfl⟩
   ·have d3:=QN h3;obtain⟨u,hu⟩:∃u,u=Yb.l.getD (k - Ya.l.length) default:=⟨_,rfl⟩;have MC:k - Ya.l.length<Yb.l.length:=by omega
    have ev:v=A4 S.ops u:=by rw[hv,hl,Ze,Kf (by omega),<- Ze,getD_map (A4 S.ops) Yb.l default default _ MC,hu]
    have uo:u.op=((S.ops+1:Nat):Int):=oa u (by rw[hu];exact WI _ _ _ MC);have qB:IntKind.i64.wrap ((k:Int) - (Ya.l.length:Int))=((k - Ya.l.length:Nat):Int):=by rw[wrap64 (by omega) (by omega)];omega
    have hw2:IntKind.i64.wrap (((S.ops+1:Nat):Int) - 1)=(S.ops:Int):=by rw[wrap64 (by omega) (by omega)];omega
    rw[ev]at hv;refine Qe hb ?_;simp only[go_sem,Qa,dk,Qj,<- hv,d3,h3,qB,MC,<- hu,uo,hw2,A4];exact⟨_,Qp.frame (by simp only[go_sem,QT]),_,_,rfl,rfl⟩
  ·have dk:=QN Qj;refine Qe hb ?_;simp only[go_sem,Qa,dk,Qj];apply QC hb;refine Jh hb Qhp (hAl g) λd h9 hR=>?_;subst hR;apply QC hb;refine Zu hb [] ym rfl ?_ xQ rfl λd h hR=>?_
   ·simp only[go_sem,Qa]
   obtain⟨rfl,rfl⟩:=hR;simp only[go_sem,Qa];exact V9 hb
 ·have e3:Yc.r.err=27:=(QdO (by
   by_cases h0:Ya.r.err=0
   ·exact .inr (.inl λh1=>hz ⟨h0,h1⟩)
   ·exact .inl h0)).2
  rcases eA with e1|e1<;>rcases eB with e2|e2
  ·exact absurd ⟨e1,e2⟩ hz
  all_goals (refine Qe hb ?_;simp only[go_sem,Qa,Go.undef,Vx,Y6,Jp,Yp,j7,DT,e1,e2,e3];refine Qe hb ?_;simp only[go_sem,Qa,Go.undef,Vx,Y6,Jp,Yp,j7,DT,e1,e2,e3])
  ·refine Zu hb [] ym rfl ?_ xQ rfl λd h hR=>?_
   ·simp only[go_sem,Qa]
   obtain⟨rfl,rfl⟩:=hR;simp only[go_sem,Qa];exact V9 hb
  ·refine Zu hb [] ym rfl ?_ xQ rfl λd h hR=>?_
   ·simp only[go_sem,Qa]
   obtain⟨rfl,rfl⟩:=hR;simp only[go_sem,Qa];exact V9 hb
  ·refine Zu hb [] ym rfl ?_ xQ rfl λd h hR=>?_
   ·simp only[go_sem,Qa]
   obtain⟨rfl,rfl⟩:=hR;simp only[go_sem,Qa];exact V9 hb
end Go.Fg.X
namespace Go.Fg.X
open Go.Proofs Go.Fg Go.Proofs.YtagebhlinnibkaaGreat
open Go.ChangeShapes Go.RowKit
open Go.Proofs.Tryz
def QHF:laidOutB prog=true:=by kernel_rfl
def QHG:mapsRowed prog=true:=by kernel_rfl
def QHH:prog.stopsHeard=true:=by kernel_rfl
def QHI:prog.mayEnter=true:=by kernel_rfl
def QHJ:(Rows.topTicksRow.lifted==prog.liftsFinal)=true:=by kernel_rfl
def QHK:(prog.make==some Rows.topTicksRow.make)=true:=by kernel_rfl
end Go.Fg.X
namespace Go.Fg.X
open Go.Proofs Go.Fg Go.Proofs.YtagebhlinnibkaaGreat
open Go.ChangeShapes Go.WideShapes Go.ChangeAt Go.RowKit
open Go.Proofs.Tryz
def QHL:ownKnob prog.godebug=none:=by kernel_rfl
def Qd2:laidOutB prog=true:=by kernel_rfl
def QHM(os:Os)(started:os.Started)(H:Type)(enc:TypeId × Value->H):
  ReturnsInHanded {} checked os 6 .any (Rows.topTicksSpec.pre6 enc prog f6 Rows.topTicksRow.domain false) (Rows.topTicksSpec.post enc prog f6 false true false false):=by
 refine returnsInHanded_of_change (C:=checked) QHL started (by kernel_rfl) func6
  (ChangeSpec.witness6 (enc:=enc) (C:=checked) false ⟨#[],#[.agg #[.int .i64 0,.int .i64 0,.slice none 0 0],.int .u64 0,.int .u64 0],[]⟩ 12 (by kernel_rfl) (by kernel_rfl) (by kernel_rfl) (by kernel_rfl)) ?_
 intro W base args ds gs before vC hW dh _;have zk:∀(j:Nat) t v,f6.params[j]? = some t->args[j]? = some v->Value.okWide prog W .any base t v:=vC;have DW:=hW;obtain⟨p,q,vD,hV,rfl,yD,ZY⟩:=hW;have hA:DataW.TrodAll enc prog W 0 (λ_=>true) true f6.params.toList args.toList ds p:=vD;rw[params6]at hA zk;obtain⟨v0,dt,d0,dw,p0,q0,Gj,rfl,rfl,h0,r0⟩:=trodAll_cons hA;obtain⟨v1,vs1,d1,ds1,p1,q1,rfl,rfl,rfl,h1,r1⟩:=trodAll_cons r0;obtain⟨v2,vs2,d2,ds2,p2,q2,rfl,rfl,rfl,h2,r2⟩:=trodAll_cons r1;obtain⟨rfl,rfl,rfl⟩:=trodAll_nil r2;obtain rfl:args=#[v0,v1,v2]:=by cases args;simp_all
 obtain⟨rfl,rfl⟩:=trodVars_none hV;obtain⟨DX,rfl,_⟩:=okWide_struct underlying26 (zk 0 26 v0 rfl rfl);obtain⟨n1,rfl⟩:=okWide_int underlying38 (zk 1 38 v1 rfl rfl);obtain⟨n2,rfl⟩:=okWide_int underlying38 (zk 2 38 v2 rfl rfl);have t0:=h0;have DY:∀x∈p0,x.block<W.heap.size:=by obtain⟨m,hm⟩:=t0;exact DataW.trod_lt m _ _ _ hm
 have t1:=h1;have dJ:∀x∈p1,x.block<W.heap.size:=by obtain⟨m,hm⟩:=t1;exact DataW.trod_lt m _ _ _ hm
 have t2:=h2;have Oz:∀x∈p2,x.block<W.heap.size:=by obtain⟨m,hm⟩:=t2;exact DataW.trod_lt m _ _ _ hm
 obtain⟨x0,k0,c0⟩:=Rd.many P5 h0;obtain⟨x1,k1,c1⟩:=Rd.one (Rd.int .u64 underlying38) h1 (tM _ _);obtain⟨x2,k2,c2⟩:=Rd.one (Rd.int .u64 underlying38) h2 (tM _ _);clear vD vC;have walk:Calls prog 6 #[.agg DX,.int .u64 n1,.int .u64 n2] W λe W'=>e=.returned (.bool true)/\Below W.heap.size W W':=P4 (QF9 x0 x1 x2 k0.2.1.2 k1 k2) W [_,_,_] rfl (λi hi=>match i,hi with
  | 0,_=>c0
  | 1,_=>c1
  | 2,_=>c2)
 refine walk.mono λe W' ⟨he,VI⟩=>?_;subst he;exact⟨_,rfl,_,_,_,[],_,[],DW,trodAll_mk1 (shut_bool underlying4 _),(trodAll_cons_mk (Below.trod Qd2 (by kernel_rfl) (Wc (by kernel_rfl)) t0 VI DY) (trodAll_cons_mk (Below.trod Qd2 (by kernel_rfl) (Wc (by kernel_rfl)) t1 VI dJ) (trodAll_cons_mk (Below.trod Qd2 (by kernel_rfl) (Wc (by kernel_rfl)) t2 VI Oz) trodAll_mk0))),rfl,VI.frame _,λh=>by cases h⟩
def jn{a b}(ha:a=true)(hb:b=true):(a&&b)=true:=by rw[ha,hb];rfl
def QHN:(Rows.topTicksRow.inPlace==prog.inPlace 6)=true:=by kernel_rfl
def QHO:(Rows.topTicksRow.unfollowed==prog.unfollowed 6)=true:=by kernel_rfl
def QHP:(Rows.topTicksRow.recurses==prog.recurses 6)=true:=by kernel_rfl
def QHQ:(Rows.topTicksRow.named==prog.varsNamed 6)=true:=by kernel_rfl
def QHR:(Rows.topTicksRow.maps==(f6.params.toList++Rows.topTicksSpec.plain.varTypes prog).any (prog.mapsRec ·))=true:=by kernel_rfl
def QHS:(Rows.topTicksRow.ifaces==(f6.params.toList++Rows.topTicksSpec.plain.varTypes prog).any (prog.ifacesRec ·))=true:=by kernel_rfl
def QHT:(Rows.topTicksRow.loops==(f6.params.toList++Rows.topTicksSpec.plain.varTypes prog).any (prog.loopsFrom ·))=true:=by kernel_rfl
def QHU:joinedFacts prog 6 f6 Rows.topTicksSpec Rows.topTicksRow=true:=by
 unfold joinedFacts;refine(jn (jn (jn (jn (jn (jn (jn (jn (jn (jn (jn (jn (jn (jn (jn (jn (jn (jn (jn (jn (jn (jn (jn (jn (jn (jn (jn (jn (jn (jn (jn ?_ QHF) QHG) ?_) ?_) ?_) ?_) ?_) ?_) QHN) QHO) QHP) QHQ) QHR) QHS) ?_) QHT) ?_) ?_) ?_) ?_) ?_) ?_) ?_) QHH) QHI) QHJ) QHK) ?_) ?_) ?_) ?_);all_goals kernel_rfl
def QHV:prog.funcNamed Rows.topTicksRow.func=some 6:=by kernel_rfl
theorem provedTopTicks:Rows.TopTicksSaid:=
 OpenClaim.holds_of_wide 6 f6 rfl rfl rfl rfl rfl rfl rfl ⟨rfl,rfl,rfl,rfl,rfl⟩ rfl rfl rfl rfl rfl QHV func6 QHU
  (Wc (by kernel_rfl)) (by unfold Func.isWrapper;first|(rw[Qf (by decide +kernel)];kernel_rfl)|(rw[Qd (by decide +kernel)];exact⟨rfl,rfl⟩))
  (λos started H enc _=>QHM os started H enc)
end Go.Fg.X
namespace Go.Proofs.YtagebhlinnibkaaGreat
theorem topTicks_done: Rows.TopTicksSaid := Go.Fg.X.provedTopTicks
end Go.Proofs.YtagebhlinnibkaaGreat
