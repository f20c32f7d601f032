/- The statement FairShares is proved. No conditions. -/
import Derived.Test.YtkfemlhbbcojnaaGreatEvFC
import Derived.Test.YtkfemlhbbcojnaaGreatCA3C
import Derived.Test.YtkfemlhbbcojnaaGreatRows
set_option maxRecDepth 100000
set_option maxHeartbeats 16000000
set_option linter.unusedVariables false
set_option linter.unusedSimpArgs false
set_option linter.unusedSectionVars false
set_option linter.defProp false
namespace Go.Fg.X
open Go.Proofs Go.Fg
open Go.Proofs.Tryz
def QM1(x:YD)(h:x.ops.length<1000000):QW prog 42 [.agg x.cells] (QN (QT (E6 x.ops))):=by
 refine xT 0 func42 ntmps42 results42 λbase w hb=>?_;simp only[go_sem];refine MW (G:=Nat) [6,7] (λk=>∀j,j<k->0<j->(x.ops.getD j default).kind≠1) (λk γ=>[(8,Qa k)]) (λk γ=>[]) (x.ops.length) (0) rfl (Qz.to 0 (by (simp only[go_sem])<;>simp)) ?_ ?_
 .intro j hj;omega
 intro k γ hk Kj;apply Qn hb;have Zb:=J9 (show k<4611686018427387904 from ω);first|refine jO hk (λQj=>?_) (λQj=>?_)|refine jP hk (λQj=>?_) (λQj=>?_)
 .simp only[go_sem,Qj];by_cases h0:0<k
  .have d0:=QU (show (0:Int)<k from ω);by_cases h1:(x.ops.getD k default).kind=1
   .have e1:=qN h1;have ff:E6 x.ops=false:=by
     rw[Xe];intro hf;exact Qjl.1 hf k Qj h0 h1
    simp only[go_sem,d0,e1,ff]
   .have e1:=Xl h1;simp only[go_sem,d0,e1];repeat (refine And.intro δ ?_)
    refine⟨_,Qz.to 0 (by (simp only[go_sem,Zb])<;>simp),XT.mk (0) (?_)⟩;intro j hj j0;rcases vM.1 hj with h|rfl
    .exact Kj j h j0
    .exact h1
  .have d0:=QI (show ¬(0:Int)<k from ω);simp only[go_sem,d0];repeat (refine And.intro δ ?_)
   refine⟨_,Qz.to 0 (by (simp only[go_sem,Zb])<;>simp),XT.mk (0) (?_)⟩;intro j hj j0;rcases vM.1 hj with h|rfl
   .exact Kj j h j0
   .exact absurd j0 h0
 .simp only[go_sem];apply Qn hb;subst Qj;rw[Qjl.2 Kj]
section
variable (n:Nd)(a:Bool)(f:Nat)
@[go_sem] theorem QOO:(List.drop 1 (ky n a f)).getD 0 D.undef=.raw (.int .i64 n.c.parent):=rfl
@[go_sem] theorem QOP:(List.drop 14 (ky n a f)).getD 0 D.undef=QT a:=rfl
@[go_sem] theorem QOQ:(List.drop 8 (ky n a f)).getD 0 D.undef=.raw (.int .u64 n.c.ls.m2):=rfl
@[go_sem] theorem QOR:(List.drop 5 (ky n a f)).getD 0 D.undef=.raw (.int .u64 n.c.rt.m2):=rfl
end
@[go_sem] def moO(b:Bool)(u v:Nat):Ob:=⟨.one,0,3,1,λ_=>[QT b,u64 u,u64 v]⟩
def Qnk(M:Qk)(i j:Int):List D:=[QT (JV M i&&JV M j),u64 (r6 M i),u64 (r6 M j)]
structure FsI (x:YD) (i j:Int) (p lo g k pi qi:Nat) (oi oj:Ob) (own:Nat->Tag) (tw:Nat->TT) (H:List Ob) (S:ZF) (row:Nat->List D):Prop where
 X:p9 x own tw H p S
 A:Sw own tw H lo ⟨.arr,g,3,k,row⟩
 I:Sw own tw H pi oi
 J:Sw own tw H qi oj
 ni:lo≠pi
 nj:lo≠qi
 rows:∀t,t<k->row t=Qnk (Zn (S0 x.config) (x.ops.take (t+1))).1.M i j
section
variable {x:YD}{i j:Int}{p lo g k pi qi n:Nat}{oi oj:Ob}{own JW:Nat->Tag}{tw Xd:Nat->TT}{H h2:List Ob}{S:ZF}{row:Nat->List D}
def FsI.app(F:FsI x i j p lo g k pi qi oi oj own tw H S row)(G):FsI x i j p lo g k pi qi oi oj (QV own H .no) (Z4 tw H .my) (H++G) S row:=
 ⟨F.X.app G,F.A.app G,F.I.app G,F.J.app G,F.ni,F.nj,F.rows⟩
def FsI.yf(F:FsI x i j p lo g k pi qi oi oj own tw H S row){o:ZV}(ho:∀q∈o.changes,JN.Ok q)(T2:Wr JW Xd h2 p (JM S o).S)(K2:Jo n own tw H JW Xd h2):FsI x i j p lo g k pi qi oi oj JW Xd h2 (JM S o).S row:=
 ⟨F.X.yf ho T2 K2,F.A.yf K2,F.I.yf K2,F.J.yf K2,F.ni,F.nj,F.rows⟩
def FsI.put(F:FsI x i j p lo g k pi qi oi oj own tw H S row)(hS:S=(Zn (S0 x.config) (x.ops.take (k+1))).1){r}(hr:r 0=Qnk S.M i j):
  FsI x i j p lo (g+1) (k+1) pi qi oi oj own tw (H.set lo ⟨.arr,g+1,3,k+1,Kt k 0 row r⟩) S (Kt k 0 row r):=by
 refine⟨F.X.set F.A _,F.A.set _,⟨by rw[Qr F.ni];exact F.I.at_,F.I.my,F.I.ne⟩,⟨by rw[Qr F.nj];exact F.J.at_,F.J.my,F.J.ne⟩,F.ni,F.nj,λt ht=>?_⟩;by_cases h:t<k
 .rw[Az h,JD];exact F.rows t h
 .obtain rfl:t=k:=ω;rw[xk (QB _),xg,hr,hS]
end
def QM2{c}(K:WM c){mi mj di dj low}(h1:0<mi)(h2:mi<=4294967295)(h3:0<mj)(h4:mj<=4294967295)(h5:0<low)(h6:low<=4294967295)(h7:di<=16777216)(h8:dj<=16777216)
  (e1:dj*65536*mi<=di*65536*mj+(2*cdiv (c.ZX.toNat*65536) low+2)*(mi*mj)) (e2:di*65536*mj<=dj*65536*mi+(2*cdiv (c.ZX.toNat*65536) low+2)*(mj*mi)):oR mi di mj dj low c.ZX=true:=by
 have k1:=K.l1;have k2:=K.l2;unfold oR gE EE SL;simp only[QU (show 0<mi/\mi<=4294967295 from ⟨h1,h2⟩),QU (show 0<mj/\mj<=4294967295 from ⟨h3,h4⟩),QU (show 0<low/\low<=4294967295 from ⟨h5,h6⟩),QU (show di<=1099511627776 from ω),QU (show dj<=1099511627776 from ω),QU k1,QU k2,Bool.and_self,O7];have:oE mi di mj dj<=Qb1 mi mj c.ZX.toNat low:=by
  unfold oE Qb1;rw[Pw (2*cdiv (c.ZX.toNat*65536) low+2)];rw[Mc mj mi]at e2;obtain⟨Z,hZ⟩:∃Z,Z=(2*cdiv (c.ZX.toNat*65536) low+2)*(mi*mj):=⟨_,rfl⟩;obtain⟨X,hX⟩:∃X,X=di*65536*mj:=⟨_,rfl⟩;obtain⟨Y,hY⟩:∃Y,Y=dj*65536*mi:=⟨_,rfl⟩;rw[<- hZ,<- hX,<- hY]at e1;rw[<- hZ,<- hX,<- hY]at e2;rw[<- hZ,<- hX,<- hY];clear hZ hX hY;split<;>omega
 exact QU this
def QM3(x:YD)(i j)(hx:∀a∈x.ops,ZV.Ok a):QW prog 8 [.agg x.cells,Qa i,Qa j] (QN (QT true)):=by
 refine Qi4 (R:=λd hh=>d=QT true) _ rfl (λd hh h=>.inl (h▸DS _ _)) ?_;have hF:=Qjb x 200 π;have hM:=Qil x.config;have An:=QMW;refine bn Q4 200 func8 rfl ntmps8 results8 rfl λbase w hb=>?_;simp only[go_sem,Qe];cases Ha:yg x 200 with
 | false=>
  rw[Ha]at hF;refine VC hb [] Gb rfl ?_ hF rfl λd h hR=>?_
  .simp only[go_sem,Qe,Go.undef]
  obtain⟨rfl,rfl⟩:=hR;simp only[go_sem,Qe,Go.undef];apply Qg hb;simp only[go_sem,Qe,Go.undef];refine VC hb [] o9 rfl ?_ An rfl λd h hR=>?_
  .simp only[go_sem,Qe]
  obtain⟨rfl,rfl⟩:=hR;simp only[go_sem,Qe];exact Bk hb
 | true=>
 rw[Ha]at hF;cases LQ:OD x.config with
 | false=>
  rw[LQ]at hM;refine VC hb [] Gb rfl ?_ hF rfl λd h hR=>?_
  .simp only[go_sem,Qe,Go.undef]
  obtain⟨rfl,rfl⟩:=hR;simp only[go_sem,Qe,Go.undef];apply Qg hb;simp only[go_sem,Qe,Go.undef];refine VC hb [] Ni rfl ?_ hM rfl λd h hR=>?_
  .simp only[go_sem,Qe,Go.undef]
  obtain⟨rfl,rfl⟩:=hR;simp only[go_sem,Qe,Go.undef];apply Qg hb;simp only[go_sem,Qe,Go.undef];refine VC hb [] o9 rfl ?_ An rfl λd h hR=>?_
  .simp only[go_sem,Qe]
  obtain⟨rfl,rfl⟩:=hR;simp only[go_sem,Qe];exact Bk hb
 | true=>
 rw[LQ]at hM;have K:=Qiq.1 LQ;obtain⟨hlen,ZM⟩:=QjB Ha hx;have Fe:=QM1 x ω;cases ZO:E6 x.ops with
 | false=>
  rw[ZO]at Fe;refine VC hb [] Gb rfl ?_ hF rfl λd h hR=>?_
  .simp only[go_sem,Qe,Go.undef]
  obtain⟨rfl,rfl⟩:=hR;simp only[go_sem,Qe,Go.undef];apply Qg hb;simp only[go_sem,Qe,Go.undef];refine VC hb [] Ni rfl ?_ hM rfl λd h hR=>?_
  .simp only[go_sem,Qe,Go.undef]
  obtain⟨rfl,rfl⟩:=hR;simp only[go_sem,Qe,Go.undef];apply Qg hb;simp only[go_sem,Qe,Go.undef];refine VC hb [] Qnn rfl ?_ Fe rfl λd h hR=>?_
  .simp only[go_sem,Qe,Go.undef]
  obtain⟨rfl,rfl⟩:=hR;simp only[go_sem,Qe,Go.undef];apply Qg hb;simp only[go_sem,Qe,Go.undef];refine VC hb [] o9 rfl ?_ An rfl λd h hR=>?_
  .simp only[go_sem,Qe]
  obtain⟨rfl,rfl⟩:=hR;simp only[go_sem,Qe];exact Bk hb
 | true=>
 rw[ZO]at Fe;by_cases K7:i=j
 .have e1:=qN K7;refine VC hb [] Gb rfl ?_ hF rfl λd h hR=>?_
  .simp only[go_sem,Qe,Go.undef]
  obtain⟨rfl,rfl⟩:=hR;simp only[go_sem,Qe,Go.undef];apply Qg hb;simp only[go_sem,Qe,Go.undef];refine VC hb [] Ni rfl ?_ hM rfl λd h hR=>?_
  .simp only[go_sem,Qe,Go.undef]
  obtain⟨rfl,rfl⟩:=hR;simp only[go_sem,Qe,Go.undef];apply Qg hb;simp only[go_sem,Qe,Go.undef];refine VC hb [] Qnn rfl ?_ Fe rfl λd h hR=>?_
  .simp only[go_sem,Qe,Go.undef,e1]
  obtain⟨rfl,rfl⟩:=hR;simp only[go_sem,Qe,Go.undef,e1];apply Qg hb;simp only[go_sem,Qe,Go.undef,e1];refine VC hb [] o9 rfl ?_ An rfl λd h hR=>?_
  .simp only[go_sem,Qe]
  obtain⟨rfl,rfl⟩:=hR;simp only[go_sem,Qe];exact Bk hb
 have e1:=Xl K7;by_cases h0:x.ops.length=0
 .have d1:=QU (show (x.ops.length:Int)<1 from ω);refine VC hb [] Gb rfl ?_ hF rfl λd h hR=>?_
  .simp only[go_sem,Qe,Go.undef]
  obtain⟨rfl,rfl⟩:=hR;simp only[go_sem,Qe,Go.undef];apply Qg hb;simp only[go_sem,Qe,Go.undef];refine VC hb [] Ni rfl ?_ hM rfl λd h hR=>?_
  .simp only[go_sem,Qe,Go.undef]
  obtain⟨rfl,rfl⟩:=hR;simp only[go_sem,Qe,Go.undef];apply Qg hb;simp only[go_sem,Qe,Go.undef];refine VC hb [] Qnn rfl ?_ Fe rfl λd h hR=>?_
  .simp only[go_sem,Qe,Go.undef,e1,d1]
  obtain⟨rfl,rfl⟩:=hR;simp only[go_sem,Qe,Go.undef,e1,d1];apply Qg hb;simp only[go_sem,Qe,Go.undef,e1,d1];refine VC hb [] o9 rfl ?_ An rfl λd h hR=>?_
  .simp only[go_sem,Qe]
  obtain⟨rfl,rfl⟩:=hR;simp only[go_sem,Qe];exact Bk hb
 have d1:=QI (show ¬(x.ops.length:Int)<1 from ω);have B3:0<x.ops.length:=ω;refine VC hb [] Gb rfl ?_ hF rfl λd h hR=>?_
 .simp only[go_sem,Qe,Go.undef]
 obtain⟨rfl,rfl⟩:=hR;simp only[go_sem,Qe,Go.undef];apply Qg hb;simp only[go_sem,Qe,Go.undef];refine VC hb [] Ni rfl ?_ hM rfl λd h hR=>?_
 .simp only[go_sem,Qe,Go.undef]
 obtain⟨rfl,rfl⟩:=hR;simp only[go_sem,Qe,Go.undef];apply Qg hb;simp only[go_sem,Qe,Go.undef];refine VC hb [] Qnn rfl ?_ Fe rfl λd h hR=>?_
 .simp only[go_sem,Qe,Go.undef,e1,d1]
 obtain⟨rfl,rfl⟩:=hR;simp only[go_sem,Qe,Go.undef,e1,d1];apply Qg hb;simp only[go_sem,Qe,Go.undef,e1,d1];have hN:=Qz8 (own:=λ_=>.no) (tw:=λ_=>.my) (λ_ _=>rfl) [(⟨.one,0,3,1,λ_=>x.cells⟩:Ob)] K;refine cH1 hb QpM hN λd h1 hR=>?_;obtain⟨Jl,Vr,p,rfl,T1,K1⟩:=hR;have X0:=p9.start (S0':=S0 x.config) T1 K1;have Xz:=X0.hx;have LI:=Qb Xz;obtain⟨o0,ho0⟩:∃o,o=x.ops.getD 0 default:=⟨_,rfl⟩;have QnA:o0∈x.ops:=by rw[ho0];exact qg x.ops default 0 B3
 have hDo:=QzX X0.T X0.V X0.C (BQ _) o0 (ZM o0 QnA).1 (ZM o0 QnA).2.c (ZM o0 QnA).2.r;apply Qg hb;simp only[go_sem,Qe,Xz,LI,B3,<- ho0];refine⟨ω,?_⟩;refine Zw hb QpN hDo λd h2 hR=>?_;obtain⟨dl,JW,Xd,rfl,T2,s2,K2⟩:=hR;have X1:=X0.yf (o:=o0) (ZM o0 QnA).1.2.1.2 T2 K2;have eS1:(JM (S0 x.config) o0).S=(Zn (S0 x.config) (x.ops.take 1)).1:=by rw[ho0];exact(Qll (S0 x.config) x.ops B3).symm
 obtain⟨S1,NZ⟩:∃S1,S1=(JM (S0 x.config) o0).S:=⟨_,rfl⟩;rw[<- NZ]at X1 eS1;clear T2 s2 K2 T1 K1 X0 Xz LI hN hDo;have IT:=X1.V.I.tree;have hGi:=λn (h:Qh S1.M.N i=some n)=>QAh X1.T h;have hGj:=λG n (h:Qh S1.M.N j=some n)=>QAh (X1.app G).T h;have QFZ:=λ(h:Qh S1.M.N i=none)=>QFT X1.T h;have Qoc:=λG (h:Qh S1.M.N j=none)=>QFT (X1.app G).T h;apply JH hb;cases mm:Qh S1.M.N i with
 | none=>
  refine QaX hb QpP ?_ (QFZ mm) ?_
  .simp only[go_sem,Qe,QbL]
  apply Qg hb;simp only[go_sem,Qe,QbL];cases hnj:Qh S1.M.N j with
  | none=>
   refine QaX hb QpP ?_ (Qoc _ hnj) ?_
   .simp only[go_sem,Qe,QbL,Go.undef]
   apply Qg hb;simp only[go_sem,Qe,QbL,Go.undef];refine VC hb [] o9 rfl ?_ An rfl λd h hR=>?_
   .simp only[go_sem,Qe]
   obtain⟨rfl,rfl⟩:=hR;simp only[go_sem,Qe];exact Bk hb
  | some m=>
   refine QaX hb QpP ?_ (hGj _ m hnj) ?_
   .simp only[go_sem,Qe,QbL,Go.undef]
   apply Qg hb;simp only[go_sem,Qe,QbL,Go.undef];refine VC hb [] o9 rfl ?_ An rfl λd h hR=>?_
   .simp only[go_sem,Qe]
   obtain⟨rfl,rfl⟩:=hR;simp only[go_sem,Qe];exact Bk hb
 | some n=>
 apply Gp hb QpP (hGi n mm);apply JH hb;cases hnj:Qh S1.M.N j with
 | none=>
  refine QaX hb QpP ?_ (Qoc _ hnj) ?_
  .simp only[go_sem,Qe,QbL,Go.undef]
  apply Qg hb;simp only[go_sem,Qe,QbL,Go.undef];refine VC hb [] o9 rfl ?_ An rfl λd h hR=>?_
  .simp only[go_sem,Qe]
  obtain⟨rfl,rfl⟩:=hR;simp only[go_sem,Qe];exact Bk hb
 | some m=>
 have hSi:=kY n.c;have hSj:=kY m.c;by_cases hp:n.c.parent=m.c.parent;case neg=>
  have bp:=QnP hp;refine QaX hb QpP ?_ (hGj _ m hnj) ?_
  .simp only[go_sem,Qe,Go.undef,bp]
  apply Qg hb;simp only[go_sem,Qe,Go.undef,bp];refine VC hb [] o9 rfl ?_ An rfl λd h hR=>?_
  .simp only[go_sem,Qe]
  obtain⟨rfl,rfl⟩:=hR;simp only[go_sem,Qe];exact Bk hb
 have bp:=QrB hp;refine QaX hb QpP ?_ (hGj _ m hnj) ?_
 .simp only[go_sem,Qe,Go.undef,bp]
 apply Qg hb;simp only[go_sem,Qe,Go.undef,bp];by_cases s1:1<QR n.c.ls;case neg=>
  rw[QI s1]at hSi;refine cT hb kX ?_ hSi ?_
  .simp only[go_sem,Qe,Go.undef]
  apply Qg hb;simp only[go_sem,Qe,Go.undef];refine VC hb [] o9 rfl ?_ An rfl λd h hR=>?_
  .simp only[go_sem,Qe]
  obtain⟨rfl,rfl⟩:=hR;simp only[go_sem,Qe];exact Bk hb
 rw[QU s1]at hSi;refine cT hb kX ?_ hSi ?_
 .simp only[go_sem,Qe,Go.undef]
 apply Qg hb;simp only[go_sem,Qe,Go.undef];by_cases s2:1<QR m.c.ls;case neg=>
  rw[QI s2]at hSj;refine cT hb kX ?_ hSj ?_
  .simp only[go_sem,Qe,Go.undef]
  apply Qg hb;simp only[go_sem,Qe,Go.undef];refine VC hb [] o9 rfl ?_ An rfl λd h hR=>?_
  .simp only[go_sem,Qe]
  obtain⟨rfl,rfl⟩:=hR;simp only[go_sem,Qe];exact Bk hb
 rw[QU s2]at hSj;refine cT hb kX ?_ hSj ?_
 .simp only[go_sem,Qe,Go.undef]
 apply Qg hb;simp only[go_sem,Qe,Go.undef];have X2:=X1.app [QAg n (JV S1.M i) (Wm S1.M i n),QAg m (JV S1.M j) (Wm S1.M j m)];have hL:=QMZ X2.T n.c.parent;refine cH1 hb QJ6 hL λd h3 hR=>?_;obtain⟨rfl,g3,rfl⟩:=hR;obtain⟨low,MM⟩:∃low,low=Tc S1.M.T n.c.parent:=⟨_,rfl⟩;rw[<- MM];by_cases ql:low=0
 .have b0:=qN (show ((low:Nat):Int)=0 from ω);apply Qg hb;simp only[go_sem,Qe,b0];refine VC hb [] o9 rfl ?_ An rfl λd h hR=>?_
  .simp only[go_sem,Qe]
  obtain⟨rfl,rfl⟩:=hR;simp only[go_sem,Qe];exact Bk hb
 have b0:=Xl (show ¬((low:Nat):Int)=0 from ω);have X3:=X2.app g3;have Wf:=X1.hx;have QzL:=Qb Wf;obtain⟨H3,sx⟩:∃H3,H3=h2++(⟨.one,0,67,1,λ_=>ky n (JV S1.M i) (Wm S1.M i n)⟩:Ob)::⟨.one,0,67,1,λ_=>ky m (JV S1.M j) (Wm S1.M j m)⟩::g3:=⟨_,rfl⟩;have eH3:(h2++[QAg n (JV S1.M i) (Wm S1.M i n),QAg m (JV S1.M j) (Wm S1.M j m)])++g3=H3:=by rw[sx,V9];rfl
 rw[eH3]at X3;obtain⟨oi,aV⟩:∃oi,oi=QAg n (JV S1.M i) (Wm S1.M i n):=⟨_,rfl⟩;obtain⟨oj,KM⟩:∃oj,oj=QAg m (JV S1.M j) (Wm S1.M j m):=⟨_,rfl⟩;obtain⟨pi,YF⟩:∃pi,pi=h2.length:=⟨_,rfl⟩;obtain⟨qi,hqi⟩:∃qi,qi=h2.length+1:=⟨_,rfl⟩;obtain⟨lo,Zq⟩:∃lo,lo=H3.length:=⟨_,rfl⟩;have QM5:qi=pi+1:=ω;obtain⟨y9,gD,F0⟩:∃y9 gD,FsI x i j p lo 0 0 pi qi oi oj y9 gD (H3++[(⟨.arr,0,3,0,λ_=>[]⟩:Ob)]) S1 (λ_=>[]):=by
  have Cz:H3.length=h2.length+(g3.length+1+1):=by rw[sx,ZW];rfl
  have p1:H3[pi]? = some oi:=by rw[sx,aV];exact KV YF.symm
  have p2:H3[qi]? = some oj:=by rw[sx,KM,hqi];exact VD (k:=1) rfl
  refine⟨_,_,⟨X3.app _,Zq▸Sw.new ω,Sw.app ⟨p1,?_,ω⟩ _,Sw.app ⟨p2,?_,ω⟩ _,ω,ω,λt ht=>absurd ht (WZ t)⟩⟩
  .rw[YF,Kg (by rw[ZW];show _<_+2;omega),jj (QB _),Vh (by rw[ZW];show _<_+2;omega),EW (QB _)];exact⟨rfl,rfl⟩
  .rw[hqi,Kg (by rw[ZW];show _<_+2;omega),jj ω,Vh (by rw[ZW];show _<_+2;omega),EW ω];exact⟨rfl,rfl⟩
 apply Qg hb;simp only[go_sem,Qe,b0,Wf,QzL];rw[<- sx];refine DF (Qz.Qir 14 3 (by simp only[go_sem])) ?_;simp only[go_sem];rw[<- Zq,<- YF,<- QM5];have V1:Jd S1:=X1.V;have QM6:S1.ops<=0+1:=by rw[NZ,QiC];exact QB _
 obtain⟨T,hT⟩:∃T,T=S1.M.T:=⟨_,rfl⟩;have kS:Qx T i=some n.c:=hT▸X1.V.I.some mm;have hcj:Qx T j=some m.c:=hT▸X1.V.I.some hnj;have db:∀k,k<x.ops.length->0<k->(x.ops.getD k default).kind≠1:=λk h1 h2=>still_at ZO h1 h2;have hT1:(Zn (S0 x.config) (x.ops.take 1)).1.M.T=T:=by rw[<- eS1,hT]
 rw[<- hT]at MM;have G:n8 T n.c.parent (Tc T n.c.parent):=QE2 (hT▸V1.I.tree) (hT▸V1.I.wK) (MM▸ql);have hGG:∀m' n',Tc T n.c.parent<=m'->n'<=x.config.ZX.toNat->cdiv (n'*65536) m'<=cdiv (x.config.ZX.toNat*65536) (Tc T n.c.parent):=λm' n' h1 h2=>QE4 (Qko (MM▸ql)) h1 h2;have hFa:=λb h1 h2=>Qni K hx ω db hT1 G hGG rfl b h1 h2;clear hGi hGj QFZ Qoc hL X2 X3;refine Z3 (λk s=>∃g own tw H S row,FsI x i j p lo g k pi qi oi oj own tw H S row/\S=(Zn (S0 x.config) (x.ops.take (max k 1))).1/\S.ops<=k+1/\s=⟨[(1,Qa i),(2,Qa j),(3,.ptr 0 0 0 0),(7,.ptr p 0 0 0),(9,.ptr pi 0 0 0),(11,.ptr qi 0 0 0),(13,u64 low),(14,.ref lo g 0 k),(116,.imm 10 x.ops.length (ZV.rows x.ops)),(117,Qa x.ops.length),(118,Qa k)],H⟩) x.ops.length QM ⟨_,_,_,_,_,_,F0,eS1,QM6,rfl⟩ ?_;rintro k _ hk ⟨g,own,tw,H,S,row,F,eS,G8,rfl⟩;by_cases Qj:k<x.ops.length
 .have dk:=QU Qj;have Zb:=J9 (show k<4611686018427387904 from ω);obtain⟨o,ho⟩:∃o,o=x.ops.getD k default:=⟨_,rfl⟩;have gW:o∈x.ops:=by rw[ho];exact qg x.ops default k Qj
  have F1:=F.app [⟨.one,0,10,1,λ_=>o.cells⟩];refine HU Q4 hb 18 ?_;simp only[go_sem,Qe,dk,Qj,<- ho];first|refine qa ?_|skip
  refine eN (λst=>∃own tw H S,FsI x i j p lo g k pi qi oi oj own tw H S row/\S=(Zn (S0 x.config) (x.ops.take (k+1))).1/\S.ops<=k+2/\st=⟨[(1,Qa i),(2,Qa j),(3,.ptr 0 0 0 0),(7,.ptr p 0 0 0),(9,.ptr pi 0 0 0),(11,.ptr qi 0 0 0),(13,u64 low),(14,.ref lo g 0 k),(116,.imm 10 x.ops.length (ZV.rows x.ops)),(117,Qa x.ops.length),(118,Qa k)],H⟩) ?_ ?_
  .by_cases k0:0<k
   .have d0:=QU (show (0:Int)<k from ω);have hDo:=QzX F1.X.T F1.X.V F1.X.C ω o (ZM o gW).1 (ZM o gW).2.c (ZM o gW).2.r;apply Qg hb;simp only[go_sem,Qe,d0];refine cH1 hb QpN hDo λd h2 hR=>?_;obtain⟨dl,JW,Xd,rfl,T2,s2,K2⟩:=hR;have F2:=F1.yf (o:=o) (ZM o gW).1.2.1.2 T2 K2;have eS2:(JM S o).S=(Zn (S0 x.config) (x.ops.take (k+1))).1:=by
     rw[Qll (S0 x.config) x.ops Qj,<- ho,eS,Nat.max_eq_left k0]
    have QOS:=QiC S o;apply JH hb;exact⟨_,⟨_,_,_,_,F2,eS2,ω,rfl⟩,QM⟩
   .have d0:=QI (show ¬(0:Int)<k from ω);obtain rfl:k=0:=ω;apply Qg hb;simp only[go_sem,Qe,d0];exact⟨_,⟨_,_,_,_,F1,eS,ω,rfl⟩,QM⟩
  clear F F1 eS G8;rintro _ ⟨own,tw,H,S,F,eS,G8,rfl⟩;obtain⟨Tb,Fb,_,_⟩:=hFa (k+1) ω Qj;rw[<- eS]at Tb Fb;obtain⟨n',hn',en'⟩:=Tb.I.Lb (by rw[Fb.T_];exact kS);obtain⟨m',Mp,em'⟩:=Tb.I.Lb (by rw[Fb.T_];exact hcj);have hGi:=QAh F.X.T hn';have hGj:=λG=>QAh (F.app G).X.T Mp;have F2:=F.app [QAg n' (JV S.M i) (Wm S.M i n'),QAg m' (JV S.M j) (Wm S.M j m')];have TY:=F.A.at_;have QBH:=Qb TY;have F3:=F2.put (r:=λ_=>Qnk S.M i j) eS rfl;have emo:Qnk S.M i j=[QT (JV S.M i&&JV S.M j),u64 n'.QO,u64 m'.QO]:=by unfold Qnk r6;rw[hn',Mp]
  rw[emo]at F3;apply JH hb;apply Gp hb QpP hGi;apply JH hb;cases ha1:JV S.M i<;>cases CL:JV S.M j;all_goals (
   rw[ha1,CL]at F3;have hGj:=hGj [QAg n' (JV S.M i) (Wm S.M i n')];rw[ha1,CL]at hGj;apply Gp hb QpP hGj;apply Qg hb;simp only[go_sem,Qe,TY,QBH,Go.undef];have F4:=(F.put (r:=λ_=>[QT (JV S.M i&&JV S.M j),u64 n'.QO,u64 m'.QO]) eS emo.symm).app [QAg n' (JV S.M i) (Wm S.M i n'),QAg m' (JV S.M j) (Wm S.M j m'),⟨.arr,0,3,1,λ_=>[QT (JV S.M i&&JV S.M j),u64 n'.QO,u64 m'.QO]⟩];rw[ha1,CL]at F4;exact⟨ω,Qj,_,Qz.frame (by simp only[go_sem,Zb]),_,_,_,_,_,_,F4,by rw[Nat.max_eq_left ω];exact eS,G8,rfl⟩)
 .obtain rfl:k=x.ops.length:=ω;have dk:=QI Qj;obtain⟨N,hN⟩:∃N,N=x.ops.length:=⟨_,rfl⟩;have TY:=F.A.at_;have QBH:=Qb TY;have QlE:=F.I.at_;have QnF:=Qb QlE;have QlF:=F.J.at_;have QnG:=Qb QlF;rw[aV]at QlE;rw[KM]at QlF;have hx4:=F.X.hx;have QnH:=Qb hx4;obtain⟨xQ,QOT⟩:=(J6 (hT▸V1.I.tree).rising).1 kS;obtain⟨QGG,QOU⟩:=(J6 (hT▸V1.I.tree).rising).1 hcj;have KT:kb T:=hT▸V1.I.wK;obtain⟨mi,hmi⟩:∃a:Nat,n.c.ls.m2=a:=⟨n.c.ls.m2.toNat,by have:=(KT _ xQ).nn.2.1.2.2;omega⟩;obtain⟨mj,hmj⟩:∃a:Nat,m.c.ls.m2=a:=⟨m.c.ls.m2.toNat,by have:=(KT _ QGG).nn.2.1.2.2;omega⟩;have li:=G.eR _ xQ rfl s1;have lj:=G.eR _ QGG hp.symm s2;have ei:(Je n.c.ls).b=mi:=by show n.c.ls.m2.toNat=mi;omega
  have ej:(Je m.c.ls).b=mj:=by show m.c.ls.m2.toNat=mj;omega
  have l0:=G.l0;rw[<- MM]at li lj l0;have bi:=li.2.2.b;have bj:=lj.2.2.b;rw[ei]at li bi;rw[ej]at lj bj;have ZG:=F.rows;obtain⟨on,A,B,ZG,QM8⟩:∃(on:Nat->Bool) (A B:Nat->Nat),(∀t,t<N->row t=[QT (on t),u64 (A t),u64 (B t)]) /\
    ∀a b,a<=b->b<N->(∀q,a<=q->q<=b->on q=true)->A a<=A b/\B a<=B b/\A b<=16777216/\B b<=16777216/\oR mi (A b - A a) mj (B b - B a) low x.config.ZX=true:=by
   refine⟨λt=>JV (Zn (S0 x.config) (x.ops.take (t+1))).1.M i&&JV (Zn (S0 x.config) (x.ops.take (t+1))).1.M j,λt=>r6 (Zn (S0 x.config) (x.ops.take (t+1))).1.M i,λt=>r6 (Zn (S0 x.config) (x.ops.take (t+1))).1.M j,λt ht=>ZG t ω,λa b Vu hbN xv=>?_⟩;have on1:∀q,a+1<=q->q<=b+1->JV (Zn (S0 x.config) (x.ops.take q)).1.M i=true:=λq h1 h2=>by
    have h3:=xv (q - 1) ω ω;dsimp only at h3;rw[show q - 1+1=q by omega]at h3;simp only[Zy]at h3;exact h3.1
   have on2:∀q,a+1<=q->q<=b+1->JV (Zn (S0 x.config) (x.ops.take q)).1.M j=true:=λq h1 h2=>by
    have h3:=xv (q - 1) ω ω;dsimp only at h3;rw[show q - 1+1=q by omega]at h3;simp only[Zy]at h3;exact h3.2
   have hL1:Tc T n.c.parent≠0:=by rw[<- MM];exact ql
   obtain⟨n1,m1,n2,m2,f1,f2,f3,f4,_,_,_,_,g1,g2,g3,g4,g5⟩:=QE5 K hx ω db hT1 kS hcj hp.symm s2 hL1 (a:=a+1) (b:=b+1) ω ω ω on1;obtain⟨n1',m1',n2',m2',f1',f2',f3',f4',_,_,_,_,_,_,_,_,g5'⟩:=QE5 K hx ω db hT1 hcj kS hp s1 (by rw[<- hp];exact hL1) (a:=a+1) (b:=b+1) ω ω ω on2;have e1:n1'=m1:=by rw[f2]at f1';exact(Mf f1').symm
   have e2:m1'=n1:=by rw[f1]at f2';exact(Mf f2').symm
   have e3:n2'=m2:=by rw[f4]at f3';exact(Mf f3').symm
   have e4:m2'=n2:=by rw[f3]at f4';exact(Mf f4').symm
   subst e1 e2 e3 e4;have t1:r6 (Zn (S0 x.config) (x.ops.take (a+1))).1.M i=m1'.QO:=by unfold r6;rw[f1]
   have t2:r6 (Zn (S0 x.config) (x.ops.take (a+1))).1.M j=n1'.QO:=by unfold r6;rw[f2]
   have t3:r6 (Zn (S0 x.config) (x.ops.take (b+1))).1.M i=m2'.QO:=by unfold r6;rw[f3]
   have t4:r6 (Zn (S0 x.config) (x.ops.take (b+1))).1.M j=n2'.QO:=by unfold r6;rw[f4]
   dsimp only;rw[t1,t2,t3,t4];have q1:n.c.ls.m2.toNat=mi:=ω;have q2:m.c.ls.m2.toNat=mj:=ω;rw[q1,q2,<- MM]at g5;rw[q1,q2,<- hp,<- MM]at g5';exact⟨g1,g2,ω,ω,QM2 K ω bi ω bj ω ω ω ω g5 g5'⟩
  have QNb:mi<18446744073709551616:=ω;have QNc:mj<18446744073709551616:=ω;have QNd:low<18446744073709551616:=ω;rw[<- hN]at TY dk ⊢;have hNl:N<=200:=ω;clear F hFa G hGG;apply Qg hb;simp only[go_sem,Qe,dk];apply JH hb;refine Z3 (λa s=>∃G,s=⟨[(3,.ptr 0 0 0 0),(9,.ptr pi 0 0 0),(11,.ptr qi 0 0 0),(13,u64 low),(14,.ref lo g 0 N),(161,.ref lo g 0 N),(162,Qa N),(163,Qa a)],H++G⟩) N (s0:=⟨[(3,.ptr 0 0 0 0),(9,.ptr pi 0 0 0),(11,.ptr qi 0 0 0),(13,u64 low),(14,.ref lo g 0 N),(161,.ref lo g 0 N),(162,Qa N),(163,Qa 0)],H⟩) QM ⟨[],by rw[JI];rfl⟩ ?_;rintro a _ ha ⟨G,rfl⟩;by_cases ha1:a<N
  .have da:=QU ha1;have hwa:=J9 (show a<4611686018427387904 from ω);have TN:=ZG a ha1;apply Qg hb;simp only[go_sem,Qe,da,ha1,TY,QBH,TN];refine⟨ω,?_⟩;have hz:((N:Int) - (a:Int)).toNat=N - a:=ω;rw[hz];refine Z3 (λt s=>∃G',s=⟨[(3,.ptr 0 0 0 0),(9,.ptr pi 0 0 0),(11,.ptr qi 0 0 0),(13,u64 low),(14,.ref lo g 0 N),(161,.ref lo g 0 N),(162,Qa N),(163,Qa a),(22,.ptr (H.length+G.length) 0 0 0),(170,.ref lo g a (N - a)),(171,Qa ((N - a:Nat):Int)),(172,Qa t)],H++(G++(moO (on a) (A a) (B a)::G'))⟩/\∀q,a<=q->q<a+t->on q=true) (N - a) (s0:=⟨[(3,.ptr 0 0 0 0),(9,.ptr pi 0 0 0),(11,.ptr qi 0 0 0),(13,u64 low),(14,.ref lo g 0 N),(161,.ref lo g 0 N),(162,Qa N),(163,Qa a),(22,.ptr (H.length+G.length) 0 0 0),(170,.ref lo g a (N - a)),(171,Qa ((N - a:Nat):Int)),(172,Qa 0)],H++(G++[moO (on a) (A a) (B a)])⟩) QM ⟨[],rfl,λq h1 h2=>absurd h2 ω⟩ ?_;rintro t _ ht ⟨G',rfl,Kj⟩;by_cases ht1:t<N - a
   .have dt:=QU ht1;have hwt:=J9 (show t<4611686018427387904 from ω);have Sy:=ZG (a+t) ω;cases o1:on a with
    | false=>
     apply Qg hb;simp only[go_sem,Qe,dt,ht1,TY,QBH,Sy,o1];refine⟨ω,?_⟩;apply Qg hb;simp only[go_sem,Qe,o1];exact⟨ha1,_,Qz.frame (by simp only[go_sem,hwa]),_,rfl⟩
    | true=>
    cases o2:on (a+t) with
    | false=>
     apply Qg hb;simp only[go_sem,Qe,dt,ht1,TY,QBH,Sy,o1,o2];refine⟨ω,?_⟩;apply Qg hb;simp only[go_sem,Qe,o1,o2];exact⟨ha1,_,Qz.frame (by simp only[go_sem,hwa]),_,rfl⟩
    | true=>
    have Qbn:∀q,a<=q->q<=a+t->on q=true:=λq h1 h2=>by
     by_cases h:q=a+t
     .rw[h];exact o2
     .exact Kj q h1 ω
    obtain⟨w1,w2,w3,w4,w5⟩:=QM8 a (a+t) ω ω Qbn;have x1:IntKind.u64.wrap (((A (a+t):Nat):Int) - ((A a:Nat):Int))=((A (a+t) - A a:Nat):Int):=η;have x2:IntKind.u64.wrap (((B (a+t):Nat):Int) - ((B a:Nat):Int))=((B (a+t) - B a:Nat):Int):=η;have Ff:=Qn8 mi (A (a+t) - A a) mj (B (a+t) - B a) x.config.ZX low QNb QNc ω ω QNd;rw[w5]at Ff;apply Qg hb;simp only[go_sem,Qe,dt,ht1,TY,QBH,Sy,o1,o2,x1,x2,QlE,QnF,QlF,QnG,hmi,hmj,hx4,QnH];refine⟨ω,?_⟩;apply Qg hb;simp only[go_sem,Qe,o1,o2,x1,x2,QlE,QnF,QlF,QnG,hmi,hmj,hx4,QnH];refine cT hb QnL ?_ Ff ?_
    .simp only[go_sem,Qe,x1,x2,QlE,QnF,QlF,QnG,hmi,hmj,hx4,QnH]
    apply Qg hb;simp only[go_sem,Qe,x1,x2,QlE,QnF,QlF,QnG,hmi,hmj,hx4,QnH];rw[<- o1];exact⟨ht1,_,Qz.frame (by simp only[go_sem,hwt]),_,rfl,λq h1 h2=>(Qbn q h1 ω).trans o1.symm⟩
   .obtain rfl:t=N - a:=ω;have dt:=QI ht1;apply Qg hb;simp only[go_sem,Qe,dt];apply JH hb;exact⟨ha1,_,Qz.frame (by simp only[go_sem,hwa]),_,rfl⟩
  .obtain rfl:a=N:=ω;have da:=QI ha1;apply Qg hb;simp only[go_sem,Qe,da];apply JH hb;refine VC hb [] o9 rfl ?_ An rfl λd h hR=>?_
   .simp only[go_sem,Qe]
   obtain⟨rfl,rfl⟩:=hR;simp only[go_sem,Qe];exact Bk hb
end Go.Fg.X
namespace Go.Fg.X
open Go.Proofs Go.Fg Go.Proofs.YtkfemlhbbcojnaaGreat
open Go.ChangeShapes Go.RowKit
open Go.Proofs.Tryz
def QNf:laidOutB prog=true:=τ
def QNg:mapsRowed prog=true:=τ
def QNh:prog.stopsHeard=true:=τ
def QNi:prog.mayEnter=true:=τ
def QNj:(Rows.fairSharesRow.lifted==prog.liftsFinal)=true:=τ
def QNk:(prog.make==some Rows.fairSharesRow.make)=true:=τ
end Go.Fg.X
namespace Go.Fg.X
open Go.Proofs Go.Fg Go.Proofs.YtkfemlhbbcojnaaGreat
open Go.ChangeShapes Go.WideShapes Go.ChangeAt Go.RowKit
open Go.Proofs.Tryz
def QNl:ownKnob prog.godebug=none:=τ
def Qoe:laidOutB prog=true:=τ
def QNm(os:Os)(started:os.Started)(H:Type)(enc:TypeId × Value->H):
  ReturnsInHanded {} checked os 8 .any (Rows.fairSharesSpec.pre6 enc prog f8 Rows.fairSharesRow.domain false) (Rows.fairSharesSpec.post enc prog f8 false true false false):=by
 refine returnsInHanded_of_change (C:=checked) QNl started τ func8
  (ChangeSpec.witness6 (enc:=enc) (C:=checked) false ⟨#[],#[.agg #[.int .i64 0,.int .i64 0,.slice none 0 0],.int .i64 0,.int .i64 0],[]⟩ 12 τ τ τ τ) ?_
 intro W base args ds gs before Uf hW QBW _;have O5:∀(j:Nat) t v,f8.params[j]? = some t->args[j]? = some v->Value.okWide prog W .any base t v:=Uf;have uR:=hW;obtain⟨p,q,Ug,hV,rfl,Cu,ZU⟩:=hW;have hA:DataW.TrodAll enc prog W 0 (λ_=>true) true f8.params.toList args.toList ds p:=Ug;rw[params8]at hA O5;obtain⟨v0,vs0,d0,ds0,p0,q0,Rs,rfl,rfl,h0,r0⟩:=trodAll_cons hA;obtain⟨v1,vs1,d1,ds1,p1,q1,rfl,rfl,rfl,h1,r1⟩:=trodAll_cons r0;obtain⟨v2,vs2,d2,ds2,p2,q2,rfl,rfl,rfl,h2,r2⟩:=trodAll_cons r1;obtain⟨rfl,rfl,rfl⟩:=trodAll_nil r2;obtain rfl:args=#[v0,v1,v2]:=by cases args;simp_all
 obtain⟨rfl,rfl⟩:=trodVars_none hV;obtain⟨uS,rfl,_⟩:=okWide_struct underlying26 (O5 0 26 v0 rfl rfl);obtain⟨n1,rfl⟩:=okWide_int underlying3 (O5 1 3 v1 rfl rfl);obtain⟨n2,rfl⟩:=okWide_int underlying3 (O5 2 3 v2 rfl rfl);have t0:=h0;have uT:∀x∈p0,x.block<W.heap.size:=by obtain⟨m,hm⟩:=t0;exact DataW.trod_lt m _ _ _ hm
 have t1:=h1;have lt1:∀x∈p1,x.block<W.heap.size:=by obtain⟨m,hm⟩:=t1;exact DataW.trod_lt m _ _ _ hm
 have t2:=h2;have lt2:∀x∈p2,x.block<W.heap.size:=by obtain⟨m,hm⟩:=t2;exact DataW.trod_lt m _ _ _ hm
 obtain⟨x0,k0,c0⟩:=Rd.many QdW h0;obtain⟨x1,k1,c1⟩:=Rd.one (Rd.int .i64 underlying3) h1 (Qrt _ _);obtain⟨x2,k2,c2⟩:=Rd.one (Rd.int .i64 underlying3) h2 (Qrt _ _);clear Ug Uf;have walk:Calls prog 8 #[.agg uS,.int .i64 n1,.int .i64 n2] W λe W'=>e=.returned (.bool true)/\Below W.heap.size W W':=QdV (QM3 x0 x1 x2 k0.2.1.2) W [_,_,_] rfl (λi hi=>match i,hi with
  | 0,_=>c0
  | 1,_=>c1
  | 2,_=>c2)
 refine walk.mono λe W' ⟨he,Yj⟩=>?_;subst he;exact⟨_,rfl,_,_,_,[],_,[],uR,trodAll_mk1 (shut_bool underlying4 _),(trodAll_cons_mk (Below.trod Qoe τ (X8 τ) t0 Yj uT) (trodAll_cons_mk (Below.trod Qoe τ (X8 τ) t1 Yj lt1) (trodAll_cons_mk (Below.trod Qoe τ (X8 τ) t2 Yj lt2) trodAll_mk0))),rfl,Yj.frame _,λh=>by cases h⟩
def jn{a b}(ha:a=true)(hb:b=true):(a&&b)=true:=by rw[ha,hb];rfl
def QNp:(Rows.fairSharesRow.inPlace==prog.inPlace 8)=true:=τ
def QNq:(Rows.fairSharesRow.unfollowed==prog.unfollowed 8)=true:=τ
def QNr:(Rows.fairSharesRow.recurses==prog.recurses 8)=true:=τ
def QNs:(Rows.fairSharesRow.named==prog.varsNamed 8)=true:=τ
def QNt:(Rows.fairSharesRow.maps==(f8.params.toList++Rows.fairSharesSpec.plain.varTypes prog).any (prog.mapsRec ·))=true:=τ
def QNu:(Rows.fairSharesRow.ifaces==(f8.params.toList++Rows.fairSharesSpec.plain.varTypes prog).any (prog.ifacesRec ·))=true:=τ
def QNv:(Rows.fairSharesRow.loops==(f8.params.toList++Rows.fairSharesSpec.plain.varTypes prog).any (prog.loopsFrom ·))=true:=τ
def QNw:joinedFacts prog 8 f8 Rows.fairSharesSpec Rows.fairSharesRow=true:=by
 unfold joinedFacts;refine(jn (jn (jn (jn (jn (jn (jn (jn (jn (jn (jn (jn (jn (jn (jn (jn (jn (jn (jn (jn (jn (jn (jn (jn (jn (jn (jn (jn (jn (jn (jn ?_ QNf) QNg) ?_) ?_) ?_) ?_) ?_) ?_) QNp) QNq) QNr) QNs) QNt) QNu) ?_) QNv) ?_) ?_) ?_) ?_) ?_) ?_) ?_) QNh) QNi) QNj) QNk) ?_) ?_) ?_) ?_);all_goals kernel_rfl
def QNx:prog.funcNamed Rows.fairSharesRow.func=some 8:=τ
theorem provedFairShares:Rows.FairSharesSaid:=
 OpenClaim.holds_of_wide 8 f8 rfl rfl rfl rfl rfl rfl rfl ⟨rfl,rfl,rfl,rfl,rfl⟩ rfl rfl rfl rfl rfl QNx func8 QNw
  (X8 τ) (by unfold Func.isWrapper;first|(rw[Qd (by decide +kernel)];kernel_rfl)|(rw[Qc (by decide +kernel)];exact⟨rfl,rfl⟩))
  (λos started H enc _=>QNm os started H enc)
end Go.Fg.X
namespace Go.Proofs.YtkfemlhbbcojnaaGreat
theorem fairShares_done: Rows.FairSharesSaid := Go.Fg.X.provedFairShares
end Go.Proofs.YtkfemlhbbcojnaaGreat
