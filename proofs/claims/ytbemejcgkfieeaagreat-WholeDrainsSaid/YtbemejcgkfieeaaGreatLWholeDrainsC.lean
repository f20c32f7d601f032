/- The statement WholeDrains is proved. No conditions. -/
import Derived.Test.YtbemejcgkfieeaaGreatLKpC
import Derived.Test.YtbemejcgkfieeaaGreatCA2C
import Derived.Test.YtbemejcgkfieeaaGreatRows
set_option maxRecDepth 100000
set_option maxHeartbeats 16000000
set_option linter.unusedVariables false
set_option linter.unusedSimpArgs false
set_option linter.unusedSectionVars false
set_option linter.defProp false
namespace Go.Fg.X
open Go.Proofs Go.Fg
open Go.Proofs.Tryz
def Qbt(a:Nat):Nat->List D:=λ_=>[.raw (.int .i64 4),.nil,.nil,.raw (.int .u64 0),.raw (.int .i64 0),.raw (.int .u16 0),.raw (.int .u16 0),.raw (.int .u16 0),.raw (.int .u16 0),.raw (.int .u64 a)]
def Qmi(l:List Zd)(a){i}(b:i<l.length):JC l.length 0 (JC 0 0 (λ_=>[]) (Zd.rows l)) (Qbt a) i=Zd.rows l i:=by
 rw[AD b,kS (Jj _),JR,EJ]
def QD9(l:List Zd)(a)(i:Nat)(b:i<l.length+1):(JC l.length 0 (JC 0 0 (λ_=>[]) (Zd.rows l)) (Qbt a) i).all D.XO=true:=by
 by_cases h:i<l.length
 .rw[Qmi l a h];rfl
 .rw[kS ω];rfl
def QEa(l:List Zd)(a)(i)(b:i<l.length+1):qW (JD 4) (JC l.length 0 (JC 0 0 (λ_=>[]) (Zd.rows l)) (Qbt a) i) (Zd.rows (l++[zA a]) i):=by
 by_cases h:i<l.length
 .have e:Zd.rows (l++[zA a]) i=Zd.rows l i:=by
   rw[Zd.j4,Zd.j4,QY,JO h,QY]
  rw[Qmi l a h,e];exact vm (qX _) _
 .have e:Zd.rows (l++[zA a]) i=(zA a).cells:=by
   rw[Zd.j4,QY,Kh ω,show i - l.length=0 by omega];rfl
  rw[kS ω,e];exact⟨rfl,rfl,rfl,rfl,rfl,rfl,rfl,rfl,rfl,rfl,trivial⟩
def QEb(E:List Ev){k}(a:k<E.length):KZ (E.take (k+1))=KZ (E.take k)+ED (E.getD k default):=by
 have e:E.take (k+1)=E.take k++[E.getD k default]:=by
  rw[zD,QG a,QY,QG a];rfl
 rw[e,aQ];show _=_;simp only[KZ,Int.add_zero]
def Qmj:∀E:List Ev,(∀e∈E,0<=e.len/\e.len<=16384)->KZ E<=(E.length:Int)*16384
 | [],_=>by simp[KZ]
 | e::E,h=>by
  have c:=h e Kx;have b:=Qmj E λx hx=>h x (Ki _ hx);have a:ED e<=16384:=by unfold ED;split<;>omega
  rw[KZ,Vo];omega
def QEc(x:WU)(l:Int)(a1:x.ops.length<=maxLen)(r:∀a∈x.ops,Zd.Ok a)(hm:(Lit.int .u64 l).wf=true):QI prog 5 [.agg x.cells,.raw (.int .u64 l)] (QO (QX true)):=by
 have s:=QDW x a1 r;have y:=QDJ x 100 π;have M:=QDX;cases O:(MY x.config&&BD x 100) with
 | false=>
  rw[O]at y;refine QZ 0 func5 ntmps5 results5 λp w b=>?_;simp only[go_sem];refine Va b [] SO rfl ?_ s rfl λd h c=>?_
  .simp only[go_sem,Qa,Go.undef]
  obtain⟨rfl,rfl⟩:=c;simp only[go_sem,Qa,Go.undef];apply Qf b;simp only[go_sem,Qa,Go.undef];refine Va b [] SQ rfl ?_ y rfl λd h c=>?_
  .simp only[go_sem,Qa,Go.undef]
  obtain⟨rfl,rfl⟩:=c;simp only[go_sem,Qa,Go.undef];apply Qf b;simp only[go_sem,Qa,Go.undef];refine Va b [] OD rfl ?_ M rfl λd h c=>?_
  .simp only[go_sem,Qa]
  obtain⟨rfl,rfl⟩:=c;simp only[go_sem,Qa];exact Hm b
 | true=>
 rw[O]at y;rw[ZL]at O;cases S9:Ai x with
 | false=>
  rw[S9]at s;refine QZ 0 func5 ntmps5 results5 λp w b=>?_;simp only[go_sem];refine Va b [] SO rfl ?_ s rfl λd h c=>?_
  .simp only[go_sem,Qa,Go.undef]
  obtain⟨rfl,rfl⟩:=c;simp only[go_sem,Qa,Go.undef];apply Qf b;simp only[go_sem,Qa,Go.undef];refine Va b [] SQ rfl ?_ y rfl λd h c=>?_
  .simp only[go_sem,Qa,Go.undef]
  obtain⟨rfl,rfl⟩:=c;simp only[go_sem,Qa,Go.undef];apply Qf b;simp only[go_sem,Qa,Go.undef];refine Va b [] OD rfl ?_ M rfl λd h c=>?_
  .simp only[go_sem,Qa]
  obtain⟨rfl,rfl⟩:=c;simp only[go_sem,Qa];exact Hm b
 | true=>
 rw[S9]at s;have K:=QBn.1 O.1;obtain⟨a6,Jf⟩:=QC1 O.2 r;obtain⟨T,hT,IL,IT,Kl,Za,h0,a3⟩:=QDZ K r S9;rw[hT]at s;have uY:=IT.len;have Q:=QDM T ω IL.nn;cases Zb:T.all qO with
 | false=>
  rw[Zb]at Q;refine QZ 0 func5 ntmps5 results5 λp w b=>?_;simp only[go_sem];refine Va b [] SO rfl ?_ s rfl λd h c=>?_
  .simp only[go_sem,Qa,Go.undef]
  obtain⟨rfl,rfl⟩:=c;simp only[go_sem,Qa,Go.undef];apply Qf b;simp only[go_sem,Qa,Go.undef];refine Va b [] SQ rfl ?_ y rfl λd h c=>?_
  .simp only[go_sem,Qa,Go.undef]
  obtain⟨rfl,rfl⟩:=c;simp only[go_sem,Qa,Go.undef];apply Qf b;simp only[go_sem,Qa,Go.undef];refine Va b [] oM rfl ?_ Q rfl λd h c=>?_
  .simp only[go_sem,Qa,Go.undef]
  obtain⟨rfl,rfl⟩:=c;simp only[go_sem,Qa,Go.undef];apply Qf b;simp only[go_sem,Qa,Go.undef];refine Va b [] OD rfl ?_ M rfl λd h c=>?_
  .simp only[go_sem,Qa]
  obtain⟨rfl,rfl⟩:=c;simp only[go_sem,Qa];exact Hm b
 | true=>
 rw[Zb]at Q;by_cases m1:(1152921504606846976:Int)<l
 .have d1:=QT m1;refine QZ 0 func5 ntmps5 results5 λp w b=>?_;simp only[go_sem];refine Va b [] SO rfl ?_ s rfl λd h c=>?_
  .simp only[go_sem,Qa,Go.undef]
  obtain⟨rfl,rfl⟩:=c;simp only[go_sem,Qa,Go.undef];apply Qf b;simp only[go_sem,Qa,Go.undef];refine Va b [] SQ rfl ?_ y rfl λd h c=>?_
  .simp only[go_sem,Qa,Go.undef]
  obtain⟨rfl,rfl⟩:=c;simp only[go_sem,Qa,Go.undef];apply Qf b;simp only[go_sem,Qa,Go.undef];refine Va b [] oM rfl ?_ Q rfl λd h c=>?_
  .simp only[go_sem,Qa,Go.undef,d1]
  obtain⟨rfl,rfl⟩:=c;simp only[go_sem,Qa,Go.undef,d1];apply Qf b;simp only[go_sem,Qa,Go.undef,d1];refine Va b [] OD rfl ?_ M rfl λd h c=>?_
  .simp only[go_sem,Qa]
  obtain⟨rfl,rfl⟩:=c;simp only[go_sem,Qa];exact Hm b
 have d1:=QH m1;have hP:=QDI.1 Zb;obtain⟨n,rfl⟩:∃t:Nat,l=t:=⟨l.toNat,by have:=wf_u64 hm;omega⟩;have a0:=Qa4 x K ω Jf;have lE:(ZH (S0 x.config) x.ops).2.2.length<100000000:=Qlw (x:=x) (m:=100) K a6 π r;have Z:=QDU K x.ops r;have k1:=K.t1;have k2:=K.t2;have k3:=K.l2;have PC:=Qmb Za;have iS:=a3 1 ω ω;have W:=Qbh K r Za (iS.symm▸hP) x.ops.length (QB _) h0;rw[Wc]at W;obtain⟨hV,_,wW⟩:=W;have mF:=QD4 K x.ops PC (λo u=>(r o u).2.1.2);have hC:=QDL x x.ops.length ω (QB _) r;have a5:(ZH (S0 x.config) x.ops).1.Qh=(x.ops.take x.ops.length).foldl ji 0:=by rw[Wc];exact Ql2 _ _
 rw[<- a5]at hC;have Zx:=hV.cl;have zM:=hV.un;have uA:(ZH (S0 x.config) x.ops).1.M.lk.t=x.config.t:=by rw[Qmh];rfl
 obtain⟨S,hS⟩:∃S,S=(ZH (S0 x.config) x.ops).1:=⟨_,rfl⟩;obtain⟨E,hE⟩:∃E,E=(ZH (S0 x.config) x.ops).2.2:=⟨_,rfl⟩;obtain⟨R,c⟩:∃R,R=(ZH (S0 x.config) x.ops).2.1:=⟨_,rfl⟩;have dl:=λ(o:Zd) (u:Zd.Ok o) (hk:o.kind=4) (f:Nat) (ht:o.KM.toNat=f)=>QD5 K r Za (iS.symm▸hP) h0 o u hk ht;rw[<- hS]at wW mF hC Zx zM uA dl;rw[<- hE]at wW mF lE Z;rw[<- hE,<- c]at a0;have MF:∀e∈E,0<=e.len/\e.len<=16384:=λe L=>by
  obtain⟨i,J,rfl⟩:=xl L;have h:=(Z i J).2.2;rw[QY,QG J]at h;have h1:1<=(E[i]).len:=h.1;have h2:(E[i]).len<=x.config.JI:=h.2.1;omega
 have rY:=Qmj E MF;rw[<- mF]at rY;have Y:=QlB E E.length ω;rw[QlG E E.length (QB _),Qbi,wW.u]at Y;obtain⟨g,z⟩:∃t:Nat,x.config.t=t:=⟨x.config.t.toNat,ω⟩;have EW:VL S.M*g<=1638400000000*65536:=Ys ω ω;obtain⟨q,B⟩:∃q,q=VL S.M*g:=⟨_,rfl⟩;rw[<- B]at EW;have wt:IntKind.u64.wrap (g:Int)=(g:Int):=η;have z0:(((n:Int)+KZ (E.take 0)*g) % 18446744073709551616)=(n:Int):=by
  rw[List.take_zero,KZ,Int.zero_mul];omega
 have z1:(n:Int)=((n:Int)+KZ []*g) % 18446744073709551616:=by
  rw[KZ,Int.zero_mul];omega
 have w2:((n:Int)+KZ E*g) % 18446744073709551616=((q+n:Nat):Int):=by
  rw[<- mF,<- EF,<- B];omega
 refine QZ 0 func5 ntmps5 results5 λp w b=>?_;simp only[go_sem];refine Va b [] SO rfl ?_ s rfl λd h c=>?_
 .simp only[go_sem,Qa,Go.undef]
 obtain⟨rfl,rfl⟩:=c;simp only[go_sem,Qa,Go.undef];apply Qf b;simp only[go_sem,Qa,Go.undef];refine Va b [] SQ rfl ?_ y rfl λd h c=>?_
 .simp only[go_sem,Qa,Go.undef]
 obtain⟨rfl,rfl⟩:=c;simp only[go_sem,Qa,Go.undef];apply Qf b;simp only[go_sem,Qa,Go.undef];refine Va b [] oM rfl ?_ Q rfl λd h c=>?_
 .simp only[go_sem,Qa,Go.undef,d1]
 obtain⟨rfl,rfl⟩:=c;simp only[go_sem,Qa,Go.undef,d1];apply Qf b;simp only[go_sem,Qa,Go.undef,d1];refine Va b [] oL rfl ?_ a0 rfl λd h c=>?_
 .simp only[go_sem,Qa,Go.undef]
 obtain⟨rfl,rfl⟩:=c;simp only[go_sem,Qa,Go.undef];apply Qf b;simp only[go_sem,Qa,Go.undef];refine yB (G:=Nat) [2,7,8,48,49] (λk=>True) (λk γ=>[(9,.raw (.int .u64 (((n:Int)+KZ (E.take k)*g) % 18446744073709551616))),(50,Qb k)]) (λk γ=>[⟨.one,0,3,1,λ_=>x.cells⟩,⟨.one,0,2,1,λ_=>[Nj R,Fq E]⟩]) (E.length) (0) rfl (Qr.to 2 (by (simp only[go_sem,<- z1])<;>simp)) trivial ?_;intro k γ hk _;apply QV b;have QU:=JT (show k<4611686018427387904 from ω);first|refine WS hk (λU=>?_) (λU=>?_)|refine WT hk (λU=>?_) (λU=>?_)
 .have ZG:=U;obtain⟨e,L⟩:∃e,e=E.getD k default:=⟨_,rfl⟩;have Un:=MF e (by rw[L];exact Yx E default k ZG);obtain⟨el,OK⟩:∃t:Nat,e.len=t:=⟨e.len.toNat,ω⟩;have a7:el*g<=16384*65536:=Ys ω ω;have wl:IntKind.u64.wrap (el:Int)=(el:Int):=η;have N:IntKind.u64.wrap ((el:Int)*(g:Int))=((el*g:Nat):Int):=by rw[<- EF,IntKind.wrap_u64];omega
  have e5:=QEb E ZG;rw[<- L]at e5;obtain⟨A,hA⟩:∃A,A=(n:Int)+KZ (E.take k)*g:=⟨_,rfl⟩;cases Wt:e.J9 with
  | true=>
   have e6:(n:Int)+KZ (E.take (k+1))*g=A+(el*g:Nat):=by
    rw[e5,hA,show ED e=(el:Int) by unfold ED;rw[Wt,OK];rfl,Int.add_mul,EF,Int.add_assoc]
   have I:IntKind.u64.wrap (A % 18446744073709551616+((el*g:Nat):Int))=(A+((el*g:Nat):Int)) % 18446744073709551616:=η;rw[<- hA];simp only[go_sem,ZG,<- L,Wt,OK,z,wl,wt,N,I];repeat (refine And.intro δ ?_)
   refine⟨_,Qr.to 2 (by (simp only[go_sem,QU,e6])<;>simp),Vi.mk (γ) (trivial)⟩
  | false=>
   have e6:(n:Int)+KZ (E.take (k+1))*g=A - (el*g:Nat):=by
    rw[e5,hA,show ED e=-(el:Int) by unfold ED;rw[Wt,OK];rfl,Int.add_mul,EF,Int.neg_mul];omega
   have I:IntKind.u64.wrap (A % 18446744073709551616 - ((el*g:Nat):Int))=(A - ((el*g:Nat):Int)) % 18446744073709551616:=η;rw[<- hA];simp only[go_sem,ZG,<- L,Wt,OK,z,wl,wt,N,I];repeat (refine And.intro δ ?_)
   refine⟨_,Qr.to 2 (by (simp only[go_sem,QU,e6])<;>simp),Vi.mk (γ) (trivial)⟩
 .subst U;rw[Wc,w2];have N:S.Qh<S.JW->IntKind.u64.wrap (IntKind.u64.wrap (((q+n:Nat):Int)+S.JW) - S.Qh)=((q+n+S.JW - S.Qh:Nat):Int):=λh=>by
   have:IntKind.u64.wrap (((q+n:Nat):Int)+S.JW)=((q+n+S.JW:Nat):Int):=η;rw[this,IntKind.wrap_u64];omega
  have I:IntKind.u64.wrap (4611686018427387904 - (S.Qh:Int))=((4611686018427387904 - S.Qh:Nat):Int):=η;obtain⟨f,v⟩:∃f,f=if S.Qh<S.JW then q+n+S.JW - S.Qh else q+n:=⟨_,rfl⟩;simp only[go_sem];apply QV b;apply Yy b QrH hC;apply QP b;apply Yy b QeO Y;refine AU KS b 2 ?_;simp only[go_sem,Qa];first|refine ql ?_|skip
  refine TW (λst=>st=⟨[(2,.ptr 0 0 0 0),(8,Qb 0),(9,u64 f),(13,u64 S.Qh)],[⟨.one,0,3,1,λ_=>x.cells⟩]⟩) ?_ ?_
  .by_cases P:S.Qh<S.JW
   .have d2:=QT P;rw[Qe P]at v;subst v;apply Qf b;simp only[go_sem,d2,N P];exact⟨_,rfl,Qr.to 1 (by (simp only[go_sem])<;>simp)⟩
   .have d2:=QH P;rw[Qd P]at v;subst v;apply Qf b;simp only[go_sem,d2];exact⟨_,rfl,Qr.to 1 (by (simp only[go_sem])<;>simp)⟩
  rintro s1 rfl;have Xd:max S.Qh S.JW+q<=S.Qh+f:=by rw[v];split<;>omega
  have a8:f<18446744073709551616:=by rw[v];split<;>omega
  clear v w2 N;by_cases h2:4611686018427387904 - S.Qh<f
  .have d2:=QT h2;apply Qf b;simp only[go_sem,I,d2];refine Va b [] OD rfl ?_ M rfl λd h c=>?_
   .simp only[go_sem,Qa]
   obtain⟨rfl,rfl⟩:=c;simp only[go_sem,Qa];exact Hm b
  have d2:=QH h2;have oT:=QD8 (t:=f) ω;obtain⟨g1,g2⟩:=dl (zA f) oT.1 rfl f (IC f) ω (by rw[uA,z,IC,<- B];exact Xd);have Jx:(x.ops++[zA f]).length=x.ops.length+1:=by rw[Zo];rfl
  have MX:∀o∈x.ops++[zA f],Zd.Ok o/\Zd.Small o:=λo u=>by
   rcases Q3.1 u with h|h
   .exact Jf o h
   .rw[X1.1 h];exact⟨oT.1,⟨oT.2.1,oT.2.2⟩⟩
  have H:=Qa4 ⟨x.config,x.ops++[zA f]⟩ K (show (x.ops++[zA f]).length<=1000 from ω) MX;have a2:(ZH (S0 x.config) (x.ops++[zA f])).2.2.length<100000000:=Qlw (x:=⟨x.config,x.ops++[zA f]⟩) (m:=101) K (show (x.ops++[zA f]).length<=101 from ω) π λo u=>(MX o u).1;obtain⟨j,UR⟩:∃j,j=(ZH (S0 x.config) (x.ops++[zA f])).2.2:=⟨_,rfl⟩;obtain⟨R2,P6⟩:∃R2,R2=(ZH (S0 x.config) (x.ops++[zA f])).2.1:=⟨_,rfl⟩;have H:QI prog 9 [.agg (WU.cells ⟨x.config,x.ops++[zA f]⟩)] (QO (.tup [.agg [Nj R2,Fq j],Qb 0])):=by rw[UR,P6];exact H
  rw[<- UR]at a2 g1 g2;have V:=QC8 j ω;have F:=QlB j j.length ω;rw[QlG j j.length (QB _),Qbi]at F;have JS:=Iw j j.length;have Iq:(rws j j.length).getD j.length 0=((0:Nat):Int):=by
   rw[QlD j j.length j.length (BG _),QlH,Qbi,g1]
  have Yd:=BG j.length;obtain⟨ti,Ft⟩:∃ti,ti=(j.foldl Kn.next ⟨0,0,0⟩).zz:=⟨_,rfl⟩;rw[<- Ft]at F g2;obtain⟨LL,a4⟩:∃LL,LL=rws j j.length:=⟨_,rfl⟩;rw[<- a4]at V JS Iq;have C:=QT g2;have w5:IntKind.u64.wrap ((S.Qh:Int)+(f:Int))=((S.Qh+f:Nat):Int):=η;have z3:((0:Nat):Int)=0:=rfl;clear dl g1 UR P6 MX;refine AU KS b 14 ?_;simp only[go_sem,I,d2,Qa];refine E0 (Qr.kP 15 10 (λ_=>[]) rfl) ?_;simp only[go_sem,Qa];refine AU KS b 12 ?_;simp only[go_sem,Qa];refine⟨ω,?_⟩;apply QP b;refine⟨ω,?_⟩;refine DD (Qr.freeze rfl 1 rfl rfl λi J=>?_) ?_
  .exact QD9 x.ops f i J
  simp only[go_sem,Qa];refine DD (Qr.Qmc (d':=.agg (WU.cells ⟨x.config,x.ops++[zA f]⟩)) 109 ?_) ?_
  .refine⟨rfl,rfl,⟨rfl,Jx,λi J=>?_⟩,trivial⟩;exact QEa x.ops f i (by have h:i<(x.ops++[zA f]).length:=J;omega)
  refine Va b [] oL rfl ?_ H rfl λd h c=>?_
  .simp only[go_sem,Qa,Go.undef]
  obtain⟨rfl,rfl⟩:=c;simp only[go_sem,Qa,Go.undef];apply Qf b;simp only[go_sem,Qa,Go.undef];refine Va b [] QrI rfl ?_ V rfl λd h c=>?_
  .simp only[go_sem,Qa,Go.undef,JS,Yd,Iq,z3]
  obtain⟨rfl,rfl⟩:=c;simp only[go_sem,Qa,Go.undef,JS,Yd,Iq,z3];apply Qf b;simp only[go_sem,Qa,Go.undef,JS,Yd,Iq,z3];refine Va b [] QeO rfl ?_ F rfl λd h c=>?_
  .simp only[go_sem,Qa,Go.undef,w5,C]
  obtain⟨rfl,rfl⟩:=c;simp only[go_sem,Qa,Go.undef,w5,C];apply Qf b;simp only[go_sem,Qa,Go.undef,w5,C];refine Va b [] OD rfl ?_ M rfl λd h c=>?_
  .simp only[go_sem,Qa,Go.undef]
  obtain⟨rfl,rfl⟩:=c;simp only[go_sem,Qa,Go.undef];apply Qf b;simp only[go_sem,Qa,Go.undef]
end Go.Fg.X
namespace Go.Fg.X
open Go.Proofs Go.Fg Go.Proofs.YtbemejcgkfieeaaGreat
open Go.ChangeShapes Go.RowKit
open Go.Proofs.Tryz
def QEh:laidOutB prog=true:=τ
def QEi:mapsRowed prog=true:=τ
def QEj:prog.stopsHeard=true:=τ
def QEk:prog.mayEnter=true:=τ
def QEl:(Rows.wholeDrainsRow.lifted==prog.liftsFinal)=true:=τ
def QEm:(prog.make==some Rows.wholeDrainsRow.make)=true:=τ
end Go.Fg.X
namespace Go.Fg.X
open Go.Proofs Go.Fg Go.Proofs.YtbemejcgkfieeaaGreat
open Go.ChangeShapes Go.WideShapes Go.ChangeAt Go.RowKit
open Go.Proofs.Tryz
def QEn:ownKnob prog.godebug=none:=τ
def Qmo:laidOutB prog=true:=τ
def QEo(B:Os)(b:B.Started)(H:Type)(c:TypeId × Value->H):
  ReturnsInHanded {} checked B 5 .any (Rows.wholeDrainsSpec.pre6 c prog f5 Rows.wholeDrainsRow.domain false) (Rows.wholeDrainsSpec.post c prog f5 false true false false):=by
 refine returnsInHanded_of_change (C:=checked) QEn b τ func5
  (ChangeSpec.witness6 (enc:=c) (C:=checked) false ⟨#[],#[.agg #[.int .i64 0,.int .i64 0,.slice none 0 0],.int .u64 0],[]⟩ 12 τ τ τ τ) ?_
 intro W l a Z gs n g F a4 _;have d:∀(j:Nat) t v,f5.params[j]? = some t->a[j]? = some v->Value.okWide prog W .any l t v:=g;have w:=F;obtain⟨p,q,f,Y,rfl,Cr,Jb⟩:=F;have I:DataW.TrodAll c prog W 0 (λ_=>true) true f5.params.toList a.toList Z p:=f;rw[params5]at I d;obtain⟨z,a1,d0,a3,R,q0,eC,rfl,rfl,K,P⟩:=trodAll_cons I;obtain⟨v1,a0,d1,a2,Q,q1,rfl,rfl,rfl,J,O⟩:=trodAll_cons P;obtain⟨rfl,rfl,rfl⟩:=trodAll_nil O;obtain rfl:a=#[z,v1]:=by cases a;simp_all
 obtain⟨rfl,rfl⟩:=trodVars_none Y;obtain⟨y,rfl,_⟩:=okWide_struct underlying26 (d 0 26 z rfl rfl);obtain⟨S,rfl⟩:=okWide_int underlying40 (d 1 40 v1 rfl rfl);have t0:=K;have u:∀x∈R,x.block<W.heap.size:=by obtain⟨m,r⟩:=t0;exact DataW.trod_lt m _ _ _ r
 have t1:=J;have s:∀x∈Q,x.block<W.heap.size:=by obtain⟨m,r⟩:=t1;exact DataW.trod_lt m _ _ _ r
 obtain⟨N,E,c0⟩:=Rd.many QtP K;obtain⟨M,T,c1⟩:=Rd.one (Rd.int .u64 underlying40) J (QtG _ _);clear f g;have k:Calls prog 5 #[.agg y,.int .u64 S] W λe L=>e=.returned (.bool true)/\Below W.heap.size W L:=QtH (QEc N M E.2.1.1 E.2.1.2 T) W [_,_] rfl (λi U=>match i,U with
  | 0,_=>c0
  | 1,_=>c1)
 refine k.mono λe L ⟨V,o⟩=>?_;subst V;exact⟨_,rfl,_,_,_,[],_,[],w,trodAll_mk1 (shut_bool underlying4 _),(trodAll_cons_mk (Below.trod Qmo τ (qQ τ) t0 o u) (trodAll_cons_mk (Below.trod Qmo τ (qQ τ) t1 o s) trodAll_mk0)),rfl,o.frame _,λh=>by cases h⟩
def jn{a b}(d:a=true)(c:b=true):(a&&b)=true:=by rw[d,c];rfl
def QEt:(Rows.wholeDrainsRow.inPlace==prog.inPlace 5)=true:=τ
def QEu:(Rows.wholeDrainsRow.unfollowed==prog.unfollowed 5)=true:=τ
def QEv:(Rows.wholeDrainsRow.recurses==prog.recurses 5)=true:=τ
def QEw:(Rows.wholeDrainsRow.named==prog.varsNamed 5)=true:=τ
def QEx:(Rows.wholeDrainsRow.maps==(f5.params.toList++Rows.wholeDrainsSpec.plain.varTypes prog).any (prog.mapsRec ·))=true:=τ
def QEy:(Rows.wholeDrainsRow.ifaces==(f5.params.toList++Rows.wholeDrainsSpec.plain.varTypes prog).any (prog.ifacesRec ·))=true:=τ
def QEz:(Rows.wholeDrainsRow.loops==(f5.params.toList++Rows.wholeDrainsSpec.plain.varTypes prog).any (prog.loopsFrom ·))=true:=τ
def QEA:joinedFacts prog 5 f5 Rows.wholeDrainsSpec Rows.wholeDrainsRow=true:=by
 unfold joinedFacts;refine(jn (jn (jn (jn (jn (jn (jn (jn (jn (jn (jn (jn (jn (jn (jn (jn (jn (jn (jn (jn (jn (jn (jn (jn (jn (jn (jn (jn (jn (jn (jn ?_ QEh) QEi) ?_) ?_) ?_) ?_) ?_) ?_) QEt) QEu) QEv) QEw) QEx) QEy) ?_) QEz) ?_) ?_) ?_) ?_) ?_) ?_) ?_) QEj) QEk) QEl) QEm) ?_) ?_) ?_) ?_);all_goals kernel_rfl
def QEB:prog.funcNamed Rows.wholeDrainsRow.func=some 5:=τ
theorem provedWholeDrains:Rows.WholeDrainsSaid:=
 OpenClaim.holds_of_wide 5 f5 rfl rfl rfl rfl rfl rfl rfl ⟨rfl,rfl,rfl,rfl,rfl⟩ rfl rfl rfl rfl rfl QEB func5 QEA
  (qQ τ) (by unfold Func.isWrapper;first|(rw[Qe (by decide +kernel)];kernel_rfl)|(rw[Qd (by decide +kernel)];exact⟨rfl,rfl⟩))
  (λc a H b _=>QEo c a H b)
end Go.Fg.X
namespace Go.Proofs.YtbemejcgkfieeaaGreat
theorem wholeDrains_done: Rows.WholeDrainsSaid := Go.Fg.X.provedWholeDrains
end Go.Proofs.YtbemejcgkfieeaaGreat
