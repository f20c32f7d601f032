/- The statement ConformDelay is proved. No conditions. -/
import Derived.Test.YtmkmaijnnmaaoaaGreatTG1E
import Derived.Test.YtmkmaijnnmaaoaaGreatXK4E
import Derived.Test.YtmkmaijnnmaaoaaGreatCA2E
import Derived.Test.YtmkmaijnnmaaoaaGreatRows
set_option maxRecDepth 100000
set_option maxHeartbeats 16000000
set_option linter.unusedVariables false
set_option linter.unusedSimpArgs false
set_option linter.unusedSectionVars false
set_option linter.defProp false
namespace Go.Fg.X
open Go.Proofs Go.Fg Go.Fg.X.SP
open Go.Proofs.Tryz
def QEH(x:YU)(h:x.ops.length<1000000):Q9 prog 8 [.agg x.cells] (Zp (QZ (Lb x.ops))):=by
 refine ZH 0 func8 ntmps8 results8 λo w l=>?_;simp only[go_sem];refine fm (G:=Nat) [6,7] (λk=>∀j,j<k->0<j->(x.ops.getD j default).kind≠1) (λk g=>[(8,Qb k)]) (λk g=>[]) (x.ops.length) (0) rfl (QH.to 0 (by (simp only[go_sem])<;>simp)) ?_ ?_
 .intro j c;omega
 intro k g i f;apply Za l;have n:=Vl (show k<4611686018427387904 from ω);first|refine yX i (λa=>?_) (λa=>?_)|refine yY i (λa=>?_) (λa=>?_)
 .simp only[go_sem,a];by_cases m:0<k
  .have d0:=Q1 (show (0:Int)<k from ω);by_cases d:(x.ops.getD k default).kind=1
   .have e:=zS d;have q:Lb x.ops=false:=by
     rw[jW];intro p;exact QmB.1 p k a m d
    simp only[go_sem,d0,e,q]
   .have e:=XM d;simp only[go_sem,d0,e];repeat (refine And.intro η ?_)
    refine⟨_,QH.to 0 (by (simp only[go_sem,n])<;>simp),yW.mk (0) (?_)⟩;intro j c b;rcases AR.1 c with h|rfl
    .exact f j h b
    .exact d
  .have d0:=QU (show ¬(0:Int)<k from ω);simp only[go_sem,d0];repeat (refine And.intro η ?_)
   refine⟨_,QH.to 0 (by (simp only[go_sem,n])<;>simp),yW.mk (0) (?_)⟩;intro j c b;rcases AR.1 c with h|rfl
   .exact f j h b
   .exact absurd b m
 .simp only[go_sem];apply Za l;subst a;rw[QmB.2 f]
def Dq.syx{c}{h}{p k m g}{x:YU}{f a}{j d}{H b}{S}{E}{e}(I:Dq c h p k m g [(⟨.one,0,3,1,λ_=>x.cells⟩:Ob)] (λ_=>True) f j H S E e)(T:Wt a d b p S)
  (i:∀l,l<[(⟨.one,0,3,1,λ_=>x.cells⟩:Ob)].length->True->b[l]? = [(⟨.one,0,3,1,λ_=>x.cells⟩:Ob)][l]?/\a l=.no/\d l=.my):RM x a d b p S:=
 ⟨T,I.V,I.C,(i 0 σ trivial).1,(i 0 σ trivial).2⟩
section
variable (n:Nd)(a:Bool)(f:Nat)
@[go_sem] theorem QJK:(List.drop 5 (jk n a f)).getD 0 D.undef=.raw (.int .u64 n.c.rt.m2):=rfl
@[go_sem] theorem QJL:List.take 3 (List.drop 3 (jk n a f))=n.c.rt.cells:=rfl
end
def R8(E:List Ev)(Q:List Nat)(t:Nat):List D:=[.raw (.int .u64 (E.getD (Q.getD t 0) default).at_)]
def QEJ(x:YU)(hx:∀a∈x.ops,Je.Ok a):Q9 prog 3 [.agg x.cells] (Zp (QZ true)):=by
 refine QCt (R:=λd hh=>d=QZ true) _ rfl (λd hh h=>.inl (h▸Hu _ _)) ?_;have J:=QEl x 200 π;have hM:=QA0 x.config;have nH:=QEG;refine QdR VK 200 func3 rfl ntmps3 results3 rfl λc7 w f=>?_;simp only[go_sem,Qa];cases a6:Dm x 200 with
 | false=>
  rw[a6]at J;refine kv f [] fI rfl ?_ J rfl λd h m=>?_
  .simp only[go_sem,Qa,Go.undef]
  obtain⟨rfl,rfl⟩:=m;simp only[go_sem,Qa,Go.undef];apply Qh f;simp only[go_sem,Qa,Go.undef];refine kv f [] fJ rfl ?_ nH rfl λd h m=>?_
  .simp only[go_sem,Qa]
  obtain⟨rfl,rfl⟩:=m;simp only[go_sem,Qa];exact Mj f
 | true=>
 rw[a6]at J;cases a5:aG x.config with
 | false=>
  rw[a5]at hM;refine kv f [] fI rfl ?_ J rfl λd h m=>?_
  .simp only[go_sem,Qa,Go.undef]
  obtain⟨rfl,rfl⟩:=m;simp only[go_sem,Qa,Go.undef];apply Qh f;simp only[go_sem,Qa,Go.undef];refine kv f [] pO rfl ?_ hM rfl λd h m=>?_
  .simp only[go_sem,Qa,Go.undef]
  obtain⟨rfl,rfl⟩:=m;simp only[go_sem,Qa,Go.undef];apply Qh f;simp only[go_sem,Qa,Go.undef];refine kv f [] fJ rfl ?_ nH rfl λd h m=>?_
  .simp only[go_sem,Qa]
  obtain⟨rfl,rfl⟩:=m;simp only[go_sem,Qa];exact Mj f
 | true=>
 rw[a5]at hM;have K:=QA7.1 a5;obtain⟨c5,Ji⟩:=QEt a6 hx;have nI:=QEH x ω;cases JB:Lb x.ops with
 | false=>
  rw[JB]at nI;refine kv f [] fI rfl ?_ J rfl λd h m=>?_
  .simp only[go_sem,Qa,Go.undef]
  obtain⟨rfl,rfl⟩:=m;simp only[go_sem,Qa,Go.undef];apply Qh f;simp only[go_sem,Qa,Go.undef];refine kv f [] pO rfl ?_ hM rfl λd h m=>?_
  .simp only[go_sem,Qa,Go.undef]
  obtain⟨rfl,rfl⟩:=m;simp only[go_sem,Qa,Go.undef];apply Qh f;simp only[go_sem,Qa,Go.undef];refine kv f [] fn8 rfl ?_ nI rfl λd h m=>?_
  .simp only[go_sem,Qa,Go.undef]
  obtain⟨rfl,rfl⟩:=m;simp only[go_sem,Qa,Go.undef];apply Qh f;simp only[go_sem,Qa,Go.undef];refine kv f [] fJ rfl ?_ nH rfl λd h m=>?_
  .simp only[go_sem,Qa]
  obtain⟨rfl,rfl⟩:=m;simp only[go_sem,Qa];exact Mj f
 | true=>
 rw[JB]at nI;refine kv f [] fI rfl ?_ J rfl λd h m=>?_
 .simp only[go_sem,Qa,Go.undef]
 obtain⟨rfl,rfl⟩:=m;simp only[go_sem,Qa,Go.undef];apply Qh f;simp only[go_sem,Qa,Go.undef];refine kv f [] pO rfl ?_ hM rfl λd h m=>?_
 .simp only[go_sem,Qa,Go.undef]
 obtain⟨rfl,rfl⟩:=m;simp only[go_sem,Qa,Go.undef];apply Qh f;simp only[go_sem,Qa,Go.undef];refine kv f [] fn8 rfl ?_ nI rfl λd h m=>?_
 .simp only[go_sem,Qa,Go.undef]
 obtain⟨rfl,rfl⟩:=m;simp only[go_sem,Qa,Go.undef];apply Qh f;simp only[go_sem,Qa,Go.undef];have hN:=QCs (own:=λ_=>.no) (tw:=λ_=>.my) (λ_ _=>rfl) [(⟨.one,0,3,1,λ_=>x.cells⟩:Ob)] K;refine DX f Qsd hN λd P m=>?_;obtain⟨JF,VO,p,rfl,T1,K1⟩:=m;have XJ:P[0]? = some _:=K1.my 0 σ rfl;have yC:=Qc XJ;apply Qh f;simp only[go_sem,Qa,XJ,yC];have a7:∀l,l<[(⟨.one,0,3,1,λ_=>x.cells⟩:Ob)].length->True->l<P.length/\P[l]? = [(⟨.one,0,3,1,λ_=>x.cells⟩:Ob)][l]?/\JF l=.no/\VO l=.my:=λl hl _=>by
  have:l=0:=by simpa using hl
  subst this;exact⟨yC,XJ,K1.s1 0 σ,K1.s2 0 σ⟩
 have I0:=Dq.start (ops:=x.ops) T1 a7 (by have:=K1.len;simpa using this);obtain⟨U,ZM⟩:∃U,U=P.length:=⟨_,rfl⟩;refine DL (QH.QaS 5 12 (by simp only[go_sem])) ?_;simp only[go_sem];rw[<- ZM]at I0 ⊢;refine Js (λk s=>∃g N tw H S E y,Dq x.config x.ops p k U g [(⟨.one,0,3,1,λ_=>x.cells⟩:Ob)] (λ_=>True) N tw H S E y/\s=⟨[(1,.ptr 0 0 0 0),(3,.ptr p 0 0 0),(4,Qb 0),(5,.ref U g 0 E.length),(45,.imm 10 x.ops.length (Je.rows x.ops)),(46,Qb x.ops.length),(47,Qb k)],H⟩) x.ops.length QQ ⟨_,_,_,_,_,_,_,I0,rfl⟩ ?_;clear I0 T1 K1 XJ yC hN a7 ZM;rintro k _ hk ⟨g,N,tw,H,S,E,y,I,rfl⟩;by_cases Z:k<x.ops.length
 .have dk:=Q1 Z;have Zs:=Vl (show k<4611686018427387904 from ω);obtain⟨o,ho⟩:∃o,o=x.ops.getD k default:=⟨_,rfl⟩;have nJ:o∈x.ops:=by rw[ho];exact zR x.ops default k Z
  obtain⟨⟨_,_,_,_,Tx⟩,hV,hC,mQ⟩:=And.intro I.T (And.intro I.V (And.intro I.C I.mQ));have c0:=QCn ⟨_,_,_,_,Tx.EM [⟨.one,0,10,1,λ_=>o.cells⟩]⟩ hV hC ω o (Ji o nJ).1 (Ji o nJ).2.c (Ji o nJ).2.r;apply Qh f;simp only[go_sem,Qa,dk,Z,<- ho];refine JO f Qse c0 λd h2 m=>?_;obtain⟨dl,J9,XF,rfl,T2,s2,K2⟩:=m;refine LZ VK f 8 ?_;simp only[go_sem,Qa];obtain⟨Lc,h4,EE,IQ,W4,ZN,bu,I4⟩:=I.step Z (ho▸(Ji o nJ).1.2.1.2) (ho▸T2) (ho▸s2) K2 [⟨.one,0,3,1,λ_=>(Kb S o).r.cells⟩] (w0:=⟨w,[],[]⟩) rfl rfl (fr:=[(1,.ptr 0 0 0 0),(3,.ptr p 0 0 0),(4,Qb 0),(5,.ref U g 0 E.length),(9,dl),(45,.imm 10 x.ops.length (Je.rows x.ops)),(46,Qb x.ops.length),(47,Qb k)]) 9 rfl;rw[<- ho]at W4 ZN I4;refine Tl (QH.trans (QH.frame (fr':=[(1,.ptr 0 0 0 0),(3,.ptr p 0 0 0),(4,Qb 0),(5,.ref U g 0 E.length),(9,dl),(45,.imm 10 x.ops.length (Je.rows x.ops)),(46,Qb x.ops.length),(47,Qb k)]) (by simp only[go_sem])) W4) ?_;have c4:=Qc bu;have Z1:∀i,i<(Kb S o).l.length->(Lc i).all D.VI=true:=λi hi=>by rw[ZN i hi];rfl
  have lE:=I4.lE;rw[ZT]at lE;apply Qh f;simp only[go_sem,Qa,bu,c4,Z1];refine⟨⟨ω,Z1⟩,?_⟩;have b8:E.length+(Kb S o).l.length=(E++(Kb S o).l).length:=(ZT).symm;rw[b8]at I4 lE ⊢;obtain⟨E5,b3⟩:∃E5,E5=E++(Kb S o).l:=⟨_,rfl⟩;rw[<- b3]at I4 lE ⊢;rw[b3]at I4 ⊢;exact⟨Z,_,QH.frame (by simp only[go_sem,Zs]),_,_,_,_,_,_,_,I4,rfl⟩
 .obtain rfl:k=x.ops.length:=ω;have dk:=QU Z;have lE:=I.lE;have eS:=I.S_;have eE:=I.E_;rw[YH]at eS eE;apply Qh f;simp only[go_sem,Qa,dk,Z];obtain⟨h5,Ar,mN,W5,T5,k5⟩:=I.close (w0:=⟨w,[],[]⟩) rfl rfl (fr:=[(1,.ptr 0 0 0 0),(3,.ptr p 0 0 0),(4,Qb 0),(5,.ref U g 0 E.length)]) 5 rfl;refine DL (QH.trans (QH.frame (fr':=[(1,.ptr 0 0 0 0),(3,.ptr p 0 0 0),(4,Qb 0),(5,.ref U g 0 E.length)]) (by simp only[go_sem])) W5) ?_;have Y:=I.syx T5 k5;clear W5 T5 k5;have IT:KU S.M.T:=I.V.I.tree;have e2:=IT.len;have ay:=I.V.cl;have b7:∀e∈E,e.yE:=by rw[eE];exact QDV K x.ops hx
  have nK:=QbV K x.ops hx;rw[<- eE]at nK;have PS:∀o∈x.ops.tail,o.kind≠1:=QDS JB;obtain⟨v,a4⟩:∃v,v=S.M.T.map (·.iD):=⟨_,rfl⟩;have c9:v.length=S.M.T.length:=by rw[a4,KK]
  have hC:=QEp Y.T;rw[<- a4]at hC;clear I;apply QM f;refine JO f Qsf hC λd h6 m=>?_;obtain⟨rfl,g6,rfl⟩:=m;have Y6:=Y.app g6;apply QM f;refine Js (λj s=>∃N tw H,RM x N tw H p S/\s=⟨[(1,.ptr 0 0 0 0),(3,.ptr p 0 0 0),(4,Qb 0),(5,wU E),(62,ints v),(63,Qb v.length),(64,Qb j)],H⟩) v.length QQ ⟨_,_,_,Y6,rfl⟩ ?_;clear Y6 Y hC;rintro j _ hj ⟨N,tw,H,Y,rfl⟩;by_cases NI:j<v.length
  .have dj:=Q1 NI;have a1:=Vl (show j<4611686018427387904 from ω);obtain⟨id,Zg⟩:∃id,id=v.getD j 0:=⟨_,rfl⟩;obtain⟨c,hc⟩:∃c,c=S.M.T.getD j default:=⟨_,rfl⟩;have LP:c∈S.M.T:=by rw[hc];exact zR _ default j ω
   have eA:c.iD=id:=by rw[Zg,a4,hc,getD_map (λc:Qq=>c.iD) S.M.T default 0 j ω]
   have Wh:=(VL IT.rising).2 ⟨LP,eA⟩;have V:=Y.T;obtain⟨_,_,_,_,Tx⟩:=V;obtain⟨n,hn,oR⟩:=Tx.co.I.Ij Wh;have BP:=(Tx.co.I.vW c LP).nn.1;rw[<- oR]at BP Wh;have hG:=QEo Y.T hn;have J:=DY n.c;have Y7:=Y.app [QEn n (JP S.M id) (Xo S.M id n)];have ju:=Y.hx;have bw:=Qc ju;apply Qh f;simp only[go_sem,Qa,dj,NI,<- Zg];apply JD f Qsg hG;apply QM f;by_cases P:1<QS n.c.rt;case neg=>
    rw[QU P]at J;refine JG f y0 ?_ J ?_
    .simp only[go_sem,Qa,Go.undef]
    apply Qh f;simp only[go_sem,Qa,Go.undef];exact⟨NI,_,QH.frame (by simp only[go_sem,a1]),_,_,_,Y7,rfl⟩
   rw[Q1 P]at J;obtain⟨a,ha⟩:∃a:Nat,n.c.rt.m1=a:=⟨n.c.rt.m1.toNat,by have:=BP.1;omega⟩;obtain⟨M,hd⟩:∃a:Nat,n.c.rt.d=a:=⟨n.c.rt.d.toNat,by have:=BP.2.1;omega⟩;obtain⟨b,Q⟩:∃a:Nat,n.c.rt.m2=a:=⟨n.c.rt.m2.toNat,by have:=BP.2.2;omega⟩;have Np:Zq n.c.rt=⟨a,M,b⟩:=by unfold Zq;rw[ha,hd,Q];rfl
   by_cases h2:b=0
   .have b2:=zS (show ((b:Nat):Int)=0 from ω);refine JG f y0 ?_ J ?_
    .simp only[go_sem,Qa,Go.undef,Q,b2]
    apply Qh f;simp only[go_sem,Qa,Go.undef,Q,b2];exact⟨NI,_,QH.frame (by simp only[go_sem,a1]),_,_,_,Y7,rfl⟩
   have b2:=XM (show ¬((b:Nat):Int)=0 from ω);have nN:=m6 BP P;rw[Np]at nN;obtain⟨q,hq⟩:∃q,q=cdiv (Z2 b (Jb id E E.length)).Kr 65536:=⟨_,rfl⟩;obtain⟨F,qZ⟩:∃F,F=cdiv (q*65536) b+dX ⟨a,M,b⟩+x.config.t.toNat*x.config.ZJ.toNat:=⟨_,rfl⟩;obtain⟨A,B,BU⟩:=QEi K x.ops ω hx PS (r:=id) (k:=n.c) (by rw[<- eS];exact Wh) P BP (by rw[Np];show 0<b;omega) (by rw[<- eS];exact ay) (q:=q) (tk:=F) (by rw[<- eE,Np];exact hq) (by rw[Np];exact qZ);rw[<- eE]at A B BU;rw[<- eS]at B;rw[Np]at BU;have BU:BuI id b E E.length:=BU;have k1:=K.l1;have k2:=K.l2;have k3:=K.t1;have k4:=K.t2;have c8:q<=16384000000:=by
    have h8:=BU.Kr;have h9:E.length*16384<=16384000000:=ω;rw[hq];exact(ny (d:=65536) π).2 (JL h8 (Vm 65536 h9))
   have e1:b<=4294967295:=nN.b;have e0:M<=1048576:=nN.d;have kV:=Qb5 b id E ω ω b7;have a2:=QmP x.config.t x.config.ZJ a M b q ⟨ω,ω⟩ ⟨ω,ω⟩ ω ω;have v1:ES b (Jb id E E.length)=0:=by
    have h8:=BU.sum;unfold ES;rw[Qe ω,BU.bad,Qe π,Qe ω]
   have v2:xB b (Jb id E E.length)=q:=by unfold xB;rw[Qf v1,hq]
   have v3:R5 x.config.t x.config.ZJ a M b q=0:=by
    have h8:J5 a M b=2\/J5 a M b=3\/J5 a M b=4:=nN.k;unfold R5;rw[Qe ω,Qe ω]
   have v4:ET x.config.t x.config.ZJ a M b q=F:=by unfold ET;rw[Qf v3,qZ];rfl
   rw[v1,v2]at kV;rw[v3,v4]at a2;have Gu:F<=2305843009213693952:=by
    have h8:cdiv (q*65536) b<=q*65536:=(ny ω).2 (Nat.le_mul_of_pos_right _ ω);have h9:x.config.t.toNat*x.config.ZJ.toNat<=65536*16384:=X8 ω ω;have qW:dX ⟨a,M,b⟩<=M:=by unfold dX;split;exact Qs _;exact Z9 _
    omega
   have b5:∀i,(Jz id E i).length<=i:=λi=>by
    induction i with
    | zero=>exact Qs _
    | succ i ih=>
     unfold Jz;split
     .split
      .rw[ZT];exact Nat.succ_le_succ ih
      .rw[bK];omega
     .omega
   have b4:=λ(G:List Ob)=>Qmw (Y.app G).T;refine JG f y0 ?_ J ?_
   .simp only[go_sem,Qa,Go.undef,Q,b2]
   apply Qh f;simp only[go_sem,Qa,Go.undef,Q,b2];refine JG f pP ?_ kV ?_
   .simp only[go_sem,Qa,Go.undef,Q,ju,bw]
   apply Qh f;simp only[go_sem,Qa,Go.undef,Q,ju,bw];refine JG f Qfl ?_ a2 ?_
   .simp only[go_sem,Qa,Go.undef,Q,ha,hd,ju,bw]
   apply Qh f;simp only[go_sem,Qa,Go.undef,Q,ha,hd,ju,bw];refine DL (QH.QaS 18 1 (by simp only[go_sem])) ?_;simp only[go_sem];obtain⟨H7,b0⟩:∃H7,H7=H++[(⟨.one,0,67,1,λ_=>jk n (JP S.M id) (Xo S.M id n)⟩:Ob)]:=⟨_,rfl⟩;have Y7:RM x _ _ H7 p S:=b0▸Y7;rw[<- b0];obtain⟨nO,jD⟩:∃nO,nO=H7.length:=⟨_,rfl⟩;rw[<- jD];clear kV a2 hG J ju bw;refine Js (λi s=>∃g u nn y G,s=⟨[(1,.ptr 0 0 0 0),(3,.ptr p 0 0 0),(4,Qb 0),(5,wU E),(62,ints v),(63,Qb v.length),(64,Qb j),(11,Qb id),(16,u64 F),(18,.ref nO g u (Jz id E i).length),(113,wU E),(114,Qb E.length),(115,Qb i)],H7++((⟨.arr,g,1,nn,y⟩:Ob)::G)⟩/\nn=u+(Jz id E i).length/\∀t,t<(Jz id E i).length->y (u+t)=R8 E (Jz id E i) t) E.length (QH.frame (by simp only[go_sem];rfl)) ⟨0,0,0,λ_=>[],[],rfl,rfl,λt ht=>absurd ht (Xc t)⟩ ?_;rintro i _ hi ⟨g,u,nn,y,G,rfl,rfl,ZN⟩;by_cases T:i<E.length
   .have di:=Q1 T;have U4:=Vl (show i<4611686018427387904 from ω);obtain⟨e,he⟩:∃e,e=E.getD i default:=⟨_,rfl⟩;have Nh:=b5 i;have hA:=A i T;have wF:=nK i T;rw[<- he]at hA wF;have W:Jz id E (i+1)=if e.cls=id then (if e.Zy=true then Jz id E i++[i] else (Jz id E i).tail) else Jz id E i:=by rw[he];rfl
    obtain⟨L,a9⟩:∃L,L=Jz id E i:=⟨_,rfl⟩;rw[<- a9]at ZN hA W Nh ⊢;by_cases vq:e.cls=id;case neg=>
     have b1:=Qt6 vq;rw[Qe vq]at W;apply Qh f;simp only[go_sem,Qa,di,T,<- he,b1];rw[W];exact⟨_,QH.frame (by simp only[go_sem,U4]),g,u,_,y,_,rfl,rfl,ZN⟩
    have b1:=Qga vq;rw[Qf vq]at W;cases Vp:e.Zy with
    | true=>
     rw[Vp,Qf rfl]at W;apply Qh f;simp only[go_sem,Qa,di,T,<- he,b1,Vp,jD];rw[W];have ZO:(L++[i]).length=L.length+1:=by rw[ZT];rfl
     rw[ZO];refine⟨ω,_,QH.frame (by simp only[go_sem,U4]),g+1,0,L.length+1,KB L.length u y (λ_=>[.raw (.int .u64 e.at_)]),_,rfl,(JM _).symm,λt ht=>?_⟩;rw[JM];by_cases h5:t<L.length
     .have h6:(L++[i]).getD t 0=L.getD t 0:=by rw[Q7,Q7,JY h5]
      rw[A4 h5,ZN t h5];unfold R8;rw[h6]
     .obtain rfl:t=L.length:=ω;have h6:(L++[i]).getD L.length 0=i:=by rw[Q7,Kw (Qs _),YJ];rfl
      rw[xM (Qs _)];unfold R8;rw[h6,<- he]
    | false=>
     rw[Vp,Qe π]at W;obtain⟨z,Q',b9,pq⟩:=hA vq Vp;subst b9;have Wv:=ZN 0 (B9 _);have TH:z<i:=B0 id E i z (by rw[<- a9];exact Z3);have c3:=nK z ω;have ea:R8 E (z::Q') 0=[.raw (.int .u64 (E.getD z default).at_)]:=rfl;rw[xG,ea]at Wv;obtain⟨C,kb⟩:∃C:Nat,(E.getD z default).at_=C:=⟨(E.getD z default).at_.toNat,ω⟩;rw[kb]at Wv;have a3:(E.getD z default).at_.toNat=C:=ω;rw[a3]at pq;have x2:IntKind.u64.wrap (((C:Nat):Int)+((F:Nat):Int))=((C+F:Nat):Int):=κ;have x3:=QU (show ¬((C+F:Nat):Int)<e.done from ω);have x4:=XM (show ¬((((Q'.length+1:Nat):Int))=0) by omega);apply Qh f;simp only[go_sem,Qa,di,T,<- he,b1,Vp,jD];apply QB f [0,1,2,3,4,5,6,7,8,9,10,11,12];simp only[go_sem,Qa,Wv,x2,x3,x4,Go.undef];rw[W,show (z::Q').tail=Q' from rfl];have hz:(((Q'.length+1:Nat):Int) - 1).toNat=Q'.length:=ω;refine⟨ω,ω,ω,T,_,QH.frame (by simp only[go_sem,U4,hz]),g,u+1,u+(Q'.length+1),y,_,rfl,ω,λt ht=>?_⟩;have h7:=ZN (t+1) (Nat.succ_lt_succ ht);rw[show u+1+t=u+(t+1) by omega,h7];rfl
   .obtain rfl:i=E.length:=ω;have di:=QU T;obtain⟨O,KM⟩:∃O,O=(Jz id E E.length).length:=⟨_,rfl⟩;have Nh:=b5 E.length;rw[<- KM]at ZN Nh ⊢;have Y8:=Y7.app ((⟨.arr,g,1,u+O,y⟩:Ob)::G);have b4:=Qmw Y8.T;apply Qh f;simp only[go_sem,Qa,di,T];apply QM f;refine Js (λt s=>s=⟨[(1,.ptr 0 0 0 0),(3,.ptr p 0 0 0),(4,Qb 0),(5,wU E),(62,ints v),(63,Qb v.length),(64,Qb j),(11,Qb id),(16,u64 F),(146,.ref nO g u O),(147,Qb O),(148,Qb t)],H7++((⟨.arr,g,1,u+O,y⟩:Ob)::G)⟩) O QQ rfl ?_;rintro t _ ht rfl;by_cases bx:t<O
    .have dt:=Q1 bx;have b6:=Vl (show t<4611686018427387904 from ω);have qF:=ZN t bx;obtain⟨z,TH⟩:∃z,z=(Jz id E E.length).getD t 0:=⟨_,rfl⟩;have a8:z∈Jz id E E.length:=by rw[TH];exact zR _ 0 t ω
     have BQ:=B0 id E E.length z a8;have c1:=B z a8;have c3:=nK z BQ;obtain⟨C,kb⟩:∃C:Nat,(E.getD z default).at_=C:=⟨(E.getD z default).at_.toNat,ω⟩;have ea:R8 E (Jz id E E.length) t=[.raw (.int .u64 (C:Int))]:=by unfold R8;rw[<- TH,kb]
     rw[ea]at qF;have a3:(E.getD z default).at_.toNat=C:=ω;rw[a3]at c1;have x2:IntKind.u64.wrap (((C:Nat):Int)+((F:Nat):Int))=((C+F:Nat):Int):=κ;have x3:=QU (show ¬C+F<=S.Qd from ω);apply Qh f;simp only[go_sem,Qa,dt,bx,jD,qF];refine⟨ω,?_⟩;refine Xg f Qsh ?_ b4 ?_
     .simp only[go_sem,Qa,x2,x3]
     apply Qh f;simp only[go_sem,Qa,x2,x3];exact⟨bx,_,QH.frame (by simp only[go_sem,b6]),rfl⟩
    .obtain rfl:t=O:=ω;have dt:=QU bx;apply Qh f;simp only[go_sem,Qa,dt];apply QM f;exact⟨NI,_,QH.frame (by simp only[go_sem,a1]),_,_,_,Y8,rfl⟩
  .obtain rfl:j=v.length:=ω;have dj:=QU NI;apply Qh f;simp only[go_sem,Qa,dj,NI];apply QM f;refine kv f [] fJ rfl ?_ nH rfl λd h m=>?_
   .simp only[go_sem,Qa]
   obtain⟨rfl,rfl⟩:=m;simp only[go_sem,Qa];exact Mj f
end Go.Fg.X
namespace Go.Fg.X
open Go.Proofs Go.Fg Go.Proofs.YtmkmaijnnmaaoaaGreat
open Go.ChangeShapes Go.RowKit
open Go.Proofs.Tryz
def QES:laidOutB prog=true:=τ
def QET:mapsRowed prog=true:=τ
def QEU:prog.stopsHeard=true:=τ
def QEV:prog.mayEnter=true:=τ
def QEW:(Rows.conformDelayRow.lifted==prog.liftsFinal)=true:=τ
def QEX:(prog.make==some Rows.conformDelayRow.make)=true:=τ
end Go.Fg.X
namespace Go.Fg.X
open Go.Proofs Go.Fg Go.Proofs.YtmkmaijnnmaaoaaGreat
open Go.ChangeShapes Go.WideShapes Go.ChangeAt Go.RowKit
open Go.Proofs.Tryz
def QEY:ownKnob prog.godebug=none:=τ
def QEZ:laidOutB prog=true:=τ
def QE0(w:Os)(b:w.Started)(H:Type)(c:TypeId × Value->H):
  ReturnsInHanded {} checked w 3 .any (Rows.conformDelaySpec.pre6 c prog f3 Rows.conformDelayRow.domain false) (Rows.conformDelaySpec.post c prog f3 false true false false):=by
 refine returnsInHanded_of_change (C:=checked) QEY b τ func3
  (ChangeSpec.witness6 (enc:=c) (C:=checked) false ⟨#[],#[.agg #[.int .i64 0,.int .i64 0,.slice none 0 0]],[]⟩ 12 τ τ τ τ) ?_
 intro W l a Q Y n g z U _;have f:∀(j:Nat) t v,f3.params[j]? = some t->a[j]? = some v->Value.okWide prog W .any l t v:=g;have r:=z;obtain⟨p,q,d,P,rfl,Pq,Jh⟩:=z;have B:DataW.TrodAll c prog W 0 (λ_=>true) true f3.params.toList a.toList Q p:=d;rw[params3]at B f;obtain⟨u,S,d0,T,K,V,Z,rfl,rfl,E,J⟩:=trodAll_cons B;obtain⟨rfl,rfl,rfl⟩:=trodAll_nil J;obtain rfl:a=#[u]:=by cases a;simp_all
 obtain⟨rfl,rfl⟩:=trodVars_none P;obtain⟨s,rfl,_⟩:=okWide_struct underlying26 (f 0 26 u rfl rfl);have t0:=E;have o:∀x∈K,x.block<W.heap.size:=by obtain⟨m,M⟩:=t0;exact DataW.trod_lt m _ _ _ M
 obtain⟨I,L,R⟩:=Rd.many Qt5 E;clear d g;have k:Calls prog 3 #[.agg s] W λe F=>e=.returned (.bool true)/\Below W.heap.size W F:=QtX (QEJ I L.2.1.2) W [_] rfl (λi N=>match i,N with
  | 0,_=>R)
 refine k.mono λe F ⟨O,y⟩=>?_;subst O;exact⟨_,rfl,_,_,_,[],_,[],r,trodAll_mk1 (shut_bool underlying4 _),(trodAll_cons_mk (Below.trod QEZ τ (X9 τ) t0 y o) trodAll_mk0),rfl,y.frame _,λh=>by cases h⟩
def jn{a b}(d:a=true)(c:b=true):(a&&b)=true:=by rw[d,c];rfl
def QE4:(Rows.conformDelayRow.inPlace==prog.inPlace 3)=true:=τ
def QE5:(Rows.conformDelayRow.unfollowed==prog.unfollowed 3)=true:=τ
def QE6:(Rows.conformDelayRow.recurses==prog.recurses 3)=true:=τ
def QE7:(Rows.conformDelayRow.named==prog.varsNamed 3)=true:=τ
def QE8:(Rows.conformDelayRow.maps==(f3.params.toList++Rows.conformDelaySpec.plain.varTypes prog).any (prog.mapsRec ·))=true:=τ
def QE9:(Rows.conformDelayRow.ifaces==(f3.params.toList++Rows.conformDelaySpec.plain.varTypes prog).any (prog.ifacesRec ·))=true:=τ
def QFa:(Rows.conformDelayRow.loops==(f3.params.toList++Rows.conformDelaySpec.plain.varTypes prog).any (prog.loopsFrom ·))=true:=τ
def QFb:joinedFacts prog 3 f3 Rows.conformDelaySpec Rows.conformDelayRow=true:=by
 unfold joinedFacts;refine(jn (jn (jn (jn (jn (jn (jn (jn (jn (jn (jn (jn (jn (jn (jn (jn (jn (jn (jn (jn (jn (jn (jn (jn (jn (jn (jn (jn (jn (jn (jn ?_ QES) QET) ?_) ?_) ?_) ?_) ?_) ?_) QE4) QE5) QE6) QE7) QE8) QE9) ?_) QFa) ?_) ?_) ?_) ?_) ?_) ?_) ?_) QEU) QEV) QEW) QEX) ?_) ?_) ?_) ?_);all_goals kernel_rfl
def QFc:prog.funcNamed Rows.conformDelayRow.func=some 3:=τ
theorem provedConformDelay:Rows.ConformDelaySaid:=
 OpenClaim.holds_of_wide 3 f3 rfl rfl rfl rfl rfl rfl rfl ⟨rfl,rfl,rfl,rfl,rfl⟩ rfl rfl rfl rfl rfl QFc func3 QFb
  (X9 τ) (by unfold Func.isWrapper;first|(rw[Qf (by decide +kernel)];kernel_rfl)|(rw[Qe (by decide +kernel)];exact⟨rfl,rfl⟩))
  (λc a H b _=>QE0 c a H b)
end Go.Fg.X
namespace Go.Proofs.YtmkmaijnnmaaoaaGreat
theorem conformDelay_done: Rows.ConformDelaySaid := Go.Fg.X.provedConformDelay
end Go.Proofs.YtmkmaijnnmaaoaaGreat
