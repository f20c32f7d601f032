/- The statement ServeGuarantee is proved. No conditions. -/
import Derived.Test.YtmkmaijnnmaaoaaGreatTP1G
import Derived.Test.YtmkmaijnnmaaoaaGreatFgLendG
import Derived.Test.YtmkmaijnnmaaoaaGreatPA3G
import Derived.Test.YtmkmaijnnmaaoaaGreatRows
set_option maxRecDepth 100000
set_option maxHeartbeats 16000000
set_option linter.unusedVariables false
set_option linter.unusedSimpArgs false
set_option linter.unusedSectionVars false
set_option linter.defProp false
namespace Go.Fg.X
open Go.Proofs Go.Fg Go.Fg.X.SP
open Go.Proofs.Tryz
def QLv(x:YU)(h:x.ops.length<1000000):Q9 prog 18 [.agg x.cells] (Zp (QZ (Lb x.ops))):=by
 refine ZH 0 func18 ntmps18 results18 λo w l=>?_;simp only[go_sem];refine fm (G:=Nat) [6,7] (λk=>∀j,j<k->0<j->(x.ops.getD j default).kind≠1) (λk g=>[(8,Qb k)]) (λk g=>[]) (x.ops.length) (0) rfl (QH.to 0 (by (simp only[go_sem])<;>simp)) ?_ ?_
 .intro j c;omega
 intro k g i f;apply Za l;have n:=Vl (show k<4611686018427387904 from ω);first|refine yX i (λa=>?_) (λa=>?_)|refine yY i (λa=>?_) (λa=>?_)
 .simp only[go_sem,a];by_cases m:0<k
  .have d0:=Q1 (show (0:Int)<k from ω);by_cases d:(x.ops.getD k default).kind=1
   .have e:=zS d;have q:Lb x.ops=false:=by
     rw[jW];intro p;exact QmB.1 p k a m d
    simp only[go_sem,d0,e,q]
   .have e:=XM d;simp only[go_sem,d0,e];repeat (refine And.intro η ?_)
    refine⟨_,QH.to 0 (by (simp only[go_sem,n])<;>simp),yW.mk (0) (?_)⟩;intro j c b;rcases AR.1 c with h|rfl
    .exact f j h b
    .exact d
  .have d0:=QU (show ¬(0:Int)<k from ω);simp only[go_sem,d0];repeat (refine And.intro η ?_)
   refine⟨_,QH.to 0 (by (simp only[go_sem,n])<;>simp),yW.mk (0) (?_)⟩;intro j c b;rcases AR.1 c with h|rfl
   .exact f j h b
   .exact absurd b m
 .simp only[go_sem];apply Za l;subst a;rw[QmB.2 f]
section
variable (n:Nd)(a:Bool)(f:Nat)
@[go_sem] theorem QJL:List.take 3 (List.drop 3 (jk n a f))=n.c.rt.cells:=rfl
end
def QLw{h:List Ob}{b g}{E:List Ev}{a}(e:h[b]? = some ⟨.arr,g,12,E.length,a⟩)(d:∀i,i<E.length->a i=Ev.cells (E.getD i default)):TL (h.map Ob.ro) (.ref b g 0 E.length) (wU E):=
 .ref b 0 E.length (⟨.arr,g,12,E.length,a⟩:Ob).ro (Ev.rows E) (Jc e) rfl (by show 0+E.length<=E.length;omega) (λi c=>by show (a i).all D.ko=true;rw[d i c];rfl) λi c=>by rw[JM];exact(d i c).symm
def QqH(a)(l:List Ev):∀k,k<=l.length->SP.qP a l k=(l.take k).foldl (Sl a) 0
 | 0,_=>rfl
 | k+1,h=>by
  rw[getD_take _ default _ ω,jY,<- QqH a l k ω];rfl
def QLx{c}(K:Xp c)(a:List Je)(g:a.length<=1000)(i:∀o∈a,Je.Ok o)(d:∀o∈a.tail,o.kind≠1){r}{k}
  (f:QC (Zz (S0 c) a).1.M.T r=some k) (h:1<QS k.rt) :
  Gv (Zq k.rt) (c.ZJ.toNat*c.t.toNat) c.ZJ.toNat (Zz (S0 c) a).2.2 r (Zz (S0 c) a).1.Qd=true:=by
 have e:=QqH [r] (Zz (S0 c) a).2.2 (Zz (S0 c) a).2.2.length (Qs _);rw[YH]at e;unfold Gv;rw[e];by_cases b:0<(Zz (S0 c) a).2.2.foldl (Sl [r]) 0
 .rw[QLn K a g i d f h b,Bool.or_true]
 .rw[QU b];rfl
def QLy(x:YU)(hx:∀a∈x.ops,Je.Ok a):Q9 prog 4 [.agg x.cells] (Zp (QZ true)):=by
 refine QCt (R:=λd hh=>d=QZ true) _ rfl (λd hh h=>.inl (h▸Hu _ _)) ?_;have B:=QEl x 200 π;have hM:=QA0 x.config;have nH:=QJV;refine QdR VK 200 func4 rfl ntmps4 results4 rfl λc0 w f=>?_;simp only[go_sem,Qa];cases Y:Dm x 200 with
 | false=>
  rw[Y]at B;refine kv f [] fI rfl ?_ B rfl λd h m=>?_
  .simp only[go_sem,Qa,Go.undef]
  obtain⟨rfl,rfl⟩:=m;simp only[go_sem,Qa,Go.undef];apply Qh f;simp only[go_sem,Qa,Go.undef];refine kv f [] tj rfl ?_ nH rfl λd h m=>?_
  .simp only[go_sem,Qa]
  obtain⟨rfl,rfl⟩:=m;simp only[go_sem,Qa];exact Mj f
 | true=>
 rw[Y]at B;cases W:aG x.config with
 | false=>
  rw[W]at hM;refine kv f [] fI rfl ?_ B rfl λd h m=>?_
  .simp only[go_sem,Qa,Go.undef]
  obtain⟨rfl,rfl⟩:=m;simp only[go_sem,Qa,Go.undef];apply Qh f;simp only[go_sem,Qa,Go.undef];refine kv f [] pO rfl ?_ hM rfl λd h m=>?_
  .simp only[go_sem,Qa,Go.undef]
  obtain⟨rfl,rfl⟩:=m;simp only[go_sem,Qa,Go.undef];apply Qh f;simp only[go_sem,Qa,Go.undef];refine kv f [] tj rfl ?_ nH rfl λd h m=>?_
  .simp only[go_sem,Qa]
  obtain⟨rfl,rfl⟩:=m;simp only[go_sem,Qa];exact Mj f
 | true=>
 rw[W]at hM;have K:=QA7.1 W;obtain⟨b9,Ji⟩:=QEt Y hx;have N:=QLv x ω;cases JB:Lb x.ops with
 | false=>
  rw[JB]at N;refine kv f [] fI rfl ?_ B rfl λd h m=>?_
  .simp only[go_sem,Qa,Go.undef]
  obtain⟨rfl,rfl⟩:=m;simp only[go_sem,Qa,Go.undef];apply Qh f;simp only[go_sem,Qa,Go.undef];refine kv f [] pO rfl ?_ hM rfl λd h m=>?_
  .simp only[go_sem,Qa,Go.undef]
  obtain⟨rfl,rfl⟩:=m;simp only[go_sem,Qa,Go.undef];apply Qh f;simp only[go_sem,Qa,Go.undef];refine kv f [] Qjg rfl ?_ N rfl λd h m=>?_
  .simp only[go_sem,Qa,Go.undef]
  obtain⟨rfl,rfl⟩:=m;simp only[go_sem,Qa,Go.undef];apply Qh f;simp only[go_sem,Qa,Go.undef];refine kv f [] tj rfl ?_ nH rfl λd h m=>?_
  .simp only[go_sem,Qa]
  obtain⟨rfl,rfl⟩:=m;simp only[go_sem,Qa];exact Mj f
 | true=>
 rw[JB]at N;refine kv f [] fI rfl ?_ B rfl λd h m=>?_
 .simp only[go_sem,Qa,Go.undef]
 obtain⟨rfl,rfl⟩:=m;simp only[go_sem,Qa,Go.undef];apply Qh f;simp only[go_sem,Qa,Go.undef];refine kv f [] pO rfl ?_ hM rfl λd h m=>?_
 .simp only[go_sem,Qa,Go.undef]
 obtain⟨rfl,rfl⟩:=m;simp only[go_sem,Qa,Go.undef];apply Qh f;simp only[go_sem,Qa,Go.undef];refine kv f [] Qjg rfl ?_ N rfl λd h m=>?_
 .simp only[go_sem,Qa,Go.undef]
 obtain⟨rfl,rfl⟩:=m;simp only[go_sem,Qa,Go.undef];apply Qh f;simp only[go_sem,Qa,Go.undef];have hN:=QCs (own:=λ_=>.no) (tw:=λ_=>.my) (λ_ _=>rfl) [(⟨.one,0,3,1,λ_=>x.cells⟩:Ob)] K;refine DX f Qsd hN λd F m=>?_;obtain⟨JF,VO,p,rfl,T1,K1⟩:=m;have XJ:F[0]? = some _:=K1.my 0 σ rfl;have yC:=Qc XJ;apply Qh f;simp only[go_sem,Qa,XJ,yC];have a0:∀l,l<[(⟨.one,0,3,1,λ_=>x.cells⟩:Ob)].length->True->l<F.length/\F[l]? = [(⟨.one,0,3,1,λ_=>x.cells⟩:Ob)][l]?/\JF l=.no/\VO l=.my:=λl hl _=>by
  have:l=0:=by simpa using hl
  subst this;exact⟨yC,XJ,K1.s1 0 σ,K1.s2 0 σ⟩
 have I0:=Dq.start (ops:=x.ops) T1 a0 (by have:=K1.len;simpa using this);obtain⟨y,ZM⟩:∃y,y=F.length:=⟨_,rfl⟩;refine DL (QH.QaS 5 12 (by simp only[go_sem])) ?_;simp only[go_sem];rw[<- ZM]at I0 ⊢;refine Js (λk s=>∃g M tw H S E L,Dq x.config x.ops p k y g [(⟨.one,0,3,1,λ_=>x.cells⟩:Ob)] (λ_=>True) M tw H S E L/\s=⟨[(1,.ptr 0 0 0 0),(3,.ptr p 0 0 0),(4,Qb 0),(5,.ref y g 0 E.length),(36,.imm 10 x.ops.length (Je.rows x.ops)),(37,Qb x.ops.length),(38,Qb k)],H⟩) x.ops.length QQ ⟨_,_,_,_,_,_,_,I0,rfl⟩ ?_;clear I0 T1 K1 XJ yC hN a0 ZM;rintro k _ hk ⟨g,M,tw,H,S,E,L,I,rfl⟩;by_cases Q:k<x.ops.length
 .have dk:=Q1 Q;have Zs:=Vl (show k<4611686018427387904 from ω);obtain⟨o,z⟩:∃o,o=x.ops.getD k default:=⟨_,rfl⟩;have nJ:o∈x.ops:=by rw[z];exact zR x.ops default k Q
  obtain⟨⟨_,_,_,_,Tx⟩,hV,hC,mQ⟩:=And.intro I.T (And.intro I.V (And.intro I.C I.mQ));have b1:=QCn ⟨_,_,_,_,Tx.EM [⟨.one,0,10,1,λ_=>o.cells⟩]⟩ hV hC ω o (Ji o nJ).1 (Ji o nJ).2.c (Ji o nJ).2.r;apply Qh f;simp only[go_sem,Qa,dk,Q,<- z];refine JO f Qse b1 λd h2 m=>?_;obtain⟨dl,J9,XF,rfl,T2,s2,K2⟩:=m;refine LZ VK f 9 ?_;simp only[go_sem,Qa];obtain⟨Lc,h4,EE,IQ,W4,ZN,bu,u⟩:=I.step Q (z▸(Ji o nJ).1.2.1.2) (z▸T2) (z▸s2) K2 [⟨.one,0,3,1,λ_=>(Kb S o).r.cells⟩] (w0:=⟨w,[],[]⟩) rfl rfl (fr:=[(1,.ptr 0 0 0 0),(3,.ptr p 0 0 0),(4,Qb 0),(5,.ref y g 0 E.length),(9,dl),(36,.imm 10 x.ops.length (Je.rows x.ops)),(37,Qb x.ops.length),(38,Qb k)]) 9 rfl;rw[<- z]at W4 ZN u;refine Tl (QH.trans (QH.frame (fr':=[(1,.ptr 0 0 0 0),(3,.ptr p 0 0 0),(4,Qb 0),(5,.ref y g 0 E.length),(9,dl),(36,.imm 10 x.ops.length (Je.rows x.ops)),(37,Qb x.ops.length),(38,Qb k)]) (by simp only[go_sem])) W4) ?_;have b8:=Qc bu;have Z1:∀i,i<(Kb S o).l.length->(Lc i).all D.VI=true:=λi hi=>by rw[ZN i hi];rfl
  have lE:=u.lE;rw[ZT]at lE;apply Qh f;simp only[go_sem,Qa,bu,b8,Z1];refine⟨⟨ω,Z1⟩,?_⟩;have a6:E.length+(Kb S o).l.length=(E++(Kb S o).l).length:=(ZT).symm;rw[a6]at u lE ⊢;obtain⟨v,b0⟩:∃v,v=E++(Kb S o).l:=⟨_,rfl⟩;rw[<- b0]at u lE ⊢;obtain⟨q,a7⟩:∃q,q=(Kb S o).S:=⟨_,rfl⟩;rw[<- a7]at u;obtain⟨H5,a9⟩:∃H5,H5=h4.set y ⟨.arr,g+1,12,v.length,KB E.length 0 L Lc⟩:=⟨_,rfl⟩;rw[<- a9]at u ⊢;obtain⟨O,b7⟩:∃O,O=KB E.length 0 L Lc:=⟨_,rfl⟩;rw[<- b7]at u;have IT:KU q.M.T:=u.V.I.tree;have c4:=IT.len;have ay:=u.V.cl;have qZ:∀a∈x.ops.take (k+1),Je.Ok a:=λa P=>hx a (List.mem_of_mem_take P);have a5:∀e∈v,e.yE:=by rw[u.E_];exact QDV K _ qZ
  have nK:=QbV K _ qZ;rw[<- u.E_]at nK;have k2:=K.l2;have b6:∀e∈v,e.len<=16384:=λe he=>by
   obtain⟨i,hi,rfl⟩:=AQ he;have h:=(nK i hi).2.2.2.1;rw[Q7,QT hi]at h;have h:(v[i]).len<=x.config.ZJ:=h;omega
  have a3:v.length<1048576:=ω;have b5:=QDS JB;have b4:∀o∈(x.ops.take (k+1)).tail,o.kind≠1:=λo z=>b5 o (by
   cases Ao:x.ops with
   | nil=>rw[Ao]at z;simp at z
   | cons a r=>
    rw[Ao]at z;exact List.mem_of_mem_take (i:=k) z)
  have b3:∀c∈q.M.T,1<QS c.rt->Gv (Zq c.rt) (x.config.ZJ.toNat*x.config.t.toNat) x.config.ZJ.toNat v c.iD q.Qd=true:=λc hc F=>by
   have h3:=(VL IT.rising).2 ⟨hc,rfl⟩;rw[u.S_]at h3 ⊢;rw[u.E_];exact QLx K _ (by rw[Qau];omega) qZ b4 h3 F
  obtain⟨t,U⟩:∃t,t=q.M.T.map (·.iD):=⟨_,rfl⟩;have c3:t.length=q.M.T.length:=by rw[U,KK]
  have T:=QEp u.T;rw[<- U]at T;refine JO f Qsf T λd h6 m=>?_;obtain⟨rfl,g6,rfl⟩:=m;have I6:=u.app g6;apply QM f;refine Js (λj s=>∃M tw H,Dq x.config x.ops p (k+1) y (g+1) [(⟨.one,0,3,1,λ_=>x.cells⟩:Ob)] (λ_=>True) M tw H q v O/\s=⟨[(1,.ptr 0 0 0 0),(3,.ptr p 0 0 0),(4,Qb 0),(5,.ref y (g+1) 0 v.length),(36,.imm 10 x.ops.length (Je.rows x.ops)),(37,Qb x.ops.length),(38,Qb k),(52,ints t),(53,Qb t.length),(54,Qb j)],H⟩) t.length QQ ⟨_,_,_,I6,rfl⟩ ?_;clear I6 T;rintro j _ hj ⟨jJ,c1,H7,I7,rfl⟩;have C:H7[0]? = some (⟨.one,0,3,1,λ_=>x.cells⟩:Ob):=(I7.kp 0 σ trivial).1;have J:=Qc C;by_cases NI:j<t.length
  .have dj:=Q1 NI;have a1:=Vl (show j<4611686018427387904 from ω);obtain⟨id,Zg⟩:∃id,id=t.getD j 0:=⟨_,rfl⟩;obtain⟨c,hc⟩:∃c,c=q.M.T.getD j default:=⟨_,rfl⟩;have LP:c∈q.M.T:=by rw[hc];exact zR _ default j ω
   have eA:c.iD=id:=by rw[Zg,U,hc,getD_map (λc:Qq=>c.iD) q.M.T default 0 j ω]
   have Wh:=(VL IT.rising).2 ⟨LP,eA⟩;have Z:=b3 c LP;rw[eA]at Z;have V:=I7.T;obtain⟨_,_,_,_,Tx⟩:=V;obtain⟨n,hn,oR⟩:=Tx.co.I.Ij Wh;have BP:=(Tx.co.I.vW c LP).nn.1;rw[<- oR]at BP Z;have hG:=QEo I7.T hn;have B:=DY n.c;have I8:=I7.app [QEn n (JP q.M id) (Xo q.M id n)];apply Qh f;simp only[go_sem,Qa,dj,NI,<- Zg];apply JD f Qsg hG;apply QM f;have b2:=Qmw I8.T;have a4:(H7++[QEn n (JP q.M id) (Xo q.M id n)])[y]? = some ⟨.arr,g+1,12,v.length,O⟩:=I8.ZM;apply QB f [0,1,2,3,4,1005,6,7,8,9,10,11,12,13,14,1015,1016,17,18,19];simp only[go_sem,Qa,C,J];by_cases F:1<QS n.c.rt;case neg=>
    rw[QU F]at B;refine KJ f y0 ?_ B ?_
    .simp only[go_sem,Qa,Go.undef,C,J]
    apply Zd f;simp only[go_sem,Qa,Go.undef,C,J];exact⟨NI,_,QH.frame (by simp only[go_sem,a1]),_,_,_,I8,rfl⟩
   rw[Q1 F]at B;have Z:=Z F;obtain⟨a,P⟩:∃a:Nat,n.c.rt.m1=a:=⟨n.c.rt.m1.toNat,by have:=BP.1;omega⟩;obtain⟨dd,hd⟩:∃a:Nat,n.c.rt.d=a:=⟨n.c.rt.d.toNat,by have:=BP.2.1;omega⟩;obtain⟨b,Yt⟩:∃a:Nat,n.c.rt.m2=a:=⟨n.c.rt.m2.toNat,by have:=BP.2.2;omega⟩;have Np:Zq n.c.rt=⟨a,dd,b⟩:=by unfold Zq;rw[P,hd,Yt];rfl
   rw[Np]at Z;have a2:=Qpa x.config K a dd b v id q.Qd a3 a5 ω (λfr=>Qpu a3 b6 ω id q.Qd fr);rw[Z]at a2;have a8:=Q9.QLt (h:=H7++[QEn n (JP q.M id) (Xo q.M id n)]) (args':=[.agg x.config.cells,iu a dd b,.ref y (g+1) 0 v.length,Qb id,u64 q.Qd]) a2 rfl rfl (λd hh h=>h.1) rfl (λi hi=>by
    obtain rfl|rfl|rfl|rfl|rfl:i=0\/i=1\/i=2\/i=3\/i=4:=(by have:i<5:=hi;omega)
    .exact .agg _ rfl
    .exact .agg _ rfl
    .exact QLw a4 I8.rw_
    .exact .cl _ rfl
    .exact .cl _ rfl)
   refine KJ f y0 ?_ B ?_
   .simp only[go_sem,Qa,Go.undef,C,J]
   apply Zd f;simp only[go_sem,Qa,Go.undef,C,J];refine qz f Qsh ?_ b2 ?_
   .simp only[go_sem,Qa,Qa,C,J,P,hd,Yt,Go.undef]
   apply Zd f;simp only[go_sem,Qa,Qa,C,J,P,hd,Yt,Go.undef];refine qz f dt ?_ a8 ?_
   .simp only[go_sem,Qa,Qa,C,J,P,hd,Yt,Go.undef]
   apply Zd f;simp only[go_sem,Qa,Qa,C,J,P,hd,Yt,Go.undef];exact⟨NI,_,QH.frame (by simp only[go_sem,a1]),_,_,_,I8,rfl⟩
  .obtain rfl:j=t.length:=ω;have dj:=QU NI;apply Qh f;simp only[go_sem,Qa,dj,NI];apply QM f;exact⟨Q,_,QH.frame (by simp only[go_sem,Zs]),_,_,_,_,_,_,_,I7,rfl⟩
 .obtain rfl:k=x.ops.length:=ω;have dk:=QU Q;apply Qh f;simp only[go_sem,Qa,dk,Q];apply QM f;refine kv f [] tj rfl ?_ nH rfl λd h m=>?_
  .simp only[go_sem,Qa]
  obtain⟨rfl,rfl⟩:=m;simp only[go_sem,Qa];exact Mj f
end Go.Fg.X
namespace Go.Fg.X
open Go.Proofs Go.Fg Go.Proofs.YtmkmaijnnmaaoaaGreat
open Go.ChangeShapes Go.RowKit
open Go.Proofs.Tryz
def QLM:laidOutB prog=true:=τ
def QLN:mapsRowed prog=true:=τ
def QLO:prog.stopsHeard=true:=τ
def QLP:prog.mayEnter=true:=τ
def QLQ:(Rows.serveGuaranteeRow.lifted==prog.liftsFinal)=true:=τ
def QLR:(prog.make==some Rows.serveGuaranteeRow.make)=true:=τ
end Go.Fg.X
namespace Go.Fg.X
open Go.Proofs Go.Fg Go.Proofs.YtmkmaijnnmaaoaaGreat
open Go.ChangeShapes Go.WideShapes Go.ChangeAt Go.RowKit
open Go.Proofs.Tryz
def QLS:ownKnob prog.godebug=none:=τ
def QLT:laidOutB prog=true:=τ
def QLU(w:Os)(b:w.Started)(H:Type)(c:TypeId × Value->H):
  ReturnsInHanded {} checked w 4 .any (Rows.serveGuaranteeSpec.pre6 c prog f4 Rows.serveGuaranteeRow.domain false) (Rows.serveGuaranteeSpec.post c prog f4 false true false false):=by
 refine returnsInHanded_of_change (C:=checked) QLS b τ func4
  (ChangeSpec.witness6 (enc:=c) (C:=checked) false ⟨#[],#[.agg #[.int .i64 0,.int .i64 0,.slice none 0 0]],[]⟩ 12 τ τ τ τ) ?_
 intro W l a Q Y n g z U _;have f:∀(j:Nat) t v,f4.params[j]? = some t->a[j]? = some v->Value.okWide prog W .any l t v:=g;have r:=z;obtain⟨p,q,d,P,rfl,Pq,Jh⟩:=z;have B:DataW.TrodAll c prog W 0 (λ_=>true) true f4.params.toList a.toList Q p:=d;rw[params4]at B f;obtain⟨u,S,d0,T,K,V,Z,rfl,rfl,E,J⟩:=trodAll_cons B;obtain⟨rfl,rfl,rfl⟩:=trodAll_nil J;obtain rfl:a=#[u]:=by cases a;simp_all
 obtain⟨rfl,rfl⟩:=trodVars_none P;obtain⟨s,rfl,_⟩:=okWide_struct underlying26 (f 0 26 u rfl rfl);have t0:=E;have o:∀x∈K,x.block<W.heap.size:=by obtain⟨m,M⟩:=t0;exact DataW.trod_lt m _ _ _ M
 obtain⟨I,L,R⟩:=Rd.many Qt5 E;clear d g;have k:Calls prog 4 #[.agg s] W λe F=>e=.returned (.bool true)/\Below W.heap.size W F:=QtX (QLy I L.2.1.2) W [_] rfl (λi N=>match i,N with
  | 0,_=>R)
 refine k.mono λe F ⟨O,y⟩=>?_;subst O;exact⟨_,rfl,_,_,_,[],_,[],r,trodAll_mk1 (shut_bool underlying4 _),(trodAll_cons_mk (Below.trod QLT τ (X9 τ) t0 y o) trodAll_mk0),rfl,y.frame _,λh=>by cases h⟩
def jn{a b}(d:a=true)(c:b=true):(a&&b)=true:=by rw[d,c];rfl
def QLY:(Rows.serveGuaranteeRow.inPlace==prog.inPlace 4)=true:=τ
def QLZ:(Rows.serveGuaranteeRow.unfollowed==prog.unfollowed 4)=true:=τ
def QL0:(Rows.serveGuaranteeRow.recurses==prog.recurses 4)=true:=τ
def QL1:(Rows.serveGuaranteeRow.named==prog.varsNamed 4)=true:=τ
def QL2:(Rows.serveGuaranteeRow.maps==(f4.params.toList++Rows.serveGuaranteeSpec.plain.varTypes prog).any (prog.mapsRec ·))=true:=τ
def QL3:(Rows.serveGuaranteeRow.ifaces==(f4.params.toList++Rows.serveGuaranteeSpec.plain.varTypes prog).any (prog.ifacesRec ·))=true:=τ
def QL4:(Rows.serveGuaranteeRow.loops==(f4.params.toList++Rows.serveGuaranteeSpec.plain.varTypes prog).any (prog.loopsFrom ·))=true:=τ
def QL5:joinedFacts prog 4 f4 Rows.serveGuaranteeSpec Rows.serveGuaranteeRow=true:=by
 unfold joinedFacts;refine(jn (jn (jn (jn (jn (jn (jn (jn (jn (jn (jn (jn (jn (jn (jn (jn (jn (jn (jn (jn (jn (jn (jn (jn (jn (jn (jn (jn (jn (jn (jn ?_ QLM) QLN) ?_) ?_) ?_) ?_) ?_) ?_) QLY) QLZ) QL0) QL1) QL2) QL3) ?_) QL4) ?_) ?_) ?_) ?_) ?_) ?_) ?_) QLO) QLP) QLQ) QLR) ?_) ?_) ?_) ?_);all_goals kernel_rfl
def QL6:prog.funcNamed Rows.serveGuaranteeRow.func=some 4:=τ
theorem provedServeGuarantee:Rows.ServeGuaranteeSaid:=
 OpenClaim.holds_of_wide 4 f4 rfl rfl rfl rfl rfl rfl rfl ⟨rfl,rfl,rfl,rfl,rfl⟩ rfl rfl rfl rfl rfl QL6 func4 QL5
  (X9 τ) (by unfold Func.isWrapper;first|(rw[Qf (by decide +kernel)];kernel_rfl)|(rw[Qe (by decide +kernel)];exact⟨rfl,rfl⟩))
  (λc a H b _=>QLU c a H b)
end Go.Fg.X
namespace Go.Proofs.YtmkmaijnnmaaoaaGreat
theorem serveGuarantee_done: Rows.ServeGuaranteeSaid := Go.Fg.X.provedServeGuarantee
end Go.Proofs.YtmkmaijnnmaaoaaGreat
