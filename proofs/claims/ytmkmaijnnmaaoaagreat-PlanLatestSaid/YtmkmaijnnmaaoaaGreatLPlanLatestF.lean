/- The statement PlanLatest is proved. No conditions. -/
import Derived.Test.YtmkmaijnnmaaoaaGreatTMzF
import Derived.Test.YtmkmaijnnmaaoaaGreatPC3F
import Derived.Test.YtmkmaijnnmaaoaaGreatCA3F
import Derived.Test.YtmkmaijnnmaaoaaGreatRows
set_option maxRecDepth 100000
set_option maxHeartbeats 16000000
set_option linter.unusedVariables false
set_option linter.unusedSimpArgs false
set_option linter.unusedSectionVars false
set_option linter.defProp false
namespace Go.Fg.X
open Go.Proofs Go.Fg Go.Fg.X.SP
open Go.Proofs.Tryz
def QKz(x:YU)(h:x.ops.length<1000000):Q9 prog 21 [.agg x.cells] (Zp (QZ (Lb x.ops))):=by
 refine ZH 0 func21 ntmps21 results21 λo w l=>?_;simp only[go_sem];refine fm (G:=Nat) [6,7] (λk=>∀j,j<k->0<j->(x.ops.getD j default).kind≠1) (λk g=>[(8,Qb k)]) (λk g=>[]) (x.ops.length) (0) rfl (QH.to 0 (by (simp only[go_sem])<;>simp)) ?_ ?_
 .intro j c;omega
 intro k g i f;apply Za l;have n:=Vl (show k<4611686018427387904 from ω);first|refine yX i (λa=>?_) (λa=>?_)|refine yY i (λa=>?_) (λa=>?_)
 .simp only[go_sem,a];by_cases m:0<k
  .have d0:=Q1 (show (0:Int)<k from ω);by_cases d:(x.ops.getD k default).kind=1
   .have e:=zS d;have q:Lb x.ops=false:=by
     rw[jW];intro p;exact QmB.1 p k a m d
    simp only[go_sem,d0,e,q]
   .have e:=XM d;simp only[go_sem,d0,e];repeat (refine And.intro η ?_)
    refine⟨_,QH.to 0 (by (simp only[go_sem,n])<;>simp),yW.mk (0) (?_)⟩;intro j c b;rcases AR.1 c with h|rfl
    .exact f j h b
    .exact d
  .have d0:=QU (show ¬(0:Int)<k from ω);simp only[go_sem,d0];repeat (refine And.intro η ?_)
   refine⟨_,QH.to 0 (by (simp only[go_sem,n])<;>simp),yW.mk (0) (?_)⟩;intro j c b;rcases AR.1 c with h|rfl
   .exact f j h b
   .exact absurd b m
 .simp only[go_sem];apply Za l;subst a;rw[QmB.2 f]
def Dq.QKA{c}{h}{p k m g}{x:YU}{f a}{j d}{H b}{S}{E}{e}(I:Dq c h p k m g [(⟨.one,0,3,1,λ_=>x.cells⟩:Ob)] (λ_=>True) f j H S E e)(T:Wt a d b p S)
  (i:∀l,l<[(⟨.one,0,3,1,λ_=>x.cells⟩:Ob)].length->True->b[l]? = [(⟨.one,0,3,1,λ_=>x.cells⟩:Ob)][l]?/\a l=.no/\d l=.my):RM x a d b p S:=
 ⟨T,I.V,I.C,(i 0 σ trivial).1,(i 0 σ trivial).2⟩
section
variable (n:Nd)(a:Bool)(f:Nat)
@[go_sem] theorem QMl:List.take 3 (List.drop 3 (jk n a f))=n.c.rt.cells:=rfl
end
def QhV{r}{l:List Ev}:∀i,∀j∈Jz r l i,(l.getD j default).cls=r/\(l.getD j default).Zy=true
 | 0,j,a=>by cases a
 | i+1,j,a=>by
  have b:=QhV (r:=r) (l:=l) i;unfold Jz at a;split at a
  .rename_i d;split at a
   .rename_i c;rcases QX.1 a with a|a
    .exact b j a
    .rw[Xq]at a;rw[a];exact⟨d,c⟩
   .exact b j (NS a)
  .exact b j a
def itC(I:List Nat)(t:Nat):List D:=[Qb ((I.getD t 0:Nat):Int)]
def QKB(x:YU)(hx:∀a∈x.ops,Je.Ok a):Q9 prog 5 [.agg x.cells] (Zp (QZ true)):=by
 refine QCt (R:=λd hh=>d=QZ true) _ rfl (λd hh h=>.inl (h▸Hu _ _)) ?_;have J:=QEl x 150 π;have hM:=QA0 x.config;have nH:=QKy;refine QdR VK 200 func5 rfl ntmps5 results5 rfl λc1 w f=>?_;simp only[go_sem,Qa];cases a4:Dm x 150 with
 | false=>
  rw[a4]at J;refine kv f [] fI rfl ?_ J rfl λd h m=>?_
  .simp only[go_sem,Qa,Go.undef]
  obtain⟨rfl,rfl⟩:=m;simp only[go_sem,Qa,Go.undef];apply Qh f;simp only[go_sem,Qa,Go.undef];refine kv f [] Qbn rfl ?_ nH rfl λd h m=>?_
  .simp only[go_sem,Qa]
  obtain⟨rfl,rfl⟩:=m;simp only[go_sem,Qa];exact Mj f
 | true=>
 rw[a4]at J;cases a3:aG x.config with
 | false=>
  rw[a3]at hM;refine kv f [] fI rfl ?_ J rfl λd h m=>?_
  .simp only[go_sem,Qa,Go.undef]
  obtain⟨rfl,rfl⟩:=m;simp only[go_sem,Qa,Go.undef];apply Qh f;simp only[go_sem,Qa,Go.undef];refine kv f [] pO rfl ?_ hM rfl λd h m=>?_
  .simp only[go_sem,Qa,Go.undef]
  obtain⟨rfl,rfl⟩:=m;simp only[go_sem,Qa,Go.undef];apply Qh f;simp only[go_sem,Qa,Go.undef];refine kv f [] Qbn rfl ?_ nH rfl λd h m=>?_
  .simp only[go_sem,Qa]
  obtain⟨rfl,rfl⟩:=m;simp only[go_sem,Qa];exact Mj f
 | true=>
 rw[a3]at hM;have K:=QA7.1 a3;obtain⟨c0,Ji⟩:=QEt a4 hx;have O:=QKz x ω;cases JB:Lb x.ops with
 | false=>
  rw[JB]at O;refine kv f [] fI rfl ?_ J rfl λd h m=>?_
  .simp only[go_sem,Qa,Go.undef]
  obtain⟨rfl,rfl⟩:=m;simp only[go_sem,Qa,Go.undef];apply Qh f;simp only[go_sem,Qa,Go.undef];refine kv f [] pO rfl ?_ hM rfl λd h m=>?_
  .simp only[go_sem,Qa,Go.undef]
  obtain⟨rfl,rfl⟩:=m;simp only[go_sem,Qa,Go.undef];apply Qh f;simp only[go_sem,Qa,Go.undef];refine kv f [] Qjq rfl ?_ O rfl λd h m=>?_
  .simp only[go_sem,Qa,Go.undef]
  obtain⟨rfl,rfl⟩:=m;simp only[go_sem,Qa,Go.undef];apply Qh f;simp only[go_sem,Qa,Go.undef];refine kv f [] Qbn rfl ?_ nH rfl λd h m=>?_
  .simp only[go_sem,Qa]
  obtain⟨rfl,rfl⟩:=m;simp only[go_sem,Qa];exact Mj f
 | true=>
 rw[JB]at O;refine kv f [] fI rfl ?_ J rfl λd h m=>?_
 .simp only[go_sem,Qa,Go.undef]
 obtain⟨rfl,rfl⟩:=m;simp only[go_sem,Qa,Go.undef];apply Qh f;simp only[go_sem,Qa,Go.undef];refine kv f [] pO rfl ?_ hM rfl λd h m=>?_
 .simp only[go_sem,Qa,Go.undef]
 obtain⟨rfl,rfl⟩:=m;simp only[go_sem,Qa,Go.undef];apply Qh f;simp only[go_sem,Qa,Go.undef];refine kv f [] Qjq rfl ?_ O rfl λd h m=>?_
 .simp only[go_sem,Qa,Go.undef]
 obtain⟨rfl,rfl⟩:=m;simp only[go_sem,Qa,Go.undef];apply Qh f;simp only[go_sem,Qa,Go.undef];have hN:=QCs (own:=λ_=>.no) (tw:=λ_=>.my) (λ_ _=>rfl) [(⟨.one,0,3,1,λ_=>x.cells⟩:Ob)] K;refine DX f Qsd hN λd M m=>?_;obtain⟨JF,VO,p,rfl,T1,K1⟩:=m;have XJ:M[0]? = some _:=K1.my 0 σ rfl;have yC:=Qc XJ;apply Qh f;simp only[go_sem,Qa,XJ,yC];have a5:∀l,l<[(⟨.one,0,3,1,λ_=>x.cells⟩:Ob)].length->True->l<M.length/\M[l]? = [(⟨.one,0,3,1,λ_=>x.cells⟩:Ob)][l]?/\JF l=.no/\VO l=.my:=λl hl _=>by
  have:l=0:=by simpa using hl
  subst this;exact⟨yC,XJ,K1.s1 0 σ,K1.s2 0 σ⟩
 have I0:=Dq.start (ops:=x.ops) T1 a5 (by have:=K1.len;simpa using this);obtain⟨Q,ZM⟩:∃Q,Q=M.length:=⟨_,rfl⟩;refine DL (QH.QaS 5 12 (by simp only[go_sem])) ?_;simp only[go_sem];rw[<- ZM]at I0 ⊢;refine Js (λk s=>∃g L tw H S E u,Dq x.config x.ops p k Q g [(⟨.one,0,3,1,λ_=>x.cells⟩:Ob)] (λ_=>True) L tw H S E u/\s=⟨[(1,.ptr 0 0 0 0),(3,.ptr p 0 0 0),(4,Qb 0),(5,.ref Q g 0 E.length),(46,.imm 10 x.ops.length (Je.rows x.ops)),(47,Qb x.ops.length),(48,Qb k)],H⟩) x.ops.length QQ ⟨_,_,_,_,_,_,_,I0,rfl⟩ ?_;clear I0 T1 K1 XJ yC hN a5 ZM;rintro k _ hk ⟨g,L,tw,H,S,E,u,I,rfl⟩;by_cases Qr:k<x.ops.length
 .have dk:=Q1 Qr;have Zs:=Vl (show k<4611686018427387904 from ω);obtain⟨o,ho⟩:∃o,o=x.ops.getD k default:=⟨_,rfl⟩;have nJ:o∈x.ops:=by rw[ho];exact zR x.ops default k Qr
  obtain⟨⟨_,_,_,_,Tx⟩,hV,hC,mQ⟩:=And.intro I.T (And.intro I.V (And.intro I.C I.mQ));have b8:=QCn ⟨_,_,_,_,Tx.EM [⟨.one,0,10,1,λ_=>o.cells⟩]⟩ hV hC ω o (Ji o nJ).1 (Ji o nJ).2.c (Ji o nJ).2.r;apply Qh f;simp only[go_sem,Qa,dk,Qr,<- ho];refine JO f Qse b8 λd h2 m=>?_;obtain⟨dl,J9,XF,rfl,T2,s2,K2⟩:=m;refine LZ VK f 8 ?_;simp only[go_sem,Qa];obtain⟨Lc,h4,EE,IQ,W4,ZN,bu,I4⟩:=I.step Qr (ho▸(Ji o nJ).1.2.1.2) (ho▸T2) (ho▸s2) K2 [⟨.one,0,3,1,λ_=>(Kb S o).r.cells⟩] (w0:=⟨w,[],[]⟩) rfl rfl (fr:=[(1,.ptr 0 0 0 0),(3,.ptr p 0 0 0),(4,Qb 0),(5,.ref Q g 0 E.length),(9,dl),(46,.imm 10 x.ops.length (Je.rows x.ops)),(47,Qb x.ops.length),(48,Qb k)]) 9 rfl;rw[<- ho]at W4 ZN I4;refine Tl (QH.trans (QH.frame (fr':=[(1,.ptr 0 0 0 0),(3,.ptr p 0 0 0),(4,Qb 0),(5,.ref Q g 0 E.length),(9,dl),(46,.imm 10 x.ops.length (Je.rows x.ops)),(47,Qb x.ops.length),(48,Qb k)]) (by simp only[go_sem])) W4) ?_;have b9:=Qc bu;have Z1:∀i,i<(Kb S o).l.length->(Lc i).all D.VI=true:=λi hi=>by rw[ZN i hi];rfl
  have lE:=I4.lE;rw[ZT]at lE;apply Qh f;simp only[go_sem,Qa,bu,b9,Z1];refine⟨⟨ω,Z1⟩,?_⟩;have b6:E.length+(Kb S o).l.length=(E++(Kb S o).l).length:=(ZT).symm;rw[b6]at I4 lE ⊢;obtain⟨E5,a8⟩:∃E5,E5=E++(Kb S o).l:=⟨_,rfl⟩;rw[<- a8]at I4 lE ⊢;rw[a8]at I4 ⊢;exact⟨Qr,_,QH.frame (by simp only[go_sem,Zs]),_,_,_,_,_,_,_,I4,rfl⟩
 .obtain rfl:k=x.ops.length:=ω;have dk:=QU Qr;have lE:=I.lE;have eS:=I.S_;have eE:=I.E_;rw[YH]at eS eE;apply Qh f;simp only[go_sem,Qa,dk,Qr];obtain⟨h5,Ar,mN,W5,T5,k5⟩:=I.close (w0:=⟨w,[],[]⟩) rfl rfl (fr:=[(1,.ptr 0 0 0 0),(3,.ptr p 0 0 0),(4,Qb 0),(5,.ref Q g 0 E.length)]) 5 rfl;refine DL (QH.trans (QH.frame (fr':=[(1,.ptr 0 0 0 0),(3,.ptr p 0 0 0),(4,Qb 0),(5,.ref Q g 0 E.length)]) (by simp only[go_sem])) W5) ?_;have Y:=I.QKA T5 k5;clear W5 T5 k5;have IT:KU S.M.T:=I.V.I.tree;have c8:=IT.len;have ay:=I.V.cl;have b4:∀e∈E,e.yE:=by rw[eE];exact QDV K x.ops hx
  have nK:=QbV K x.ops hx;rw[<- eE]at nK;have PS:∀o∈x.ops.tail,o.kind≠1:=QDS JB;have k1:=K.l1;have k2:=K.l2;have k3:=K.t1;have k4:=K.t2;have b5:Qba x.config.t x.config.ZJ=true:=Q1 ⟨k3,k4,k1,k2⟩;obtain⟨q,a2⟩:∃q,q=S.M.T.map (·.iD):=⟨_,rfl⟩;have c3:q.length=S.M.T.length:=by rw[a2,KK]
  have hC:=QEp Y.T;rw[<- a2]at hC;clear I;apply QM f;refine JO f Qsf hC λd h6 m=>?_;obtain⟨rfl,g6,rfl⟩:=m;have Y6:=Y.app g6;apply QM f;refine Js (λj s=>∃L tw H,RM x L tw H p S/\s=⟨[(1,.ptr 0 0 0 0),(3,.ptr p 0 0 0),(4,Qb 0),(5,wU E),(63,ints q),(64,Qb q.length),(65,Qb j)],H⟩) q.length QQ ⟨_,_,_,Y6,rfl⟩ ?_;clear Y6 Y hC;rintro j _ hj ⟨L,tw,H,Y,rfl⟩;by_cases NI:j<q.length
  .have dj:=Q1 NI;have a6:=Vl (show j<4611686018427387904 from ω);obtain⟨id,Zg⟩:∃id,id=q.getD j 0:=⟨_,rfl⟩;obtain⟨c,hc⟩:∃c,c=S.M.T.getD j default:=⟨_,rfl⟩;have LP:c∈S.M.T:=by rw[hc];exact zR _ default j ω
   have eA:c.iD=id:=by rw[Zg,a2,hc,getD_map (λc:Qq=>c.iD) S.M.T default 0 j ω]
   have Wh:=(VL IT.rising).2 ⟨LP,eA⟩;have V:=Y.T;obtain⟨_,_,_,_,Tx⟩:=V;obtain⟨n,hn,oR⟩:=Tx.co.I.Ij Wh;have BP:=(Tx.co.I.vW c LP).nn.1;rw[<- oR]at BP Wh;have hG:=QEo Y.T hn;have J:=DY n.c;have Y7:=Y.app [QEn n (JP S.M id) (Xo S.M id n)];have ju:=Y.hx;have bw:=Qc ju;apply Qh f;simp only[go_sem,Qa,dj,NI,<- Zg];apply JD f Qsg hG;apply QM f;by_cases M:1<QS n.c.rt;case neg=>
    rw[QU M]at J;refine JG f y0 ?_ J ?_
    .simp only[go_sem,Qa,Go.undef]
    apply Qh f;simp only[go_sem,Qa,Go.undef];exact⟨NI,_,QH.frame (by simp only[go_sem,a6]),_,_,_,Y7,rfl⟩
   rw[Q1 M]at J;obtain⟨a,ha⟩:∃a:Nat,n.c.rt.m1=a:=⟨n.c.rt.m1.toNat,by have:=BP.1;omega⟩;obtain⟨dd,hd⟩:∃a:Nat,n.c.rt.d=a:=⟨n.c.rt.d.toNat,by have:=BP.2.1;omega⟩;obtain⟨b,Yt⟩:∃a:Nat,n.c.rt.m2=a:=⟨n.c.rt.m2.toNat,by have:=BP.2.2;omega⟩;have Np:Zq n.c.rt=⟨a,dd,b⟩:=by unfold Zq;rw[ha,hd,Yt];rfl
   have nN:=m6 BP M;rw[Np]at nN;have c7:a<=4294967295:=nN.a;have c5:b<=4294967295:=nN.b;have c4:dd<=1048576:=nN.d;obtain⟨A,B⟩:=QKq K x.ops ω hx PS (r:=id) (k:=n.c) (by rw[<- eS];exact Wh) M BP (by rw[<- eS];exact ay);rw[<- eE,Np]at A B;rw[<- eS]at B;dsimp only at A B;have b0:=λk hk hi hc=>Qqm x.config.t x.config.ZJ a dd b E id k ω ω ω ω b4 b5 hk hi hc;have a9:=λ(G:List Ob)=>Qmw (Y.app G).T;refine JG f y0 ?_ J ?_
   .simp only[go_sem,Qa,Go.undef]
   apply Qh f;simp only[go_sem,Qa,Go.undef];refine DL (QH.QaS 14 1 (by simp only[go_sem])) ?_;simp only[go_sem];obtain⟨W,a1⟩:∃W,W=H++[(⟨.one,0,67,1,λ_=>jk n (JP S.M id) (Xo S.M id n)⟩:Ob)]:=⟨_,rfl⟩;have Y7:RM x _ _ W p S:=a1▸Y7;rw[<- a1];obtain⟨nO,jD⟩:∃nO,nO=W.length:=⟨_,rfl⟩;rw[<- jD];have gS:=Y7.hx;have C:=Qc gS;have z:W[H.length]? = some (QEn n (JP S.M id) (Xo S.M id n)):=by rw[a1];exact Vq rfl
   have F:=Qc z;clear hG J ju bw;refine Js (λi s=>∃g u I nI v G,s=⟨[(1,.ptr 0 0 0 0),(3,.ptr p 0 0 0),(4,Qb 0),(5,wU E),(63,ints q),(64,Qb q.length),(65,Qb j),(11,Qb id),(12,.ptr H.length 0 0 0),(14,.ref nO g 0 nI),(15,Qb ((v:Nat):Int)),(81,wU E),(82,Qb E.length),(83,Qb i)],W++((⟨.arr,g,1,nI,u⟩:Ob)::G)⟩/\nI=List.length I/\(∀t,t<List.length I->u t=itC I t)/\v<=List.length I/\List.length I<=i/\Jz id E i=List.drop v I) E.length QQ ⟨0,λ_=>[],[],0,0,[],rfl,rfl,λt ht=>absurd ht (Xc t),Qs _,Qs _,rfl⟩ ?_;rintro i _ hi ⟨g,u,I,nI,v,G,rfl,rfl,ZN,pq,c9,hq⟩;by_cases T:i<E.length
   .have di:=Q1 T;have U4:=Vl (show i<4611686018427387904 from ω);obtain⟨e,he⟩:∃e,e=E.getD i default:=⟨_,rfl⟩;have hA:=A i T;rw[<- he]at hA;have U:Jz id E (i+1)=if e.cls=id then (if e.Zy=true then Jz id E i++[i] else (Jz id E i).tail) else Jz id E i:=by rw[he];rfl
    rw[hq]at U hA;by_cases vq:e.cls=id;case neg=>
     have b1:=Qt6 vq;rw[Qe vq]at U;apply Qh f;simp only[go_sem,Qa,di,T,<- he,b1];exact⟨_,QH.frame (by simp only[go_sem,U4]),g,u,I,_,v,_,rfl,rfl,ZN,pq,ω,U⟩
    have b1:=Qga vq;rw[Qf vq]at U;cases Vp:e.Zy with
    | true=>
     rw[Vp,Qf rfl]at U;apply Qh f;simp only[go_sem,Qa,di,T,<- he,b1,Vp,jD];have ZO:(I++[i]).length=I.length+1:=by rw[ZT];rfl
     refine⟨ω,_,QH.frame (by simp only[go_sem,U4]),g+1,KB I.length 0 u (λ_=>[Qb (i:Int)]),I++[i],I.length+1,v,_,rfl,ZO.symm,λt ht=>?_,by rw[ZO];omega,by rw[ZO];omega,by rw[U,QbY pq]⟩;by_cases h5:t<I.length
     .have h6:(I++[i]).getD t 0=I.getD t 0:=by rw[Q7,Q7,JY h5]
      rw[A4 h5,JM,ZN t h5];unfold itC;rw[h6]
     .obtain rfl:t=I.length:=by rw[ZO]at ht;omega
      have h6:(I++[i]).getD I.length 0=i:=by rw[Q7,Kw (Qs _),YJ];rfl
      rw[xM (Qs _)];unfold itC;rw[h6]
    | false=>
     rw[Vp,Qe π]at U;obtain⟨y,Q',P,e1⟩:=hA vq Vp;have Ad:v<I.length:=by
      apply jX;intro h;rw[bG ω]at P;cases P
     have b7:I.getD v 0=y:=by
      have h6:=congrArg (λl=>l.getD 0 0) P;rw[Q7,GO,xG]at h6;rw[Q7,h6];rfl
     have a7:y∈Jz id E i:=by rw[hq,P];exact Z3
     have BQ:=B0 id E i y a7;obtain⟨y1,y2⟩:=QhV i y a7;have hL:=b0 y ω y2 y1;have N:=ZN v Ad;have ei:itC I v=[Qb (y:Int)]:=by unfold itC;rw[b7]
     rw[ei]at N;have d1:=QU (show ¬I.length<=v from ω);have x3:=QU (show ¬((tN x.config.t x.config.ZJ a dd b (E.take (y+1)) id:Nat):Int)<e.done by omega);have b3:=Vl (show v<4611686018427387904 from ω);have Gu:(I.drop v).tail=I.drop (v+1):=by rw[List.tail_drop]
     apply Qh f;simp only[go_sem,Qa,di,T,<- he,b1,Vp,jD,d1];apply QB f [0,1,2,3,4,5,6,7,8,9,10,1011,12,13,14,15,16];simp only[go_sem,Qa,gS,C,z,F,N,ha,hd,Yt,Ad,Go.undef];refine KJ f Qb1 ?_ hL ?_
     .simp only[go_sem,Qa,gS,C,z,F,N,ha,hd,Yt,Ad,Go.undef,x3]
     apply Zd f;simp only[go_sem,Qa,gS,C,z,F,N,ha,hd,Yt,Ad,Go.undef,x3];exact⟨T,_,QH.frame (by simp only[go_sem,U4,b3]),g,u,I,_,v+1,_,rfl,rfl,ZN,ω,ω,by rw[U,Gu]⟩
   .obtain rfl:i=E.length:=ω;have di:=QU T;apply Qh f;simp only[go_sem,Qa,di,T];have hz:((I.length:Int) - (v:Int)).toNat=I.length - v:=ω;obtain⟨Z,KM⟩:∃Z,Z=I.length - v:=⟨_,rfl⟩;have Y8:=Y7.app ((⟨.arr,g,1,I.length,u⟩:Ob)::G);have a9:=Qmw Y8.T;apply Qh f;simp only[go_sem,Qa,pq,jD];rw[hz,<- KM];refine Js (λt s=>s=⟨[(1,.ptr 0 0 0 0),(3,.ptr p 0 0 0),(4,Qb 0),(5,wU E),(63,ints q),(64,Qb q.length),(65,Qb j),(11,Qb id),(12,.ptr H.length 0 0 0),(130,.ref W.length g v Z),(131,Qb Z),(132,Qb t)],W++((⟨.arr,g,1,I.length,u⟩:Ob)::G)⟩) Z QQ rfl ?_;rintro t _ ht rfl;by_cases bx:t<Z
    .have dt:=Q1 bx;have b2:=Vl (show t<4611686018427387904 from ω);have qF:=ZN (v+t) ω;obtain⟨y,TH⟩:∃y,y=I.getD (v+t) 0:=⟨_,rfl⟩;have ei:itC I (v+t)=[Qb (y:Int)]:=by unfold itC;rw[<- TH]
     rw[ei]at qF;have a0:y∈Jz id E E.length:=by
      rw[hq,TH,Q7,QT ω];refine NQ.2 ⟨t,by rw[bJ];omega,?_⟩;rw[List.getElem_drop];rfl
     have BQ:=B0 id E E.length y a0;obtain⟨y1,y2⟩:=QhV E.length y a0;have hL:=b0 y BQ y2 y1;have e0:=B y a0;have x3:=QU (show ¬tN x.config.t x.config.ZJ a dd b (E.take (y+1)) id<=S.Qd from ω);apply Qh f;simp only[go_sem,Qa,dt,bx,qF,gS,C,z,F,ha,hd,Yt];refine⟨ω,?_⟩;refine JG f Qb1 ?_ hL ?_
     .simp only[go_sem,Qa,gS,C,z,F,ha,hd,Yt,Go.undef]
     apply Qh f;simp only[go_sem,Qa,gS,C,z,F,ha,hd,Yt,Go.undef];refine Xg f Qsh ?_ a9 ?_
     .simp only[go_sem,Qa,x3,Go.undef]
     apply Qh f;simp only[go_sem,Qa,x3,Go.undef];exact⟨bx,_,QH.frame (by simp only[go_sem,b2]),rfl⟩
    .obtain rfl:t=Z:=ω;have dt:=QU bx;apply Qh f;simp only[go_sem,Qa,dt];apply QM f;exact⟨NI,_,QH.frame (by simp only[go_sem,a6]),_,_,_,Y8,rfl⟩
  .obtain rfl:j=q.length:=ω;have dj:=QU NI;apply Qh f;simp only[go_sem,Qa,dj,NI];apply QM f;refine kv f [] Qbn rfl ?_ nH rfl λd h m=>?_
   .simp only[go_sem,Qa]
   obtain⟨rfl,rfl⟩:=m;simp only[go_sem,Qa];exact Mj f
end Go.Fg.X
namespace Go.Fg.X
open Go.Proofs Go.Fg Go.Proofs.YtmkmaijnnmaaoaaGreat
open Go.ChangeShapes Go.RowKit
open Go.Proofs.Tryz
def QKJ:laidOutB prog=true:=τ
def QKK:mapsRowed prog=true:=τ
def QKL:prog.stopsHeard=true:=τ
def QKM:prog.mayEnter=true:=τ
def QKN:(Rows.planLatestRow.lifted==prog.liftsFinal)=true:=τ
def QKO:(prog.make==some Rows.planLatestRow.make)=true:=τ
end Go.Fg.X
namespace Go.Fg.X
open Go.Proofs Go.Fg Go.Proofs.YtmkmaijnnmaaoaaGreat
open Go.ChangeShapes Go.WideShapes Go.ChangeAt Go.RowKit
open Go.Proofs.Tryz
def QKP:ownKnob prog.godebug=none:=τ
def QKQ:laidOutB prog=true:=τ
def QKR(w:Os)(b:w.Started)(H:Type)(c:TypeId × Value->H):
  ReturnsInHanded {} checked w 5 .any (Rows.planLatestSpec.pre6 c prog f5 Rows.planLatestRow.domain false) (Rows.planLatestSpec.post c prog f5 false true false false):=by
 refine returnsInHanded_of_change (C:=checked) QKP b τ func5
  (ChangeSpec.witness6 (enc:=c) (C:=checked) false ⟨#[],#[.agg #[.int .i64 0,.int .i64 0,.slice none 0 0]],[]⟩ 12 τ τ τ τ) ?_
 intro W l a Q Y n g z U _;have f:∀(j:Nat) t v,f5.params[j]? = some t->a[j]? = some v->Value.okWide prog W .any l t v:=g;have r:=z;obtain⟨p,q,d,P,rfl,Pq,Jh⟩:=z;have B:DataW.TrodAll c prog W 0 (λ_=>true) true f5.params.toList a.toList Q p:=d;rw[params5]at B f;obtain⟨u,S,d0,T,K,V,Z,rfl,rfl,E,J⟩:=trodAll_cons B;obtain⟨rfl,rfl,rfl⟩:=trodAll_nil J;obtain rfl:a=#[u]:=by cases a;simp_all
 obtain⟨rfl,rfl⟩:=trodVars_none P;obtain⟨s,rfl,_⟩:=okWide_struct underlying26 (f 0 26 u rfl rfl);have t0:=E;have o:∀x∈K,x.block<W.heap.size:=by obtain⟨m,M⟩:=t0;exact DataW.trod_lt m _ _ _ M
 obtain⟨I,L,R⟩:=Rd.many Qt5 E;clear d g;have k:Calls prog 5 #[.agg s] W λe F=>e=.returned (.bool true)/\Below W.heap.size W F:=QtX (QKB I L.2.1.2) W [_] rfl (λi N=>match i,N with
  | 0,_=>R)
 refine k.mono λe F ⟨O,y⟩=>?_;subst O;exact⟨_,rfl,_,_,_,[],_,[],r,trodAll_mk1 (shut_bool underlying4 _),(trodAll_cons_mk (Below.trod QKQ τ (X9 τ) t0 y o) trodAll_mk0),rfl,y.frame _,λh=>by cases h⟩
def jn{a b}(d:a=true)(c:b=true):(a&&b)=true:=by rw[d,c];rfl
def QKV:(Rows.planLatestRow.inPlace==prog.inPlace 5)=true:=τ
def QKW:(Rows.planLatestRow.unfollowed==prog.unfollowed 5)=true:=τ
def QKX:(Rows.planLatestRow.recurses==prog.recurses 5)=true:=τ
def QKY:(Rows.planLatestRow.named==prog.varsNamed 5)=true:=τ
def QKZ:(Rows.planLatestRow.maps==(f5.params.toList++Rows.planLatestSpec.plain.varTypes prog).any (prog.mapsRec ·))=true:=τ
def QK0:(Rows.planLatestRow.ifaces==(f5.params.toList++Rows.planLatestSpec.plain.varTypes prog).any (prog.ifacesRec ·))=true:=τ
def QK1:(Rows.planLatestRow.loops==(f5.params.toList++Rows.planLatestSpec.plain.varTypes prog).any (prog.loopsFrom ·))=true:=τ
def QK2:joinedFacts prog 5 f5 Rows.planLatestSpec Rows.planLatestRow=true:=by
 unfold joinedFacts;refine(jn (jn (jn (jn (jn (jn (jn (jn (jn (jn (jn (jn (jn (jn (jn (jn (jn (jn (jn (jn (jn (jn (jn (jn (jn (jn (jn (jn (jn (jn (jn ?_ QKJ) QKK) ?_) ?_) ?_) ?_) ?_) ?_) QKV) QKW) QKX) QKY) QKZ) QK0) ?_) QK1) ?_) ?_) ?_) ?_) ?_) ?_) ?_) QKL) QKM) QKN) QKO) ?_) ?_) ?_) ?_);all_goals kernel_rfl
def QK3:prog.funcNamed Rows.planLatestRow.func=some 5:=τ
theorem provedPlanLatest:Rows.PlanLatestSaid:=
 OpenClaim.holds_of_wide 5 f5 rfl rfl rfl rfl rfl rfl rfl ⟨rfl,rfl,rfl,rfl,rfl⟩ rfl rfl rfl rfl rfl QK3 func5 QK2
  (X9 τ) (by unfold Func.isWrapper;first|(rw[Qf (by decide +kernel)];kernel_rfl)|(rw[Qe (by decide +kernel)];exact⟨rfl,rfl⟩))
  (λc a H b _=>QKR c a H b)
end Go.Fg.X
namespace Go.Proofs.YtmkmaijnnmaaoaaGreat
theorem planLatest_done: Rows.PlanLatestSaid := Go.Fg.X.provedPlanLatest
end Go.Proofs.YtmkmaijnnmaaoaaGreat
