/- Contracts and laws on the way to the statement. No conditions. -/
import Derived.Test.YtkfemlhbbcojnaaGreatXM3D
import Derived.Test.YtkfemlhbbcojnaaGreatCA3D
set_option maxRecDepth 100000
set_option maxHeartbeats 16000000
set_option linter.unusedVariables false
set_option linter.unusedSimpArgs false
set_option linter.unusedSectionVars false
set_option linter.defProp false
namespace Go.Fg.X
open Go.Proofs Go.Fg
open Go.Proofs.Tryz
def QH3(m:Nat)(L:List Nat)(q:Nat)(lm:Int)(hm:m<18446744073709551616)(hL:L.length<2147483648)(hq:q<18446744073709551616):
  QW prog 55 [u64 m,us L,u64 q,Qa lm] (QN (.tup [u64 (if Qhe m L q lm then 0 else QnD m L q lm.toNat),Qa (if Qhe m L q lm then 1 else 0)])):=by
 refine QyO 0 Q4 10 func55 rfl ntmps55 results55 rfl λbase w hb=>?_;simp only[go_sem];first|refine qa ?_|skip
 refine Bb [0,1,2,3] [(44,QT (decide (Qhe m L q lm)))] rfl ?_ ?_
 .apply Qn hb;by_cases c1:64<L.length
  .have d1:decide ((64:Int)<(L.length:Int))=true:=ξ;have hbd:Qhe m L q lm:=.inl c1;simp only[go_sem,d1];exact Qz.to 0 (by (simp only[go_sem,QU hbd])<;>simp)
  have d1:decide ((64:Int)<(L.length:Int))=false:=ξ;simp only[go_sem,d1];apply ZK hb QLV (QO9 L hL);apply Qn hb;cases c2:L.any (λx=>!SL x);case true=>
   have hbd:Qhe m L q lm:=.inr (.inl c2);simp only[go_sem];exact Qz.to 0 (by (simp only[go_sem,QU hbd])<;>simp)
  simp only[go_sem];apply ZK hb QLY (QPb L m hL);apply Qn hb;cases c3:L.any (λx=>x==m);case false=>
   have hbd:Qhe m L q lm:=.inr (.inr (.inl c3));simp only[go_sem];exact Qz.to 0 (by (simp only[go_sem,QU hbd])<;>simp)
  have yq:Qhe m L q lm↔1099511627776<q\/lm<1\/16384<lm:=by
   unfold Qhe;rw[c2,c3];simp only[q7,false_or,reduceCtorEq,c1]
  have hd:decide (Qhe m L q lm)=decide (1099511627776<q\/lm<1\/16384<lm):=by rw[decide_eq_decide];exact yq
  rw[hd];simp only[go_sem]
  repeat' (first|((first|refine QfZ (λh=>?_) (λh=>?_)|refine Qf0 (λh=>?_) (λh=>?_)|refine QgF (λh=>?_) (λh=>?_)|refine YA (λh=>?_) (λh=>?_)|refine QgM (λh=>?_) (λh=>?_)|refine Qhb (λh=>?_) (λh=>?_)|refine F5 (λh=>?_) (λh=>?_)|refine FW (λh=>?_) (λh=>?_))<;>(try simp only[go_sem]))|(refine And.intro ω ?_;try simp only[go_sem]))
  all_goals exact Qz.to 0 (by (simp only[go_sem])<;>(congr 2;first|(rw[vG];simp only[XL];omega)|exact(QU ω).symm|exact(QI ω).symm))
 by_cases hbd:Qhe m L q lm
 .apply Qg hb;simp only[go_sem,QU hbd,Qd hbd,IC]
 obtain⟨u,rfl,hg⟩:=QPl hbd;have b:=QH2 hg;have hs:0<F3 L:=kG b.m1 b.s1;have s1:=QPf L hg.len (λx hx=>(hg.sl x hx).2);have hV:QnD m L q u=if m*(q*65536)<m*(2*QiN L u+2)*F3 L then 0 else cdiv (m*(q*65536) - m*(2*QiN L u+2)*F3 L) (F3 L*65536):=rfl;have hle:=least_le hg;have e0:QiN L u=cdiv (u*65536) (Qeq L):=rfl;have xw:=hg.u2;have QRG:=hg.q;obtain⟨T,hT⟩:∃T,T=QiN L u:=⟨_,rfl⟩;obtain⟨S,hS⟩:∃S,S=F3 L:=⟨_,rfl⟩;obtain⟨lo,Zq⟩:∃lo,lo=Qeq L:=⟨_,rfl⟩;obtain⟨b1,b2,b3,b4,b5,b6,b7,b8,b9⟩:=b;rw[<- hT]at b7 b9 hV e0;rw[<- hS]at b3 b4 hV hs s1;rw[<- Zq]at b5 b6 e0 s1;have w0:IntKind.u64.wrap (u:Int)=(u:Int):=η;have w1:IntKind.u64.wrap ((q:Int)*65536)=((q*65536:Nat):Int):=η;have w2:IntKind.u64.wrap (2*(T:Int))=((2*T:Nat):Int):=η;have w3:IntKind.u64.wrap (((2*T:Nat):Int)+2)=((2*T+2:Nat):Int):=η;have w4:=Qsf m (2*T+2) ω;have w5:IntKind.u64.wrap ((S:Int)*65536)=((S*65536:Nat):Int):=η;have bX:m*(q*65536)<2 ^ 127:=Pv b8 π;have bY:m*(2*T+2)*S<2 ^ 128:=Pv (qC b9 b4) π;have bK:m*(2*T+2)<18446744073709551616:=Pv b9 π;have Cq:=QKt u 65536 lo ω π ω b5 ω (by rw[<- e0];omega);rw[<- e0]at Cq;apply Qg hb;simp only[go_sem,QI hbd,Qc hbd];apply ZK hb QLZ s1;apply Qn hb;refine cT hb QJ7 ?_ Cq ?_
 .simp only[go_sem,w0,c65]
 apply Qg hb;simp only[go_sem,w0];refine cT hb Ba ?_ (Bm m (q*65536) hm ω) ?_
 .simp only[go_sem,w1]
 apply Qg hb;simp only[go_sem,w1,w2,w3,w4];apply ZK hb Ba (Bm (m*(2*T+2)) S bK ω);apply Qn hb;obtain⟨X,hX⟩:∃X,X=m*(q*65536):=⟨_,rfl⟩;obtain⟨Y,hY⟩:∃Y,Y=m*(2*T+2)*S:=⟨_,rfl⟩;rw[<- hX]at bX hV ⊢;rw[<- hY]at bY hV ⊢;apply ZK hb Qp3 (Qtt X Y ω bY);apply Qn hb;by_cases h:X<Y
 .rw[Qd h]at hV;simp only[go_sem,QU h,hV,IC]
 .rw[Qc h]at hV;have e5:(X+2 ^ 128 - Y) % 2 ^ 128=X - Y:=ω;have Z7:=QKs (X - Y) (S*65536) ω ω ω (by rw[<- hV];omega);rw[<- hV]at Z7;simp only[go_sem,QI h,e5,w5];apply ZK hb Qde Z7;exact qQ hb
end Go.Fg.X
namespace Go.Fg.X
open Go.Proofs Go.Fg
open Go.Proofs.Tryz
def QPn(m n k least)(lm:Int)(hk:lm.toNat=k)(h:EE m n least lm=true):Qb1 m n k least<2 ^ 127:=by
 unfold EE at h;simp only[Zy,XL]at h;have a1:=(QeY h.1.1.1).2;have a2:=(QeY h.1.1.2).2;have a3:=(QeY h.1.2).1;have hc:=QFr (k*65536) least a3;have b0:2*cdiv (k*65536) least+2<=2147483650:=ω;have b1:=qC (qC b0 a1) a2;exact Pv b1 π
def Qlm(m v n t least:Nat)(lm:Int):Bool:=(gE m v n t&&EE m n least lm)&&decide (Qb3 m v n t<=Qb1 m n lm.toNat least)
def Qxo(m v n t)(lm)(least)(hm:m<18446744073709551616)(hn:n<18446744073709551616)(hv:v<18446744073709551616)(ht:t<18446744073709551616)(hl:least<18446744073709551616):
  QW prog 50 [got m v,got n t,Qa lm,u64 least] (QN (QT (Qlm m v n t least lm))):=by
 have n0:((0:Int)==0)=true:=rfl;have n1:((1:Int)==0)=false:=rfl;refine xT 0 func50 ntmps50 results50 λbase w hb=>?_;simp only[go_sem];apply ZK hb Qwx (Qw3 m v n t hm hn hv ht);apply Qn hb;apply ZK hb QvD (QFM m v n t lm least hm hn hl);apply Qn hb;cases hR:gE m v n t
 .have hF:Qlm m v n t least lm=false:=by unfold Qlm;rw[hR];rfl
  simp only[go_sem,q7,vN,n1,hF]
 .cases hM:EE m n least lm
  .have hF:Qlm m v n t least lm=false:=by unfold Qlm;rw[hR,hM];rfl
   simp only[go_sem,q7,vN,Vs,n0,n1,hF]
  .have g1:=QO6 m v n t hR;have g2:=QPn m n _ least lm rfl hM;have g3:=QO5 m v n t;have hF:Qlm m v n t least lm=decide (Qb3 m v n t<=Qb1 m n lm.toNat least):=by unfold Qlm;rw[hR,hM];rfl
   simp only[go_sem,Vs,n0];apply ZK hb mL (o6 (Qb3 m v n t) (Qb1 m n lm.toNat least) ω ω);apply Qn hb;rw[hF];congr 2;by_cases q1:Qb3 m v n t<Qb1 m n lm.toNat least
   .rw[Qd q1,QU (Nat.le_of_lt q1)];rfl
   .rw[Qc q1];by_cases q2:Qb3 m v n t=Qb1 m n lm.toNat least
    .rw[Qd q2,QU (Nat.le_of_eq q2)];rfl
    .rw[Qc q2];exact(QI (show ¬ Qb3 m v n t<=Qb1 m n lm.toNat least from ω)).symm
def QH4:QW prog 48 [] (QN (QT true)):=by
 have s1:=QH3 131072 [65536,131072] 3000 100 π π π;rw[Qc π,Qc π,show QnD 131072 [65536,131072] 3000 (100:Int).toNat=1596 by decide]at s1;have r1:gE 65536 300 131072 100=true:=π;have r2:gE 131072 100 65536 300=true:=π;have s2:=Qw3 65536 300 131072 100 π π π π;rw[Qd r1,Qd r1,show Qb3 65536 300 131072 100=32768000*65536 by decide]at s2;have s3:=Qw3 131072 100 65536 300 π π π π;rw[Qd r2,Qd r2,show Qb3 131072 100 65536 300=0 by decide]at s3;have s4:=Qxo 131072 100 65536 300 1 65536 π π π π π;rw[show Qlm 131072 100 65536 300 65536 1=true by decide]at s4;have s5:=Qxo 65536 300 131072 100 1 65536 π π π π π;rw[show Qlm 65536 300 131072 100 65536 1=false by decide]at s5;have s6:=Bm 32768000 65536 π π;have c1:((131072:Nat):Int)=131072:=rfl;have c2:((3000:Nat):Int)=3000:=rfl;have c3:((300:Nat):Int)=300:=rfl;have c4:((100:Nat):Int)=100:=rfl;have c5:((1596:Nat):Int)=1596:=rfl;have c6:((32768000:Nat):Int)=32768000:=rfl;refine xT 0 func48 ntmps48 results48 λbase w hb=>?_;simp only[go_sem];refine cT hb QBg ?_ s1 ?_
 .simp only[go_sem,c1,c2];refine⟨λi hi=>?_,λi hi=>?_⟩;all_goals (obtain rfl|rfl:i=0\/i=1:=by omega)
  all_goals rfl
 apply Qn hb;refine cT hb Qwx ?_ s2 ?_
 .simp only[go_sem,c65,c1,c3,c4]
 apply Qn hb;refine cT hb Qwx ?_ s3 ?_
 .simp only[go_sem,c65,c1,c3,c4]
 apply Qn hb;apply Qn hb;apply QF hb [0,1,2,3,4,5,6,7,1008,9,10,11,12,13,14,15,16,17,18,19,20,21,22,23,24,25,26,1027,28,29,30,31,1032,33,34,35];simp only[go_sem];refine Qad hb Ba ?_ s6 ?_
 .simp only[go_sem,c6,c65]
 apply ZH hb;simp only[go_sem,Hj,Bool.and_self];refine Qad hb Qwl ?_ s4 ?_
 .simp only[go_sem,c65,c1,c3,c4]
 apply ZA hb;refine Qad hb Qwl ?_ s5 ?_
 .simp only[go_sem,c65,c1,c3,c4]
 exact Iq hb
def QPo(x:YD)(h:x.ops.length<1000000):QW prog 105 [.agg x.cells] (QN (QT (E6 x.ops))):=by
 refine xT 0 func105 ntmps105 results105 λbase w hb=>?_;simp only[go_sem];refine MW (G:=Nat) [6,7] (λk=>∀j,j<k->0<j->(x.ops.getD j default).kind≠1) (λk γ=>[(8,Qa k)]) (λk γ=>[]) (x.ops.length) (0) rfl (Qz.to 0 (by (simp only[go_sem])<;>simp)) ?_ ?_
 .intro j hj;omega
 intro k γ hk Kj;apply Qn hb;have Zb:=J9 (show k<4611686018427387904 from ω);first|refine jO hk (λQj=>?_) (λQj=>?_)|refine jP hk (λQj=>?_) (λQj=>?_)
 .simp only[go_sem,Qj];by_cases h0:0<k
  .have d0:=QU (show (0:Int)<k from ω);by_cases h1:(x.ops.getD k default).kind=1
   .have e1:=qN h1;have ff:E6 x.ops=false:=by
     rw[Xe];intro hf;exact Qjl.1 hf k Qj h0 h1
    simp only[go_sem,d0,e1,ff]
   .have e1:=Xl h1;simp only[go_sem,d0,e1];repeat (refine And.intro δ ?_)
    refine⟨_,Qz.to 0 (by (simp only[go_sem,Zb])<;>simp),XT.mk (0) (?_)⟩;intro j hj j0;rcases vM.1 hj with h|rfl
    .exact Kj j h j0
    .exact h1
  .have d0:=QI (show ¬(0:Int)<k from ω);simp only[go_sem,d0];repeat (refine And.intro δ ?_)
   refine⟨_,Qz.to 0 (by (simp only[go_sem,Zb])<;>simp),XT.mk (0) (?_)⟩;intro j hj j0;rcases vM.1 hj with h|rfl
   .exact Kj j h j0
   .exact absurd j0 h0
 .simp only[go_sem];apply Qn hb;subst Qj;rw[Qjl.2 Kj]
def QH5{own}{tw}{h}{p}{S:ZF}(T:Wr own tw h p S){id}(hn:Qh S.M.N id=none):Q6 prog 35 h [.ptr p 0 0 0,Qa id] (λd=>d=.tup [.agg QbL,Qa 6]):=by
 obtain⟨ps,pl,pr,pt,T⟩:=T;have ho:=ZC T.o;obtain⟨L,C⟩:=T.co.ex;have hP:=λ(F:List Ob) (hF:F=h.map Ob.ro) (G:List Ob)=>QLJ ((C.ro.more (KC hF)).more (zZ (g:=G))) hn;clear C T;refine xD func35 ntmps35 results35 λbase w pl F hF Q7 hb=>?_;rw[<- hF]at ho;have Ql:=Qb ho;simp only[go_sem,Qe,ho,Ql];refine QaX hb Qp2 ?_ (hP F hF _) ?_
 .simp only[go_sem,Qe,QbL]
 apply Qg hb;simp only[go_sem,Qe,QbL];first|exact⟨_,rfl,rfl,rfl⟩|exact⟨_,rfl,rfl⟩|exact⟨_,rfl⟩
def slF(p:Int)(T:List Qq):List Nat:=(T.filter (qi p)).map λc=>c.ls.m2.toNat
def QPp(p)(T:List Qq)(k)(hk:k<T.length):slF p (T.take (k+1))=if qi p (T.getD k default)=true then slF p (T.take k)++[(T.getD k default).ls.m2.toNat] else slF p (T.take k):=by
 unfold slF;rw[getD_take _ default _ hk,Pc,vK];split
 .rename_i h;rw[Pe h];rfl
 .rename_i h;rw[Pd h];simp
def QPq(p)(T:List Qq):(slF p T).length<=T.length:=by
 unfold slF;rw[J1];exact Xx _ _
def QPr{own}{tw}{h}{p}{S}(T:Wr own tw h p S)(par):
  QH prog 106 h [.ptr p 0 0 0,Qa par] (λd h'=>zF (λl=>h.length<=l) h' 1 (λm:Nat=>[u64 m]) d (ni S.M.T par)/\∃g,h'=h++g):=by
 have hC:=QAi T;obtain⟨_,_,_,_,Tx⟩:=T;have TT:=λg=>(⟨_,_,_,_,Tx.BG g⟩:Wr (QV own h .no) (Z4 tw h .my) (h++g) p S);have I:=Tx.co.I;have Kl:=I.wK;refine QQ func106 ntmps106 results106 λbase w pl hb=>?_;simp only[go_sem,Qe];refine Zw hb QpO hC λd h1 hR=>?_;obtain⟨rfl,g0,rfl⟩:=hR;obtain⟨ids,LO⟩:∃ids,ids=S.M.T.map (·.iD):=⟨_,rfl⟩;have hil:ids.length=S.M.T.length:=by rw[LO,J1]
 have Ou:=I.tree.len;rw[<- LO];apply JH hb;refine DF (Qz.Qir 5 1 (by simp only[go_sem])) ?_;simp only[go_sem];obtain⟨lo,Zq⟩:∃lo,lo=(h++g0).length:=⟨_,rfl⟩;rw[<- Zq];refine Z3 (λk s=>∃gn G row,s=⟨[(0,.ptr p 0 0 0),(1,Qa par),(5,.ref lo gn 0 (slF par (S.M.T.take k)).length),(12,ints ids),(13,Qa ids.length),(14,Qa k)],(h++g0)++((⟨.arr,gn,1,(slF par (S.M.T.take k)).length,row⟩:Ob)::G)⟩/\(∀t,t<(slF par (S.M.T.take k)).length->row t=[u64 ((slF par (S.M.T.take k)).getD t default)])/\∀j,j<k->okF par (S.M.T.getD j default)=true) ids.length (Qz.frame (by simp only[go_sem];rfl)) ⟨0,[],λ_=>[],rfl,λt ht=>absurd ht (WZ t),λj hj=>absurd hj (WZ j)⟩ ?_;rintro k _ hk ⟨gn,G,row,rfl,ZG,Kj⟩;by_cases Qj:k<ids.length
 .have dk:=QU Qj;have Zb:=J9 (show k<4611686018427387904 from ω);obtain⟨id,Q8⟩:∃id,id=ids.getD k 0:=⟨_,rfl⟩;obtain⟨c,hc⟩:∃c,c=S.M.T.getD k default:=⟨_,rfl⟩;have FU:c∈S.M.T:=by rw[hc];exact qg _ default k ω
  have kS:c.iD=id:=by rw[Q8,LO,hc,getD_map (λc:Qq=>c.iD) S.M.T default 0 k ω]
  obtain⟨n,hn,lH⟩:=I.Lb ((J6 I.tree.rising).2 ⟨FU,kS⟩);have hG:=λg=>QAh (TT g) hn;have hF:=Ch n.c;have hS:=kY n.c;have hU:=cV n.c;have ZO:=QPp par S.M.T k ω;have hL1:=QPq par (S.M.T.take k);have TA:(S.M.T.take k).length<=64:=Ki (by rw[Qgv];exact Nat.min_le_right _ _) Ou;have BC:=(Kl c FU).nn.2.1.2.2;rw[<- hc,<- lH]at ZO;rw[<- lH]at BC;obtain⟨L,hL⟩:∃L,L=slF par (S.M.T.take k):=⟨_,rfl⟩;rw[<- hL]at ZO ZG hL1 ⊢;obtain⟨mm,cM⟩:∃a:Nat,n.c.ls.m2=a:=⟨n.c.ls.m2.toNat,ω⟩;have hmt:n.c.ls.m2.toNat=mm:=ω;rw[hmt]at ZO;have ff:okF par n.c=false->ni S.M.T par=[]:=λhf=>by
   unfold ni;rw[Qc];intro ha;rw[lH,XK.1 ha c FU]at hf;cases hf
  have tt:okF par n.c=true->∀j,j<k+1->okF par (S.M.T.getD j default)=true:=λhp j hj=>by
   rcases vM.1 hj with h|rfl
   .exact Kj j h
   .rw[<- hc,<- lH];exact hp
  have bad:ni S.M.T par=[]->zF (λl=>h.length<=l) (h++(g0++((⟨.arr,gn,1,L.length,row⟩:Ob)::G))) 1 (λm:Nat=>[u64 m]) .nil (ni S.M.T par):=λe=>.inl ⟨rfl,e⟩;apply Qg hb;simp only[go_sem,Qe,dk,Qj,<- Q8];apply Gp hb QpP (hG _);apply JH hb;have gR:okF par n.c=((!decide (1<QR n.c.rt)&&!decide (1<QR n.c.ul))&&(!(decide (n.c.parent=par)&&decide (1<QR n.c.ls)) || decide (n.c.ls.d=0))):=rfl;have esb:qi par n.c=(decide (n.c.parent=par)&&decide (1<QR n.c.ls)):=rfl;by_cases h1:1<QR n.c.rt
  .rw[QU h1]at hF gR;have e0:=ff (by rw[gR];rfl);refine cT hb yH ?_ hF ?_
   .simp only[go_sem,Qe,Go.undef]
   apply Qg hb;simp only[go_sem,Qe,Go.undef];exact⟨.inl ⟨rfl,e0⟩,_,rfl⟩
  rw[QI h1]at hF gR;refine cT hb yH ?_ hF ?_
  .simp only[go_sem,Qe,Go.undef]
  apply Qg hb;simp only[go_sem,Qe,Go.undef];by_cases h2:1<QR n.c.ul
  .rw[QU h2]at hU gR;have e0:=ff (by rw[gR];rfl);refine cT hb Nj ?_ hU ?_
   .simp only[go_sem,Qe,Go.undef]
   apply Qg hb;simp only[go_sem,Qe,Go.undef];exact⟨.inl ⟨rfl,e0⟩,_,rfl⟩
  rw[QI h2]at hU gR;by_cases h3:n.c.parent=par;case neg=>
   have b3:=QnP h3;rw[QI h3]at gR esb;rw[esb,Qc σ]at ZO;refine cT hb Nj ?_ hU ?_
   .simp only[go_sem,Qe,Go.undef,b3]
   apply Qg hb;simp only[go_sem,Qe,Go.undef,b3];rw[ZO];exact⟨Qj,_,Qz.frame (by simp only[go_sem,Zb]),gn,_,row,rfl,ZG,tt (by rw[gR];rfl)⟩
  have b3:=QrB h3;rw[QU h3]at gR esb;refine cT hb Nj ?_ hU ?_
  .simp only[go_sem,Qe,Go.undef,b3]
  apply Qg hb;simp only[go_sem,Qe,Go.undef,b3];by_cases h4:1<QR n.c.ls;case neg=>
   rw[QI h4]at hS gR esb;rw[esb,Qc σ]at ZO;refine cT hb kX ?_ hS ?_
   .simp only[go_sem,Qe,Go.undef]
   apply Qg hb;simp only[go_sem,Qe,Go.undef];rw[ZO];exact⟨Qj,_,Qz.frame (by simp only[go_sem,Zb]),gn,_,row,rfl,ZG,tt (by rw[gR];rfl)⟩
  rw[QU h4]at hS gR esb;rw[esb,Qd σ]at ZO;by_cases h5:n.c.ls.d=0;case neg=>
   have b5:=QnP h5;rw[QI h5]at gR;have e0:=ff (by rw[gR];rfl);refine cT hb kX ?_ hS ?_
   .simp only[go_sem,Qe,Go.undef,b5]
   apply Qg hb;simp only[go_sem,Qe,Go.undef,b5];exact⟨.inl ⟨rfl,e0⟩,_,rfl⟩
  have b5:=QrB h5;rw[QU h5]at gR;refine cT hb kX ?_ hS ?_
  .simp only[go_sem,Qe,Go.undef,b5,cM,Zq]
  apply Qg hb;simp only[go_sem,Qe,Go.undef,b5,cM,Zq];have MF:=QAe (f:=λm:Nat=>[u64 m]) (L:=L) (M:=[mm]) (r1:=row) (r2:=λ_=>[u64 mm]) ZG (λi hi=>by
   have:i=0:=by simpa using hi
   subst this;rfl)
  rw[ZO];have Jj:(L++[mm]).length=L.length+1:=by rw[ZW];rfl
  rw[Jj]at MF ⊢;exact⟨ω,Qj,_,Qz.frame (by simp only[go_sem,Zb]),gn+1,_,Kt L.length 0 row (λ_=>[u64 mm]),rfl,MF,tt (by rw[gR];rfl)⟩
 .obtain rfl:k=ids.length:=ω;have dk:=QI Qj;apply Qg hb;simp only[go_sem,Qe,dk];apply JH hb;have ha:S.M.T.all (okF par)=true:=by
   rw[XK];intro c hc;obtain⟨i,hi,rfl⟩:=wZ hc;have:=Kj i ω;rw[Q5,QP hi]at this;exact this
  have hl:ni S.M.T par=slF par (S.M.T.take ids.length):=by
   unfold ni;rw[Qd ha,hil,q9];rfl
  rw[hl];exact⟨.inr ⟨lo,gn,row,rfl,by rw[Zq,ZW];exact Qib _ _,by rw[<- V9];exact KV Zq.symm,ZG⟩,_,rfl⟩
end Go.Fg.X
namespace Go.Fg.X
open Go.Proofs Go.Fg
open Go.Proofs.Tryz
section
variable (n:Nd)(a:Bool)(f:Nat)
@[go_sem] theorem QRH:(List.drop 1 (ky n a f)).getD 0 D.undef=.raw (.int .i64 n.c.parent):=rfl
@[go_sem] theorem QRI:(List.drop 14 (ky n a f)).getD 0 D.undef=QT a:=rfl
end
def nj(M:Qk)(par:Int)(s:Nat)(c:Qq):Nat:=if qi par c=true then (s+r6 M c.iD) % 18446744073709551616 else s
def Qv7(M)(par):∀(T:List Qq) (s:Nat),s+Qnq M (T.filter (qi par))<18446744073709551616->T.foldl (nj M par) s=s+Qnq M (T.filter (qi par))
 | [],s,_=>rfl
 | c::T,s,h=>by
  rw[kD];by_cases hb:qi par c=true
  .rw[Pe hb]at h ⊢;have e:Qnq M (c::T.filter (qi par))=r6 M c.iD+Qnq M (T.filter (qi par)):=by unfold Qnq;rw[JQ,Qn9]
   rw[e]at h ⊢;have e2:nj M par s c=s+r6 M c.iD:=by unfold nj;rw[Qd hb];omega
   rw[e2,Qv7 M par T _ ω];omega
  .rw[Pd hb]at h ⊢;have e2:nj M par s c=s:=by unfold nj;rw[Qc hb]
   rw[e2,Qv7 M par T _ h]
def Qok(T:List Qq)(i j par:Int)(M:Qk):List D:=[QT (JV M i),u64 (r6 M i),u64 (r6 M j),u64 (T.foldl (nj M par) 0)]
structure SnI (h:List Ob) (tw0:Nat->TT) (R:Nat->Qk) (T:List Qq) (i j par:Int) (p lo g k:Nat) (own:Nat->Tag) (tw:Nat->TT) (H:List Ob) (S:ZF) (row:Nat->List D):Prop where
 T_:Wr own tw H p S
 V:Jd S
 C:OR S
 A:Sw own tw H lo ⟨.arr,g,4,k,row⟩
 ge:h.length<=lo
 rows:∀t,t<k->row t=Qok T i j par (R (t+1))
 K:∀l,l<h.length->tw0 l=.my->H[l]? = h[l]?/\tw l=.my
section
variable {h:List Ob}{tw0:Nat->TT}{R:Nat->Qk}{T:List Qq}{i j par:Int}{p lo g k n:Nat}{own JW:Nat->Tag}{tw Xd:Nat->TT}{H h2:List Ob}{S:ZF}{row:Nat->List D}
def QH6{H:List Ob}{h:List Ob}{l}(e:H[l]? = h[l]?)(hl:l<h.length):l<H.length:=by
 rw[QP hl]at e;exact KD e
def SnI.app(F:SnI h tw0 R T i j par p lo g k own tw H S row)(G):SnI h tw0 R T i j par p lo g k (QV own H .no) (Z4 tw H .my) (H++G) S row:=by
 obtain⟨_,_,_,_,Tx⟩:=F.T_;refine⟨⟨_,_,_,_,Tx.BG G⟩,F.V,F.C,F.A.app G,F.ge,F.rows,λl hl hm=>?_⟩;obtain⟨a,b⟩:=F.K l hl hm;have:=QH6 a hl;exact⟨(QG this).trans a,(Vh this).trans b⟩
def SnI.yf(F:SnI h tw0 R T i j par p lo g k own tw H S row){o:ZV}(ho:∀q∈o.changes,JN.Ok q)(T2:Wr JW Xd h2 p (JM S o).S)(K2:Jo n own tw H JW Xd h2):SnI h tw0 R T i j par p lo g k JW Xd h2 (JM S o).S row:=by
 refine⟨T2,F.V.do ho,F.C.do o,F.A.yf K2,F.ge,F.rows,λl hl hm=>?_⟩;obtain⟨a,b⟩:=F.K l hl hm;have:=QH6 a hl;exact⟨(K2.my l this b).trans a,(K2.s2 l this).trans b⟩
def SnI.put(F:SnI h tw0 R T i j par p lo g k own tw H S row)(hS:S.M=R (k+1)){r}(hr:r 0=Qok T i j par S.M):
  SnI h tw0 R T i j par p lo (g+1) (k+1) own tw (H.set lo ⟨.arr,g+1,4,k+1,Kt k 0 row r⟩) S (Kt k 0 row r):=by
 obtain⟨_,_,_,_,Tx⟩:=F.T_;refine⟨⟨_,_,_,_,Tx.loc F.A.my.1 (.inr F.A.my.2) _⟩,F.V,F.C,F.A.set _,F.ge,λt ht=>?_,λl hl hm=>?_⟩
 .by_cases h:t<k
  .rw[Az h,JD];exact F.rows t h
  .obtain rfl:t=k:=ω;rw[xk (QB _),xg,hr,hS]
 .have:=F.ge;obtain⟨a,b⟩:=F.K l hl hm;exact⟨by rw[Qr ω];exact a,b⟩
end
def QH7(x:YD)(hlen:x.ops.length<=1000)(ZM:∀o∈x.ops,ZV.Ok o/\ZV.Small o){c0}{own}{tw}{h:List Ob}{p}{S1:ZF}(T1:Wr own tw h p S1)(V1:Jd S1)(C1:OR S1)(eS1:S1=(Zn (S0 c0) (x.ops.take 1)).1)(QM6:S1.ops<=1)(hh:0<h.length)
  {T:List Qq} {i j par:Int} {ci cj:Qq} (kS:Qx T i=some ci) (hcj:Qx T j=some cj) (hT:∀k,0<k->k<=x.ops.length->(Zn (S0 c0) (x.ops.take k)).1.M.T=T) :
  QH prog 49 h [.agg x.cells,.ptr p 0 0 0,Qa i,Qa j,Qa par] (λd h'=>∃lo g row,d=.ref lo g 0 x.ops.length/\h'[lo]? = some ⟨.arr,g,4,x.ops.length,row⟩/\(∀t,t<x.ops.length->row t=Qok T i j par (Zn (S0 c0) (x.ops.take (t+1))).1.M)/\∀l,l<h.length->tw l=.my->h'[l]? = h[l]?):=by
 refine QQ func49 ntmps49 results49 λbase w pl hb=>?_;simp only[go_sem,Qe];obtain⟨lo,Zq⟩:∃lo,lo=(h++[(⟨.one,0,3,1,λ_=>[.raw (.int .i64 x.config.t),.raw (.int .i64 x.config.ZX),.imm 10 x.ops.length (ZV.rows x.ops)]⟩:Ob)]).length:=⟨_,rfl⟩;obtain⟨y9,gD,F0⟩:∃y9 gD,SnI h tw (λq=>(Zn (S0 c0) (x.ops.take q)).1.M) T i j par p lo 0 0 y9 gD ((h++[(⟨.one,0,3,1,λ_=>[.raw (.int .i64 x.config.t),.raw (.int .i64 x.config.ZX),.imm 10 x.ops.length (ZV.rows x.ops)]⟩:Ob)])++[(⟨.arr,0,4,0,λ_=>[]⟩:Ob)]) S1 (λ_=>[]):=by
  obtain⟨_,_,_,_,Tx⟩:=T1;refine⟨_,_,⟨⟨_,_,_,_,(Tx.BG _).BG _⟩,V1,C1,Zq▸Sw.new (by rw[ZW];omega),by rw[Zq,ZW];omega,λt ht=>absurd ht (WZ t),λl hl hm=>?_⟩⟩;have h1:l<(h++[(⟨.one,0,3,1,λ_=>[.raw (.int .i64 x.config.t),.raw (.int .i64 x.config.ZX),.imm 10 x.ops.length (ZV.rows x.ops)]⟩:Ob)]).length:=by rw[ZW];omega
  exact⟨by rw[QG h1,QG hl],by rw[Vh h1,Vh hl];exact hm⟩
 refine DF (Qz.Qir 11 4 (by simp only[go_sem])) ?_;simp only[go_sem];rw[<- Zq];refine Z3 (λk s=>∃g own Jg H S row,SnI h tw (λq=>(Zn (S0 c0) (x.ops.take q)).1.M) T i j par p lo g k own Jg H S row/\S=(Zn (S0 c0) (x.ops.take (max k 1))).1/\S.ops<=k+1/\s=⟨[(1,.ptr p 0 0 0),(2,Qa i),(3,Qa j),(4,Qa par),(11,.ref lo g 0 k),(24,.imm 10 x.ops.length (ZV.rows x.ops)),(25,Qa x.ops.length),(26,Qa k)],H⟩) x.ops.length QM ⟨_,_,_,_,_,_,F0,eS1,QM6,rfl⟩ ?_;clear F0 T1 V1 C1;rintro k _ hk ⟨g,own,Jg,H,S,row,F,eS,G8,rfl⟩;by_cases Qj:k<x.ops.length
 .have dk:=QU Qj;have Zb:=J9 (show k<4611686018427387904 from ω);obtain⟨o,ho⟩:∃o,o=x.ops.getD k default:=⟨_,rfl⟩;have gW:o∈x.ops:=by rw[ho];exact qg x.ops default k Qj
  have F1:=F.app [⟨.one,0,10,1,λ_=>o.cells⟩];refine HU Q4 hb 18 ?_;simp only[go_sem,Qe,dk,Qj,<- ho];first|refine qa ?_|skip
  refine eN (λst=>∃own Jg H S,SnI h tw (λq=>(Zn (S0 c0) (x.ops.take q)).1.M) T i j par p lo g k own Jg H S row/\S=(Zn (S0 c0) (x.ops.take (k+1))).1/\S.ops<=k+2/\st=⟨[(1,.ptr p 0 0 0),(2,Qa i),(3,Qa j),(4,Qa par),(11,.ref lo g 0 k),(24,.imm 10 x.ops.length (ZV.rows x.ops)),(25,Qa x.ops.length),(26,Qa k)],H⟩) ?_ ?_
  .by_cases k0:0<k
   .have d0:=QU (show (0:Int)<k from ω);have hDo:=QzX F1.T_ F1.V F1.C ω o (ZM o gW).1 (ZM o gW).2.c (ZM o gW).2.r;apply Qg hb;simp only[go_sem,Qe,d0];refine cH1 hb QpN hDo λd h2 hR=>?_;obtain⟨dl,JW,Xd,rfl,T2,s2,K2⟩:=hR;have F2:=F1.yf (o:=o) (ZM o gW).1.2.1.2 T2 K2;have eS2:(JM S o).S=(Zn (S0 c0) (x.ops.take (k+1))).1:=by
     rw[Qll (S0 c0) x.ops Qj,<- ho,eS,Nat.max_eq_left k0]
    have QOS:=QiC S o;apply JH hb;exact⟨_,⟨_,_,_,_,F2,eS2,ω,rfl⟩,QM⟩
   .have d0:=QI (show ¬(0:Int)<k from ω);obtain rfl:k=0:=ω;apply Qg hb;simp only[go_sem,Qe,d0];exact⟨_,⟨_,_,_,_,F1,eS,ω,rfl⟩,QM⟩
  clear F F1 eS G8;rintro _ ⟨own,Jg,H,S,F,eS,G8,rfl⟩;have hTk:S.M.T=T:=by rw[eS];exact hT (k+1) ω Qj
  have I:=F.V.I;obtain⟨n',hn',en'⟩:=I.Lb (by rw[hTk];exact kS);obtain⟨m',Mp,em'⟩:=I.Lb (by rw[hTk];exact hcj);have hGi:=QAh F.T_ hn';have hGj:=λG=>QAh (F.app G).T_ Mp;have TY:=F.A.at_;have QBH:=Qb TY;have IT:JG T:=hTk▸I.tree;have Ou:=IT.len;obtain⟨ids,LO⟩:∃ids,ids=T.map (·.iD):=⟨_,rfl⟩;have hil:ids.length=T.length:=by rw[LO,J1]
  have F2:=F.app [QAg n' (JV S.M i) (Wm S.M i n'),QAg m' (JV S.M j) (Wm S.M j m')];have hC:=QAi F2.T_;rw[hTk,<- LO]at hC;apply JH hb;apply Gp hb QpP hGi;apply JH hb;apply Gp hb QpP (hGj _);apply JH hb;refine cH1 hb QpO hC λd h6 hR=>?_;obtain⟨rfl,g6,rfl⟩:=hR;apply JH hb;refine Z3 (λq s=>∃G',s=⟨[(1,.ptr p 0 0 0),(2,Qa i),(3,Qa j),(4,Qa par),(11,.ref lo g 0 k),(24,.imm 10 x.ops.length (ZV.rows x.ops)),(25,Qa x.ops.length),(26,Qa k),(14,.ptr H.length 0 0 0),(16,.ptr (H.length+1) 0 0 0),(49,ints ids),(50,Qa ids.length),(18,u64 ((T.take q).foldl (nj S.M par) 0)),(51,Qa q)],H++(QAg n' (JV S.M i) (Wm S.M i n')::QAg m' (JV S.M j) (Wm S.M j m')::G')⟩) ids.length (s0:=⟨[(1,.ptr p 0 0 0),(2,Qa i),(3,Qa j),(4,Qa par),(11,.ref lo g 0 k),(24,.imm 10 x.ops.length (ZV.rows x.ops)),(25,Qa x.ops.length),(26,Qa k),(14,.ptr H.length 0 0 0),(16,.ptr (H.length+1) 0 0 0),(49,ints ids),(50,Qa ids.length),(18,u64 0),(51,Qa 0)],H++(QAg n' (JV S.M i) (Wm S.M i n')::QAg m' (JV S.M j) (Wm S.M j m')::g6)⟩) QM ⟨g6,rfl⟩ ?_;rintro q _ hq ⟨G',rfl⟩;by_cases hq1:q<ids.length
  .have dq:=QU hq1;have hwq:=J9 (show q<4611686018427387904 from ω);obtain⟨id,Q8⟩:∃id,id=ids.getD q 0:=⟨_,rfl⟩;obtain⟨c,hc⟩:∃c,c=T.getD q default:=⟨_,rfl⟩;have FU:c∈T:=by rw[hc];exact qg _ default q ω
   have fH:c.iD=id:=by rw[Q8,LO,hc,getD_map (λc:Qq=>c.iD) T default 0 q ω]
   obtain⟨u,hu,huc⟩:=I.Lb (by rw[hTk];exact(J6 IT.rising).2 ⟨FU,fH⟩);have hGu:=λG=>QAh (F.app G).T_ hu;have hS:=kY u.c;have est:(T.take (q+1)).foldl (nj S.M par) 0=nj S.M par ((T.take q).foldl (nj S.M par) 0) c:=by
    rw[getD_take _ default _ ω,jo,<- hc];rfl
   have QPw:r6 S.M c.iD=u.QO:=by unfold r6;rw[fH,hu]
   have eal:nj S.M par ((T.take q).foldl (nj S.M par) 0) c=if qi par u.c=true then ((T.take q).foldl (nj S.M par) 0+u.QO) % 18446744073709551616 else (T.take q).foldl (nj S.M par) 0:=by
    unfold nj at *;rw[QPw,huc]
   rw[eal]at est;clear eal;obtain⟨Z,hZ⟩:∃Z,Z=(T.take q).foldl (nj S.M par) 0:=⟨_,rfl⟩;rw[<- hZ]at est ⊢;have esb:qi par u.c=(decide (u.c.parent=par)&&decide (1<QR u.c.ls)):=rfl;apply Qg hb;simp only[go_sem,Qe,dq,hq1,<- Q8];by_cases h3:u.c.parent=par;case neg=>
    have b3:=Xl h3;rw[esb,QI h3,Qc σ]at est;refine QaX hb QpP ?_ (hGu _) ?_
    .simp only[go_sem,Qe,b3,Go.undef]
    apply Qg hb;simp only[go_sem,Qe,b3,Go.undef];exact⟨hq1,_,Qz.frame (by simp only[go_sem,hwq,est]),_,rfl⟩
   have b3:=qN h3;rw[QU h3]at esb;by_cases h4:1<QR u.c.ls;case neg=>
    rw[QI h4]at esb hS;rw[esb,Qc σ]at est;refine QaX hb QpP ?_ (hGu _) ?_
    .simp only[go_sem,Qe,b3,Go.undef]
    apply Qg hb;simp only[go_sem,Qe,b3,Go.undef];refine cT hb kX ?_ hS ?_
    .simp only[go_sem,Qe,Go.undef]
    apply Qg hb;simp only[go_sem,Qe,Go.undef];exact⟨hq1,_,Qz.frame (by simp only[go_sem,hwq,est]),_,rfl⟩
   rw[QU h4]at esb hS;rw[esb,Qd σ]at est;have wa:=Ee Z u.QO;refine QaX hb QpP ?_ (hGu _) ?_
   .simp only[go_sem,Qe,b3,Go.undef]
   apply Qg hb;simp only[go_sem,Qe,b3,Go.undef];refine cT hb kX ?_ hS ?_
   .simp only[go_sem,Qe,Go.undef,wa]
   apply Qg hb;simp only[go_sem,Qe,Go.undef,wa];exact⟨hq1,_,Qz.frame (by simp only[go_sem,hwq,est]),_,rfl⟩
  .obtain rfl:q=ids.length:=ω;have dq:=QI hq1;have QxR:(T.take ids.length).foldl (nj S.M par) 0=T.foldl (nj S.M par) 0:=by rw[hil,q9]
   rw[QxR];have emo:Qok T i j par S.M=[QT (JV S.M i),u64 n'.QO,u64 m'.QO,u64 (T.foldl (nj S.M par) 0)]:=by unfold Qok r6;rw[hn',Mp]
   obtain⟨Z,hZ⟩:∃Z,Z=T.foldl (nj S.M par) 0:=⟨_,rfl⟩;rw[<- hZ]at emo ⊢;have F4:=λG=>(F.put (r:=λ_=>[QT (JV S.M i),u64 n'.QO,u64 m'.QO,u64 Z]) (by rw[eS]) emo.symm).app G;apply Qg hb;simp only[go_sem,Qe,dq,TY,QBH];apply Qg hb;simp only[go_sem,Qe,TY,QBH];exact⟨ω,Qj,_,Qz.frame (by simp only[go_sem,Zb]),_,_,_,_,_,_,F4 _,by rw[Nat.max_eq_left ω];exact eS,G8,rfl⟩
 .obtain rfl:k=x.ops.length:=ω;have dk:=QI Qj;apply Qg hb;simp only[go_sem,Qe,dk];apply JH hb;exact⟨lo,g,row,rfl,F.A.at_,F.rows,λl hl hm=>(F.K l hl hm).1⟩
structure QIa (x:YD) (i j:Int) (h':List Ob) (own:Nat->Tag) (tw:Nat->TT) (p:Nat) (S:ZF) (ci cj:Qq) (dl:D):Prop where
 X:p9 x own tw h' p S
 K:WM x.config
 yg:yg x 150=true
 st:E6 x.ops=true
 l0:0<x.ops.length
 S_:S=(Zn (S0 x.config) (x.ops.take 1)).1
 ops:S.ops<=1
 fi:Qx S.M.T i=some ci
 fj:Qx S.M.T j=some cj
 par:cj.parent=ci.parent
 si:1<QR ci.ls
 sj:1<QR cj.ls
 sl:zF (λl=>0<l/\tw l=.my) h' 1 (λm:Nat=>[u64 m]) dl (ni S.M.T ci.parent)
 ne:ni S.M.T ci.parent≠[]
def QIb(x:YD)(i j)(hx:∀a∈x.ops,ZV.Ok a):QH prog 47 [(⟨.one,0,3,1,λ_=>x.cells⟩:Ob)] [.agg x.cells,Qa i,Qa j] (λd h'=>(∃e c1 c2 dl,d=.tup [e,.agg (Qq.cells c1++Qq.cells c2),dl,QT false]) \/
  ∃own tw p S ci cj dl,d=.tup [.ptr p 0 0 0,.agg (Qq.cells ci++Qq.cells cj),dl,QT true]/\QIa x i j h' own tw p S ci cj dl):=by
 have hF:=Qjb x 150 π;have hM:=Qil x.config;refine QQ func47 ntmps47 results47 λbase w pl hb=>?_;simp only[go_sem,Qe];cases Ha:yg x 150 with
 | false=>
  rw[Ha]at hF;refine VC hb [] Gb rfl ?_ hF rfl λd h hR=>?_
  .simp only[go_sem,Qe,Go.undef]
  obtain⟨rfl,rfl⟩:=hR;simp only[go_sem,Qe,Go.undef];apply Qg hb;simp only[go_sem,Qe,Go.undef];apply QF hb Ua;simp only[go_sem,Qe];exact .inl ⟨_,default,default,_,rfl⟩
 | true=>
 rw[Ha]at hF;cases LQ:OD x.config with
 | false=>
  rw[LQ]at hM;refine VC hb [] Gb rfl ?_ hF rfl λd h hR=>?_
  .simp only[go_sem,Qe,Go.undef]
  obtain⟨rfl,rfl⟩:=hR;simp only[go_sem,Qe,Go.undef];apply Qg hb;simp only[go_sem,Qe,Go.undef];refine VC hb [] Ni rfl ?_ hM rfl λd h hR=>?_
  .simp only[go_sem,Qe,Go.undef]
  obtain⟨rfl,rfl⟩:=hR;simp only[go_sem,Qe,Go.undef];apply Qg hb;simp only[go_sem,Qe,Go.undef];apply QF hb Ua;simp only[go_sem,Qe];exact .inl ⟨_,default,default,_,rfl⟩
 | true=>
 rw[LQ]at hM;have K:=Qiq.1 LQ;obtain⟨hlen,ZM⟩:=QjB Ha hx;have Fe:=QPo x ω;cases ZO:E6 x.ops with
 | false=>
  rw[ZO]at Fe;refine VC hb [] Gb rfl ?_ hF rfl λd h hR=>?_
  .simp only[go_sem,Qe,Go.undef]
  obtain⟨rfl,rfl⟩:=hR;simp only[go_sem,Qe,Go.undef];apply Qg hb;simp only[go_sem,Qe,Go.undef];refine VC hb [] Ni rfl ?_ hM rfl λd h hR=>?_
  .simp only[go_sem,Qe,Go.undef]
  obtain⟨rfl,rfl⟩:=hR;simp only[go_sem,Qe,Go.undef];apply Qg hb;simp only[go_sem,Qe,Go.undef];refine VC hb [] Qww rfl ?_ Fe rfl λd h hR=>?_
  .simp only[go_sem,Qe,Go.undef]
  obtain⟨rfl,rfl⟩:=hR;simp only[go_sem,Qe,Go.undef];apply Qg hb;simp only[go_sem,Qe,Go.undef];apply QF hb Ua;simp only[go_sem,Qe];exact .inl ⟨_,default,default,_,rfl⟩
 | true=>
 rw[ZO]at Fe;by_cases h0:x.ops.length=0
 .have d1:=QU (show (x.ops.length:Int)<1 from ω);refine VC hb [] Gb rfl ?_ hF rfl λd h hR=>?_
  .simp only[go_sem,Qe,Go.undef]
  obtain⟨rfl,rfl⟩:=hR;simp only[go_sem,Qe,Go.undef];apply Qg hb;simp only[go_sem,Qe,Go.undef];refine VC hb [] Ni rfl ?_ hM rfl λd h hR=>?_
  .simp only[go_sem,Qe,Go.undef]
  obtain⟨rfl,rfl⟩:=hR;simp only[go_sem,Qe,Go.undef];apply Qg hb;simp only[go_sem,Qe,Go.undef];refine VC hb [] Qww rfl ?_ Fe rfl λd h hR=>?_
  .simp only[go_sem,Qe,Go.undef,d1]
  obtain⟨rfl,rfl⟩:=hR;simp only[go_sem,Qe,Go.undef,d1];apply Qg hb;simp only[go_sem,Qe,Go.undef,d1];apply QF hb Ua;simp only[go_sem,Qe];exact .inl ⟨_,default,default,_,rfl⟩
 have d1:=QI (show ¬(x.ops.length:Int)<1 from ω);have hk0:0<x.ops.length:=ω;refine VC hb [] Gb rfl ?_ hF rfl λd h hR=>?_
 .simp only[go_sem,Qe,Go.undef]
 obtain⟨rfl,rfl⟩:=hR;simp only[go_sem,Qe,Go.undef];apply Qg hb;simp only[go_sem,Qe,Go.undef];refine VC hb [] Ni rfl ?_ hM rfl λd h hR=>?_
 .simp only[go_sem,Qe,Go.undef]
 obtain⟨rfl,rfl⟩:=hR;simp only[go_sem,Qe,Go.undef];apply Qg hb;simp only[go_sem,Qe,Go.undef];refine VC hb [] Qww rfl ?_ Fe rfl λd h hR=>?_
 .simp only[go_sem,Qe,Go.undef,d1]
 obtain⟨rfl,rfl⟩:=hR;simp only[go_sem,Qe,Go.undef,d1];apply Qg hb;simp only[go_sem,Qe,Go.undef,d1];refine cH1 hb QpM (Qz8 (own:=λ_=>.no) (tw:=λ_=>.my) (λ_ _=>rfl) _ K) λd h1 hR=>?_;obtain⟨Jl,Vr,p,rfl,T1,K1⟩:=hR;have X0:p9 x Jl Vr h1 p (S0 x.config):=⟨T1,Jd.start T1,⟨λk=>Jh _⟩,K1.my 0 σ rfl,K1.s1 0 σ,K1.s2 0 σ⟩;have A1:Sw Jl Vr h1 1 _:=⟨K1.my 1 σ rfl,⟨K1.s1 1 σ,K1.s2 1 σ⟩,π⟩;have A2:Sw Jl Vr h1 2 _:=⟨K1.my 2 σ rfl,⟨K1.s1 2 σ,K1.s2 2 σ⟩,π⟩;have A3:Sw Jl Vr h1 3 _:=⟨K1.my 3 σ rfl,⟨K1.s1 3 σ,K1.s2 3 σ⟩,π⟩;have q1:=A1.at_;have QIc:=Qb q1;obtain⟨o0,ho0⟩:∃o,o=x.ops.getD 0 default:=⟨_,rfl⟩;have QnA:o0∈x.ops:=by rw[ho0];exact qg x.ops default 0 hk0
 have hDo:=QzX X0.T X0.V X0.C (BQ _) o0 (ZM o0 QnA).1 (ZM o0 QnA).2.c (ZM o0 QnA).2.r;apply Qg hb;simp only[go_sem,Qe,q1,QIc,hk0,<- ho0];refine⟨ω,?_⟩;refine Zw hb QpN hDo λd h2 hR=>?_;obtain⟨dl,JW,Xd,rfl,T2,s2,K2⟩:=hR;have X1:=X0.yf (o:=o0) (ZM o0 QnA).1.2.1.2 T2 K2;have B2:=A2.yf K2;have B3:=A3.yf K2;have eS1:(JM (S0 x.config) o0).S=(Zn (S0 x.config) (x.ops.take 1)).1:=by rw[ho0];exact(Qll (S0 x.config) x.ops hk0).symm
 have QM6:(JM (S0 x.config) o0).S.ops<=1:=by rw[QiC];exact QB _
 obtain⟨S1,NZ⟩:∃S1,S1=(JM (S0 x.config) o0).S:=⟨_,rfl⟩;rw[<- NZ]at X1 eS1 QM6;clear T2 s2 K2 T1 K1 X0 q1 QIc hDo A1 A2 A3;have q2:=B2.at_;have Qb5:=Qb q2;have q3:=B3.at_;have Qhg:=Qb q3;have hGi:=λn (h:Qh S1.M.N i=some n)=>QAh X1.T h;have hGj:=λG n (h:Qh S1.M.N j=some n)=>QAh (X1.app G).T h;have QFZ:=λ(h:Qh S1.M.N i=none)=>QH5 X1.T h;have Qoc:=λG (h:Qh S1.M.N j=none)=>QH5 (X1.app G).T h;apply JH hb;cases hni:Qh S1.M.N i with
 | none=>
  refine QaX hb QpP ?_ (QFZ hni) ?_
  .simp only[go_sem,Qe,QbL]
  apply Qg hb;simp only[go_sem,Qe,QbL];cases hnj:Qh S1.M.N j with
  | none=>
   refine QaX hb QpP ?_ (Qoc _ hnj) ?_
   .simp only[go_sem,Qe,QbL,Go.undef]
   apply Qg hb;simp only[go_sem,Qe,QbL,Go.undef];apply QF hb Ub;simp only[go_sem,Qe,q2,Qb5,q3,Qhg,QE Qb5];exact .inl ⟨_,default,default,_,rfl⟩
  | some m=>
   refine QaX hb QpP ?_ (hGj _ m hnj) ?_
   .simp only[go_sem,Qe,QbL,Go.undef]
   apply Qg hb;simp only[go_sem,Qe,QbL,Go.undef];apply QF hb Ub;simp only[go_sem,Qe,q2,Qb5,q3,Qhg,QE Qb5];exact .inl ⟨_,default,default,_,rfl⟩
 | some n=>
 apply Gp hb QpP (hGi n hni);apply JH hb;cases hnj:Qh S1.M.N j with
 | none=>
  refine QaX hb QpP ?_ (Qoc _ hnj) ?_
  .simp only[go_sem,Qe,QbL,Go.undef]
  apply Qg hb;simp only[go_sem,Qe,QbL,Go.undef];apply QF hb Ub;simp only[go_sem,Qe,q2,Qb5,q3,Qhg,QE Qb5];exact .inl ⟨_,default,default,_,rfl⟩
 | some m=>
 have hSi:=kY n.c;have hSj:=kY m.c;by_cases hp:n.c.parent=m.c.parent;case neg=>
  have bp:=QnP hp;refine QaX hb QpP ?_ (hGj _ m hnj) ?_
  .simp only[go_sem,Qe,Go.undef,bp]
  apply Qg hb;simp only[go_sem,Qe,Go.undef,bp];apply QF hb Ub;simp only[go_sem,Qe,q2,Qb5,q3,Qhg,QE Qb5];exact .inl ⟨_,default,default,_,rfl⟩
 have bp:=QrB hp;refine QaX hb QpP ?_ (hGj _ m hnj) ?_
 .simp only[go_sem,Qe,Go.undef,bp]
 apply Qg hb;simp only[go_sem,Qe,Go.undef,bp];by_cases s1:1<QR n.c.ls;case neg=>
  rw[QI s1]at hSi;refine cT hb kX ?_ hSi ?_
  .simp only[go_sem,Qe,Go.undef]
  apply Qg hb;simp only[go_sem,Qe,Go.undef];apply QF hb Ub;simp only[go_sem,Qe,q2,Qb5,q3,Qhg,QE Qb5];exact .inl ⟨_,default,default,_,rfl⟩
 rw[QU s1]at hSi;refine cT hb kX ?_ hSi ?_
 .simp only[go_sem,Qe,Go.undef]
 apply Qg hb;simp only[go_sem,Qe,Go.undef];by_cases s2:1<QR m.c.ls;case neg=>
  rw[QI s2]at hSj;refine cT hb kX ?_ hSj ?_
  .simp only[go_sem,Qe,Go.undef]
  apply Qg hb;simp only[go_sem,Qe,Go.undef];apply QF hb Ub;simp only[go_sem,Qe,q2,Qb5,q3,Qhg,QE Qb5];exact .inl ⟨_,default,default,_,rfl⟩
 rw[QU s2]at hSj;refine cT hb kX ?_ hSj ?_
 .simp only[go_sem,Qe,Go.undef]
 apply Qg hb;simp only[go_sem,Qe,Go.undef];have X2:=X1.app [QAg n (JV S1.M i) (Wm S1.M i n),QAg m (JV S1.M j) (Wm S1.M j m)];have hL:=QPr X2.T n.c.parent;refine cH1 hb QLW hL λd h3 hR=>?_;obtain⟨A7,g3,rfl⟩:=hR;have X3:=X2.app g3;have r2:=λY=>(Qr (h:=h2) (l:=3) (m:=2) (o:=Y) π).trans q2;have r22:∀Y Z:Ob,((h2.set 3 Y).set 2 Z)[2]? = some Z:=λY Z=>QE (by rw[Wu];exact Qb5);have C2:=(B2.app [QAg n (JV S1.M i) (Wm S1.M i n),QAg m (JV S1.M j) (Wm S1.M j m)]).app g3;have C3:=(B3.app [QAg n (JV S1.M i) (Wm S1.M i n),QAg m (JV S1.M j) (Wm S1.M j m)]).app g3;cases QA:ni S1.M.T n.c.parent with
 | nil=>
  rw[QA]at A7;rcases A7 with ⟨rfl,_⟩|⟨lo,g,row,rfl,Zq,ho,_⟩
  .apply Qg hb;simp only[go_sem,Qe,q2,Qb5,q3,Qhg];apply Vk [] hb [0,1,2,3,6] [4,5,7,8,9];simp only[go_sem,Qe,q2,Qb5,q3,Qhg,QE Qhg,r2,r22]
   repeat' apply And.intro
   all_goals exact .inl ⟨_,n.c,m.c,_,rfl⟩
  .apply Qg hb;simp only[go_sem,Qe,q2,Qb5,q3,Qhg];apply Vk [] hb [0,1,2,3,6] [4,5,7,8,9];simp only[go_sem,Qe,q2,Qb5,q3,Qhg,QE Qhg,r2,r22]
   repeat' apply And.intro
   all_goals exact .inl ⟨_,n.c,m.c,_,rfl⟩
 | cons a0 L0=>
 rcases A7 with ⟨_,e⟩|⟨lo,g,row,rfl,Zq,ho,ZG⟩
 .rw[QA]at e;cases e
 have hlen:0<(ni S1.M.T n.c.parent).length:=by rw[QA];exact BQ _
 have QPx:=QU (show (0:Int)<((ni S1.M.T n.c.parent).length:Int) from ω);apply Qg hb;simp only[go_sem,Qe,q2,Qb5,q3,Qhg];apply Vk [] hb [0,1,2,3,6] [4,5,7,8,9];simp only[go_sem,Qe,q2,Qb5,q3,Qhg,QE Qhg,r2,r22,QPx];have st:∀Y Z:Ob,∃own tw,QIa x i j ((h2.set 3 Y).set 2 Z++(QAg n (JV S1.M i) (Wm S1.M i n)::QAg m (JV S1.M j) (Wm S1.M j m)::g3)) own tw p S1 n.c m.c (.ref lo g 0 (ni S1.M.T n.c.parent).length):=λY Z=>by
  have l2:3<(h2++[QAg n (JV S1.M i) (Wm S1.M i n),QAg m (JV S1.M j) (Wm S1.M j m)]).length:=by rw[ZW];omega
  have hH:((((h2++[QAg n (JV S1.M i) (Wm S1.M i n),QAg m (JV S1.M j) (Wm S1.M j m)])++g3).set 3 Y).set 2 Z)=(h2.set 3 Y).set 2 Z++(QAg n (JV S1.M i) (Wm S1.M i n)::QAg m (JV S1.M j) (Wm S1.M j m)::g3):=by
   rw[V9,Cd Qhg,Cd (by rw[Wu];exact Qb5)];rfl
  have X4:=X3.set C3 Y;have D2:Sw _ _ ((((h2++[QAg n (JV S1.M i) (Wm S1.M i n),QAg m (JV S1.M j) (Wm S1.M j m)])++g3).set 3 Y)) 2 _:=⟨(Qr π).trans C2.at_,C2.my,C2.ne⟩;have X5:=X4.set D2 Z;have Sf:3<lo:=kG l2 Zq;have K6:((((h2++[QAg n (JV S1.M i) (Wm S1.M i n),QAg m (JV S1.M j) (Wm S1.M j m)])++g3).set 3 Y).set 2 Z)[lo]? = some ⟨.arr,g,1,(ni S1.M.T n.c.parent).length,row⟩:=by rw[Qr ω,Qr ω];exact ho
  rw[hH]at X5 K6;exact⟨_,_,X5,K,Ha,ZO,hk0,eS1,QM6,X1.V.I.some hni,X1.V.I.some hnj,hp.symm,s1,s2,.inr ⟨lo,g,row,rfl,⟨Pv (Jh _) Sf,EW Zq⟩,K6,ZG⟩,by rw[QA];exact λh=>by cases h⟩
 repeat' apply And.intro
 all_goals (
  obtain⟨ow,tv,st'⟩:=st _ _;exact .inr ⟨ow,tv,p,S1,n.c,m.c,_,rfl,st'⟩)
end Go.Fg.X
