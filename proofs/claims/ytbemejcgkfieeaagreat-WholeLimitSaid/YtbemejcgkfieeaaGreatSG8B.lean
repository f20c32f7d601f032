/- Contracts and laws on the way to the statement. No conditions. -/
import Derived.Test.YtbemejcgkfieeaaGreatYHrB
import Derived.Test.YtbemejcgkfieeaaGreatPB2B
import Derived.Test.YtbemejcgkfieeaaGreatCA2B
set_option maxRecDepth 100000
set_option maxHeartbeats 16000000
set_option linter.unusedVariables false
set_option linter.unusedSimpArgs false
set_option linter.unusedSectionVars false
set_option linter.defProp false
namespace Go.Fg.X
open Go.Proofs Go.Fg
open Go.Proofs.Tryz
def Jk(c:Cv):Nc:=⟨c.m1.toNat,c.d.toNat,c.m2.toNat⟩
def Qy1{c:Cv}(h:c.Nn):((Jk c).a:Int)=c.m1:=Ei h.1
def Qy2{c:Cv}(h:c.Nn):((Jk c).d:Int)=c.d:=Ei h.2.1
def Qy3{c:Cv}(h:c.Nn):((Jk c).b:Int)=c.m2:=Ei h.2.2
def QiT{c:Cv}(h:c.Nn):(Jk c).cells=c.cells:=by simp only[Nc.cells,Cv.cells,u64,Qy1 h,Qy2 h,Qy3 h]
def FP(x:Ql):Bool:=decide (1<QH x.rt)
def VO(L:List Ql):List Nc:=(L.filter FP).map λx=>Jk x.rt
def ur(L:List Ql):(VO L).length<=L.length:=by
 have:=XS FP L;unfold VO;rw[Kj];exact this
def Qy4(L:List Ql){i}(b:i<L.length):VO (L.take (i+1))=if FP (L.getD i default)=true then VO (L.take i)++[Jk (L.getD i default).rt] else VO (L.take i):=by
 unfold VO;rw[zS,QJ b];simp only[Bi,Ih,ju,QW,QJ b,KW];by_cases a:FP L[i]=true;rw[Qd a,Ij a];rfl;rw[Qc a,Ii a];simp
theorem uu(c:Nc):xh 1 c.cells=true:=rfl
def Qy5(L:List Ql)(E:L.length<1000000)(y:∀c∈L,c.Nn):QI prog 38 [KK L] (Pc 3 Nc.cells (VO L)):=by
 refine QY 1 func38 ntmps38 results38 λx w n=>?_;simp only[go_sem];refine ZN (λi s=>∃g a d,VJ Nc.cells (VO (L.take i)) a d/\s=⟨[(3,.ref 0 g a (VO (L.take i)).length),(6,KK L),(7,Qa L.length),(8,Qa i)],[⟨.arr,g,3,a+(VO (L.take i)).length,d⟩]⟩) L.length
  (s0:=⟨[(3,.ref 0 0 0 0),(6,KK L),(7,Qa L.length),(8,Qa 0)],[⟨.arr,0,3,0,λ_=>[]⟩]⟩)
  (Qo.trans (Qo.jw 3 3 (λi=>[]) rfl) QO) ⟨0,0,λ_=>[],.nil,rfl⟩ ?_
 rintro i s t ⟨g,a,d,f,rfl⟩;have B:(VO (L.take i)).length<=i:=by have:=ur (L.take i);simp at this;omega
 have v:=Jr (show i<4611686018427387904 from ω);apply Qg n;first|refine We t (λh=>?_) (λh=>?_)|refine Wf t (λh=>?_) (λh=>?_)
 obtain⟨M,u⟩:∃M,M=VO (L.take i):=⟨_,rfl⟩;obtain⟨e,q⟩:∃e,e=L.getD i default:=⟨_,rfl⟩;have l:e.Nn:=y e (by rw[q,QW,QJ h];exact Xn h);have b:=Qy4 L h;rw[<- u,<- q]at b;rw[<- u]at f B ⊢;have C:M.length<=4294967295:=ω;simp only[go_sem,h,<- q];apply QV n xo (Dp e.rt l.1.1 l.1.2.1 l.1.2.2);apply Qg n;by_cases m:1<QH e.rt;have o:FP e=true:=QS m;rw[Qd o]at b;have r:=f.app (Jk e.rt) (r2:=λ_=>(Jk e.rt).cells) rfl;rw[QiT l.1]at r;simp only[go_sem,QS m,C];repeat (refine And.intro ω ?_)
 refine⟨_,Qo.to 1 ⟨?_,by simp only[go_sem],?_,?_⟩,g+1,0,_,by rw[b];exact r,rfl⟩;simp only[go_sem,v,b,Zk,Kr];exact⟨λj p=>r.upto uu j (by have k:=p;simp only[b]at k;simpa using k),trivial⟩;simp only[go_sem,b,Zk,Kr];have o:¬ FP e=true:=by unfold FP;simpa using m
 rw[Qc o]at b;simp only[go_sem,QG m];repeat (refine And.intro ω ?_)
 refine⟨_,Qo.to 1 ⟨?_,by simp only[go_sem],?_,?_⟩,g,a,_,by rw[b];exact f,rfl⟩;simp only[go_sem,v,b];exact⟨λj p=>f.upto uu j (by have k:=p;simp only[b]at k;simpa using k),trivial⟩;simp only[go_sem,b];have z:i=L.length:=ω;subst z;rw[Wn]at f ⊢;apply Qg n;exact⟨f.upto uu,g,a,d,rfl,rfl,f⟩
def Qy6(L:List Ql)(d:L.length<1000000)(b:∀c∈L,c.Nn):QI prog 38 [KK L] (QN (KV (VO L))):=Ul (λa=>rfl) (Qy5 L d b)
section
variable (h:List Ob)(t m c:Nat){es:List ZC}{L:List Ql}(T:Vy es L)(hlen:L.length<1000000)
 (ht:(h.map Ob.ro)[t]?=some ⟨.Wb,0,1,1,λ_=>[.mref m 0]⟩) (hm:(h.map Ob.ro)[m]?=some (QR .i64 c es).ro)
include T ht hm hlen
theorem Qy7(hn:∀c∈L,c.Nn):W8 prog 98 h [.ptr t 0 0 0] (λd g=>(d=.nil/\VO L=[])\/∃f n k,d=.ref f n 0 (VO L).length/\h.length<=f/\(h++g)[f]?=some ⟨.arr,n,3,(VO L).length,k⟩/\VJ Nc.cells (VO L) 0 k):=by
 refine BR Vd 200 func98 rfl ntmps98 results98 rfl λy w pl F hF Zj b=>?_;rw[<- hF]at ht hm;have Jd:=Qb ht;have Zl:=Qb hm;simp only[go_sem];have hT:SZ (F.map Ob.ro) 107 0 [] FP:=λh' x yg=>by
  refine ZH func107 ntmps107 results107 λy w pl F hF Zj b=>?_;simp only[go_sem,Qj];apply QV b fp (fK x.rt);apply J5 b;exact⟨_,rfl,rfl⟩
 obtain⟨K,B⟩:∃K,K=L.filter FP:=⟨_,rfl⟩;have a1:K.length<=L.length:=by rw[B];exact XS _ _
 have v:VO L=K.map λx=>Jk x.rt:=by rw[B];rfl
 refine Ha b fo rfl ?_ (fQ _ t m c T hlen (Z4 ht) (LF hm) (.raw (.func (.func 107) ⟨[]⟩ ⟨[]⟩)) 107 0 [] Dl rfl _ hT) rfl λd g W=>?_;simp only[go_sem];rw[<- B]at W;rcases W with ⟨rfl,h3⟩|⟨f,n,l,k,rfl,ZQ,z,Y⟩;have O:VO L=[]:=by
  rw[v];have:K=[]:=by simpa using h3
  rw[this];rfl
 apply Qg b;refine ZN (λi s=>s=⟨[(3,.nil),(8,Qa 0),(9,Qa 0)],F++g⟩) 0 QO rfl ?_;rintro i s I rfl;apply Qg b;apply Qg b;exact⟨_,rfl,.inl O⟩;obtain⟨G,C⟩:∃G,G=F++g:=⟨_,rfl⟩;have H:VG F G:=⟨g,C⟩;have r:=H.get ht;have u:=H.get hm;rw[<- C]at z ⊢;have R:=Qb r;have Q:=Qb u;have Qr:=Qb z;rw[Kj]at z Y;have PB:=H.len;apply Qg b;refine ZN (λi s=>∃j o a,VJ Nc.cells ((K.take i).map λx=>Jk x.rt) 0 o/\s=⟨[(0,.ptr t 0 0 0),(3,.ref G.length j 0 ((K.take i).map λx=>Jk x.rt).length),(7,.ref f n l K.length),(8,Qa K.length),(9,Qa i)],G++(⟨.arr,j,3,((K.take i).map λx=>Jk x.rt).length,o⟩::a)⟩) K.length
  (s0:=⟨[(0,.ptr t 0 0 0),(3,.ref G.length 0 0 0),(7,.ref f n l K.length),(8,Qa K.length),(9,Qa 0)],G++[⟨.arr,0,3,0,λ_=>[]⟩]⟩)
  (Qo.trans (Qo.jw 3 3 (λi=>[]) rfl) (Qo.frame (by simp only[go_sem,Kj]))) ⟨0,λ_=>[],[],.nil,rfl⟩ ?_
 rintro i s I ⟨j,o,a,E,rfl⟩;have QQ:=Jr (show i<4611686018427387904 from ω);apply Qg b;first|refine We I (λe=>?_) (λe=>?_)|refine Wf I (λe=>?_) (λe=>?_)
 obtain⟨x,hx⟩:∃x,x=K.getD i default:=⟨_,rfl⟩;have q:x∈K:=by rw[hx,QW,QJ e];exact Xn e
 have p:x∈L:=by rw[B]at q;exact(Jt.1 q).1
 have Wu:Qw L x.iD=some x:=(VF T.sorted).2 ⟨p,rfl⟩;have S:=T.look x.iD;rw[Wu,KM]at S;have V:=Y i (by simpa using e);have P:(K.map (·.iD)).getD i 0=x.iD:=by
  rw[hx,QW,QW,KL,QJ e];rfl
 rw[P]at V;have J:(K.take (i+1)).map (λx=>Jk x.rt)=(K.take i).map (λx=>Jk x.rt)++[Jk x.rt]:=by
  rw[zS,QJ e,hx,QW,QJ e,ju];rfl
 obtain⟨M,Z⟩:∃M,M=(K.take i).map λx=>Jk x.rt:=⟨_,rfl⟩;have a0:M.length<=i:=by rw[Z,Kj,aU];omega
 have VX:M.length<=4294967295:=ω;rw[<- Z]at J E ⊢;have U:=E.app (Jk x.rt) (r2:=λ_=>(Jk x.rt).cells) rfl;rw[QiT (hn x p).1]at U;simp only[go_sem,Qj,e,r,u,R,Q,z,Qr,V,S,VX];refine⟨ω,_,Qo.frame (fr':=[(0,.ptr t 0 0 0),(3,.ref G.length (j+1) 0 (M.length+1)),(7,.ref f n l K.length),(8,Qa K.length),(9,Qa (i+1:Nat))]) (by simp only[go_sem,QQ]),j+1,_,a++[⟨.arr,0,3,1,λ_=>x.rt.cells⟩],by rw[J];exact U,?_⟩;rw[J,Zk];rfl;have h1:i=K.length:=ω;subst h1;rw[Wn,<- v]at E ⊢;apply Qg b;refine⟨g++(⟨.arr,j,3,(VO L).length,o⟩::a),by rw[C,WL],.inr ⟨G.length,j,o,rfl,ω,?_,E⟩⟩;have N:G.length=(h++g).length:=by rw[C,Zk,Zk,Zj]
 rw[<- WL,N,Kc (QB _),wV];rfl
theorem Qzd(p:∀c∈L,c.Nn):Zf prog 98 h [.ptr t 0 0 0] (λd=>d=KV (VO L)):=by
 refine QgQ (KV (VO L)) (λk=>rfl) ?_ (Qy7 h t m c T hlen ht hm p);rintro d g (⟨rfl,r⟩|⟨e,j,b,rfl,u,o,l⟩);left;rw[r];simp only[go_sem];right;refine⟨e,j,3,_,b,u,o,λi f=>?_,?_⟩;obtain⟨a,q⟩:=l.all i (by simpa using f);rw[q];rfl;have s:D.fz e j (VO L).length 3 b (.ref e j 0 (VO L).length)=.imm 3 (VO L).length (rowFrom 0 b):=by simp[D.fz,EU]
 rw[s];simp only[KV];rw[SK];refine⟨rfl,rfl,λi f=>?_⟩;have n:=l.at_ i f;rw[Jz]at n;rw[G7,Jz,n,Nc.xp];exact vW (zx _) _
end
@[go_sem] def jI(n:Int):D:=.raw (.int .i64 n)
def Mu(d:Array Int):Nat->List D:=λi=>[jI d[i]!]
@[go_sem] theorem Qze(d:Array Int)(i):Mu d i=[jI d[i]!]:=rfl
@[go_sem] def Cr(g:Nat)(d:Array Int):Ob:=⟨.arr,g,1,d.size,Mu d⟩
def Qzf{h:List Ob}{a g}{d}(b:a<h.length):(h.set a (Cr g d))[a]?=some (Cr g d):=QF b
def Qzg(g)(d:Array Int)(i n)(x)(c:d.size=n)(e:i<n):
  (⟨.arr,g,1,n,λk=>bif k==i then [.raw (.int .i64 x)] else [.raw (.int .i64 d[k]!)]⟩:Ob)=Cr g (d.setIfInBounds i x):=by
 subst c;unfold Cr;congr 1;simp;funext k;unfold Mu jI;by_cases a:k=i;subst a;simp[e];have f:(k==i)=false:=beq_eq_false_iff_ne.mpr a;rw[f];by_cases b:k<d.size;simp[b,Q8 a];simp[b]
def Qzh{h:List Ob}{a g}{d:Array Int}(n:h[a]?=some (Cr g d))(hz:d.size<1000000000):
  QM prog 101 h [.ref a g 0 d.size] (λdd h'=>dd=.ref a g 0 (cN (λi=>d[i]!) d.size).length/\∃o,h'=h.set a ⟨.arr,g,1,d.size,o⟩/\(∀i,i<(cN (λi=>d[i]!) d.size).length->o i=[jI ((cN (λi=>d[i]!) d.size).getD i 0)])/\∀i,∃x,o i=[jI x]):=by
 by_cases c2:d.size<2;have I:decide ((d.size:Int)<2)=true:=QS ω;have l:(cN (λi=>d[i]!) d.size).length=d.size:=by
  have:d.size=0\/d.size=1:=ω;rcases this with h0|h0<;>rw[h0]<;>rfl
 rw[l];refine Q7 func101 ntmps101 results101 λr w pl b=>?_;have T:=Qb n;simp only[go_sem,I];exact⟨Mu d,(wv n).symm,λi c=>by rw[Mn _ _ l i c];rfl,λi=>⟨_,rfl⟩⟩;have I:decide ((d.size:Int)<2)=false:=QG ω;refine Q7 func101 ntmps101 results101 λr w pl b=>?_;have T:=Qb n;simp only[go_sem,I];refine ZN (λk z=>k+1<=d.size/\(cN (λi=>d[i]!) (k+1)).length=k+1/\z=⟨[(0,.ref a g 0 d.size),(3,Qa (k+1:Nat))],h⟩) d.size (s0:=⟨[(0,.ref a g 0 d.size),(3,Qa (0+1:Nat))],h⟩) QO ⟨ω,rfl,rfl⟩ ?_;rintro k _ hk ⟨Qf,p,rfl⟩;by_cases J:k+1<d.size;have F:decide (k+1<d.size)=true:=QS J;have v1:IntKind.i64.wrap (((k+1:Nat):Int)-1)=((k:Nat):Int):=Zw;have v2:IntKind.i64.wrap (((k+1:Nat):Int)+1)=((k+1+1:Nat):Int):=Zw;have p0:k<d.size:=ω;apply Qh b;simp only[go_sem,F];apply Qv b Eq;simp only[go_sem,n,v1,J,p0];by_cases q7:d[k+1]! = d[k]!;have L:(d[k+1]! == d[k]!)=true:=beq_iff_eq.mpr q7;have U:(cN (λi=>d[i]!) (k+1+1)).length=k+1:=by
  rw[cN,Qd ⟨ω,by simpa using q7⟩,p]
 have q0:k+1<=d.size:=ω;generalize hN:d.size-(k+1)=N;have v3:((d.size:Int)-((k+1:Nat):Int)).toNat=N:=ω;simp only[go_sem,L,q0,n,v3];refine ZN (λm z=>∃(d1:Array Int),d1.size=d.size/\m+1<=N/\(cN (λi=>d[i]!) (k+1+(m+1))).length<=k+1+m/\(∀i,i<(cN (λi=>d[i]!) (k+1+(m+1))).length->d1[i]! = (cN (λi=>d[i]!) (k+1+(m+1))).getD i 0)/\(∀j,(cN (λi=>d[i]!) (k+1+(m+1))).length<=j->d1[j]! = d[j]!)/\z=⟨[(0,.ref a g 0 d.size),(3,Qa (cN (λi=>d[i]!) (k+1+(m+1))).length),(4,.ref a g (k+1) N),(5,Qa (m+1:Nat))],h.set a (Cr g d1)⟩) N (s0:=⟨[(0,.ref a g 0 d.size),(3,Qa (cN (λi=>d[i]!) (k+1+(0+1))).length),(4,.ref a g (k+1) N),(5,Qa (0+1:Nat))],h.set a (Cr g d)⟩) ?_ ⟨d,rfl,ω,Nat.le_of_eq U,λi c=>?_,λj Q=>rfl,rfl⟩ ?_;rw[wv n,U];exact QO;rw[cN,Qd ⟨ω,by simpa using q7⟩]at c ⊢;exact(Mn _ _ p i ω).symm;rintro m _ hm ⟨d1,f,a0,Fq,K,v,rfl⟩;have q:=Qzf (g:=g) (d:=d1) T;have u:cN (λi=>d[i]!) (k+1+(m+1+1))=if d[k+1+(m+1)]! = d[k+1+m]! then cN (λi=>d[i]!) (k+1+(m+1)) else cN (λi=>d[i]!) (k+1+(m+1))++[d[k+1+(m+1)]!]:=by
  rw[show k+1+(m+1+1)=(k+1+(m+1))+1 by omega,cN];simp
 generalize R:cN (λi=>d[i]!) (k+1+(m+1))=C at *;generalize E:h.set a (Cr g d1)=H at q;have DF:=Qb q;by_cases t:m+1<N;have em:decide (m+1<N)=true:=QS t;have P:=v (k+1+(m+1)) ω;have r2:=v (k+1+m) ω;have O:k+1+(m+1)<d.size:=ω;have Z:k+1+m<d.size:=ω;have Y:m<N:=ω;have W:IntKind.i64.wrap (((m+1:Nat):Int)-1)=(m:Int):=Zw;have M:IntKind.i64.wrap (((m+1:Nat):Int)+1)=((m+1+1:Nat):Int):=Zw;have V:IntKind.i64.wrap ((C.length:Int)+1)=((C.length+1:Nat):Int):=Zw;apply Qh b;simp only[go_sem,em];apply Qv b Eq;simp only[go_sem,q,f,W,t,O,Z,Y,P,r2];by_cases s:d[k+1+(m+1)]! = d[k+1+m]!;have B:(d[k+1+(m+1)]! != d[k+1+m]!)=false:=by rw[s];exact bne_self_eq_false _
 rw[Qd s]at u;simp only[go_sem,B,M];rw[u];refine⟨ω,_,?_,d1,f,ω,ω,K,v,rfl⟩;rw[<- E];exact QO;have B:(d[k+1+(m+1)]! != d[k+1+m]!)=true:=bne_iff_ne.mpr s;have y:C.length<d.size:=ω;rw[Qc s]at u;simp only[go_sem,B,M,V,q,f,O,t,y,P];rw[Qzg g d1 _ _ _ f y,u];refine⟨ω,_,?_,d1.setIfInBounds C.length d[k+1+(m+1)]!,by simp;exact f,ω,ξ,λi c=>?_,λj Q=>?_,rfl⟩;rw[<- E,JN,Zk,Kr];exact QO;simp only[Zk,Kr]at c;by_cases e:i=C.length;subst e;rw[QW,Kc (QB _),wV];simp[f,y];rw[QW,JJ ω,<- QW,<- K i ω];simp[Q8 e,Ns,x5];simp only[Zk,Kr]at Q;rw[<- v j ω];simp[show C.length≠j by omega,Ns,x5];have em:decide (m+1<N)=false:=QG t;have tX:k+1+(m+1)=d.size:=ω;rw[tX]at R;rw[R];have S:C.length<=d.size:=ω;have g2:((d.size:Int)-(C.length:Int)).toNat=d.size-C.length:=ω;apply Qh b;simp only[go_sem,em];apply Qh b;simp only[go_sem,q,f,S,g2];refine p6 BS b rfl q rfl rfl rfl rfl (by dsimp only[Cr];omega) rfl rfl rfl rfl ?_;apply Qh b;simp only[go_sem,QF DF,f,S];refine⟨σ,qF C.length (d.size-C.length) [D.raw (.int .i64 0)] (Mu d1),?_,λi c=>?_,λi=>?_⟩;rw[<- E,JN];rw[pZ c];show [jI d1[i]!]=_;rw[K i c];rfl;unfold qF;cases Nat.ble C.length i&&Nat.blt i (C.length+(d.size-C.length));exact⟨d1[i]!,rfl⟩;exact⟨0,rfl⟩;have L:(d[k+1]! == d[k]!)=false:=beq_eq_false_iff_ne.mpr q7;simp only[go_sem,L,v2];refine⟨ω,_,?_,ω,?_,rfl⟩;exact QO;rw[cN,Qc (by simpa using q7)];simp[p];have F:decide (k+1<d.size)=false:=QG J;obtain JH:k+1=d.size:=ω;rw[JH]at p;apply Qh b;simp only[go_sem,F];apply Qg b;rw[p];exact⟨rfl,Mu d,(wv n).symm,λi c=>by rw[Mn _ _ p i c];rfl,λi=>⟨_,rfl⟩⟩
def Qzi(n:Nat)(f:0<n)(j:n<=1048576):QI prog 137 [.nil,Qa n] (λd h=>∃b,d=.ref 0 0 0 0/\h=[⟨.arr,0,1,0,b⟩]):=by
 have i:¬ ((n:Int)<0):=ω;have g:((n:Int) > 0):=ω;have e:IntKind.i64.wrap (n:Int)=n:=by rw[IntKind.wrap_i64];omega
 refine QM.cut (R:=λd h=>d=.ref 0 0 0 0/\h=[⟨.arr,0,1,n,λ_=>[Qa 0]⟩]) ?_ (by rintro d h ⟨rfl,rfl⟩;exact⟨0,_,0,rfl,rfl,Jj _,_,rfl,rfl⟩);show QI _ _ _ _;refine QY 1 func137 ntmps137 results137 λc w a=>?_;simp only[go_sem];simp only[QG i,go_sem];refine p8 BS rfl rfl rfl ?_;apply Qh a;simp only[go_sem,Qiw,Int.sub_zero,e,QS g];refine p8 BS rfl rfl rfl ?_;apply Qg a;refine Qut BS a rfl rfl rfl rfl rfl rfl π f ω π rfl ?_;exact VE a
def Qzj:QI prog 137 [.nil,Qa 0] (QN .nil):=by
 refine QY 0 func137 ntmps137 results137 λa w b=>?_;simp only[go_sem];refine p8 BS rfl rfl rfl ?_;apply Qh b;simp only[go_sem,Qiw,Int.sub_zero]
def Qzk(h:List Ob)(e)(t)(a b:List Int)(W:a.length+b.length<1000000)(j:(h.map Ob.ro)[e]?=some ⟨.Ac,0,1,2,t⟩)(z:t 0=[ints a])(y:t 1=[ints b]):
  W8 prog 99 h [.ref e 0 0 2] (λd g=>Ke h.length (h++g) d (a++b)):=by
 have J:IntKind.i64.wrap (a.length:Int)=(a.length:Int):=by rw[IntKind.wrap_i64];omega
 have I:IntKind.i64.wrap ((a.length:Int)+(b.length:Int))=((a.length+b.length:Nat):Int):=by rw[IntKind.wrap_i64];omega
 have L:decide ((a.length:Int)<0)=false:=QG ω;have K:decide (((a.length+b.length:Nat):Int)<0)=false:=QG ω;refine BR Vd 200 func99 rfl ntmps99 results99 rfl λH w V F P Q f=>?_;rw[<- P]at j;have x:=Qb j;simp only[go_sem];obtain⟨l,E,C,B⟩:∃l:Nat->Int,l 0=0/\l 1=a.length/\l 2=(a.length+b.length:Nat):=⟨λi=>if i=0 then 0 else if i=1 then a.length else (a.length+b.length:Nat),rfl,rfl,rfl⟩;refine ZN (λi s=>s=⟨[(0,.ref e 0 0 2),(3,.raw (.int .i64 (l i))),(9,.ref e 0 0 2),(10,Qa 2),(11,Qa i)],F⟩) 2 (Qo.frame (by simp only[go_sem,E])) rfl ?_;rintro i s p rfl;have v:i=0\/i=1\/i=2:=ω;rcases v with rfl|rfl|rfl;apply Qh f;simp only[go_sem,j,z,Qiv,E,Int.zero_add,J,L];exact⟨_,Qo.frame (fr':=[(0,.ref e 0 0 2),(3,.raw (.int .i64 (l 1))),(9,.ref e 0 0 2),(10,Qa 2),(11,.raw (.int .i64 1))]) (by simp only[go_sem,C]),rfl⟩;apply Qh f;simp only[go_sem,j,y,C,I,K];exact⟨_,Qo.frame (fr':=[(0,.ref e 0 0 2),(3,.raw (.int .i64 (l 2))),(9,.ref e 0 0 2),(10,Qa 2),(11,.raw (.int .i64 2))]) (by simp only[go_sem,B]),rfl⟩
 .apply Qh f;simp only[go_sem,B];apply Qg f;by_cases hz:a.length+b.length=0
  case' pos=>
   refine Ks f Qfl ?_ Qzj ?_;simp only[go_sem,hz];apply Qh f;simp only[go_sem,hz];refine Lb (Qo.jw 6 1 (λ_=>[]) (by simp only[go_sem])) ?_;simp only[go_sem];generalize (λ_:Nat=>([]:List D))=r
  case' neg=>
   refine Yi f Qfl rfl ?_ (Qzi (a.length+b.length) ω ω) (λd h ⟨c,q,j⟩=>⟨by rw[q];rfl,λo u=>by rw[j]at u;simp at u;subst u;exact λi p=>absurd p (Yc i)⟩) rfl λd Y O=>?_;simp only[go_sem];obtain⟨c,rfl,rfl⟩:=O;apply Qg f;generalize (λi=>yi F.length (c i))=r
  all_goals
   refine ZN (λi s=>∃n m c,(i=0->m=0)/\(i=1->m=a.length/\∀k,k<a.length->c k=[Qa (a.getD k 0)])/\(i=2->m=a.length+b.length/\∀k,k<a.length+b.length->c k=[Qa ((a++b).getD k 0)])/\s=⟨[(6,.ref F.length n 0 m),(25,.ref e 0 0 2),(26,Qa 2),(27,Qa i)],F++[⟨.arr,n,1,m,c⟩]⟩) 2
    (s0:=⟨[(6,.ref F.length 0 0 0),(25,.ref e 0 0 2),(26,Qa 2),(27,Qa 0)],F++[⟨.arr,0,1,0,r⟩]⟩) QO ⟨0,0,_,λ_=>rfl,λh=>absurd h π,λh=>absurd h π,rfl⟩ ?_
   rintro i s p ⟨n,m,c,U,T,R,rfl⟩;have v:i=0\/i=1\/i=2:=ω;have Z:a.length<=4294967295:=ω;have Co:a.length+b.length<=4294967295:=ω;rcases v with rfl|rfl|rfl;obtain rfl:m=0:=U rfl;apply Qh f;simp only[go_sem,Qj,j,x,z,Qiv];refine⟨ω,_,Qo.frame (fr':=[(6,.ref F.length (n+1) 0 a.length),(25,.ref e 0 0 2),(26,Qa 2),(27,.raw (.int .i64 1))]) (by simp only[go_sem]),_,_,_,⟨rfl,λk N=>?_⟩,rfl⟩;rw[x9 (Jj k)];rfl;obtain⟨rfl,M⟩:=T rfl;apply Qh f;simp only[go_sem,Qj,j,x,y];refine⟨ω,_,Qo.frame (fr':=[(6,.ref F.length (n+1) 0 (a.length+b.length)),(25,.ref e 0 0 2),(26,Qa 2),(27,.raw (.int .i64 2))]) (by simp only[go_sem]),_,_,_,⟨rfl,λk N=>?_⟩,rfl⟩;by_cases q:k<a.length;rw[Bo q,Jz,M k q,QW,QW,JJ q];rfl;rw[x9 ω,QW,Kc ω,<- QW];rfl;obtain⟨rfl,S⟩:=R rfl;apply Qg f;apply Qg f;refine⟨_,rfl,.inr ⟨h.length,n,0,c,by rw[Q,Zk],⟨QB _,rfl⟩,?_,λi p=>by rw[Jz];exact S i (by simpa using p)⟩⟩;rw[Vc rfl,Zk,Jz];rfl
def Qzl(h:List Ob)(e)(c)(a b:List Int)(f:a.length+b.length<1000000)(g:(h.map Ob.ro)[e]?=some ⟨.Ac,0,1,2,c⟩)(j:c 0=[ints a])(i:c 1=[ints b]):
  Zf prog 99 h [.ref e 0 0 2] (λd=>d=ints (a++b)):=Ke.closed (Qzk h e c a b f g j i)
deriving instance DecidableEq for Cv
deriving instance DecidableEq for Ql
def WY(A B:List Ql)(a:Int):Bool:=decide (Qw A a≠Qw B a)
def yL(A B:List Ql):List Int:=(A.map (·.iD)++B.map (·.iD)).filter (WY A B)
def jf(L:List Int):List Int:=cN (λi=>L.getD i 0) L.length
def JX(A B:List Ql):List Int:=jf (sorted (yL A B))
def Qzm{L}{x}:x∈jf L↔x∈L:=by
 unfold jf;rw[tW];constructor;rintro⟨i,a,rfl⟩;rw[QW,QJ a];exact Xn a;intro h;obtain⟨i,a,rfl⟩:=vH h;exact⟨i,a,by rw[QW,QJ a];rfl⟩
def Qzn{L}{x}:x∈sorted L↔x∈L:=(List.mergeSort_perm _ _).mem_iff
def Mw{A B}{a}:a∈JX A B↔Qw A a≠Qw B a:=by
 unfold JX;rw[Qzm,Qzn];unfold yL;rw[Jt];unfold WY;rw[Xo];constructor;exact λh=>h.2;intro h;refine⟨?_,h⟩;rw[Q1];cases d:Qw A a with
 | some c=>
  refine .inl (Ji.2 ⟨c,vI d,?_⟩);have:=wS d;simpa using this
 | none=>
  cases b:Qw B a with
  | some c=>
   refine .inr (Ji.2 ⟨c,vI b,?_⟩);have:=wS b;simpa using this
  | none=>rw[d,b]at h;exact absurd rfl h
def Qzo(x y:Ql):(x.iD==y.iD&&(x.parent==y.parent&&(x.leaf==y.leaf&&(x.rt.m1==y.rt.m1&&(x.rt.d==y.rt.d&&(x.rt.m2==y.rt.m2&&(x.ls.m1==y.ls.m1&&(x.ls.d==y.ls.d&&(x.ls.m2==y.ls.m2&&(x.ul.m1==y.ul.m1&&(x.ul.d==y.ul.d&&(x.ul.m2==y.ul.m2&&(x.ZK==y.ZK&&x.bytes==y.bytes)))))))))))))=decide (x=y):=by
 rw[vF];simp only[ZE,qX,Xo];constructor;rintro⟨l,k,j,i,h,g,f,e,d,c,M,N,b,a⟩;obtain⟨L,K,J,⟨I,H,F⟩,⟨E,C,B⟩,⟨z,w,v⟩,u,t⟩:=x;obtain⟨s,c2,r,⟨q,p,c6⟩,⟨o,n,m⟩,⟨d1,d2,d3⟩,d4,d5⟩:=y
 simp_all
 rintro rfl;simp
theorem bTF:(true==false)=false:=rfl
theorem bFT:(false==true)=false:=rfl
def Qzr:QI prog 101 [.nil] (QN .nil):=by
 refine QY 0 func101 ntmps101 results101 λa w b=>?_;simp only[go_sem]
def Qzs{h:List Ob}{lo g}{Z:List Int}(f:h[lo]?=some (Cr g Z.toArray))(k:Z.length<1000000000):
  QM prog 101 h [.ref lo g 0 Z.length] (λc b=>c=.ref lo g 0 (jf Z).length/\∃a,b=h.set lo ⟨.arr,g,1,(jf Z).length,a⟩/\∀i,i<(jf Z).length->a i=[Qa ((jf Z).getD i 0)]):=by
 have e:cN (λi=>Z.toArray[i]!) Z.toArray.size=jf Z:=by
  unfold jf;congr 1;funext i;simp
 have j:=Qzh f (by simpa using k);rw[e]at j;have l:=Qb f;refine QM.cut (R:=λc b=>c=.ref lo g 0 (jf Z).length/\∃a,b=h.set lo ⟨.arr,g,1,Z.toArray.size,a⟩/\(∀i,i<(jf Z).length->a i=[jI ((jf Z).getD i 0)])/\∀i,∃x,a i=[jI x]) (by simpa using j) ?_;rintro d b ⟨rfl,a,rfl,m,_⟩;refine⟨lo,_,(jf Z).length,QF l,rfl,?_,rfl,a,by rw[JN],m⟩;have:=Pu (λi=>Z.getD i 0) Z.length;show (jf Z).length<=Z.toArray.size;simpa[jf] using this
structure Ct (F:List Ob) (A B:List Ql) (t1 t2:Nat) (L:List Int) (k:Nat) (s:St):Prop where
 ex:∃d H,Ke F.length H d ((L.take k).filter (WY A B))/\VG F H/\s=⟨[(0,.ptr t1 0 0 0),(1,.ptr t2 0 0 0),(5,d),(17,ints L),(18,Qa L.length),(19,Qa k)],H⟩
def Ct.of{F:List Ob}{A B}{b a}{L:List Int}{k:Nat}{d}{H}(e:Ke F.length H d ((L.take k).filter (WY A B)))(c:VG F H):Ct F A B b a L k ⟨[(0,.ptr b 0 0 0),(1,.ptr a 0 0 0),(5,d),(17,ints L),(18,Qa L.length),(19,Qa k)],H⟩:=⟨⟨d,H,e,c,rfl⟩⟩
def Qzu{h}{f n}{A B:List Ql}(RA:Xu h f A)(RB:Xu h n B)(hA:A.length<100000)(hB:B.length<100000):
  W8 prog 69 h [.ptr f 0 0 0,.ptr n 0 0 0] (λd g=>Ke h.length (h++g) d (JX A B)):=by
 refine BR Vd 200 func69 rfl ntmps69 results69 rfl λa1 w pl F hF Zj a=>?_;simp only[go_sem];have Uo:Xu F f A:=RA.more (Vz hF);have Up:Xu F n B:=RB.more (Vz hF);apply Zz a pA (rX Uo ω);apply Qg a;apply Zz a pA (rX Up ω);apply Qg a;obtain⟨L,T⟩:∃L,L=A.map (·.iD)++B.map (·.iD):=⟨_,rfl⟩;have a2:L.length<200000:=by rw[T];simp;omega
 have J7:∀J:Nat->List D,J 0=[ints (A.map (·.iD))]->J 1=[ints (B.map (·.iD))]->Zf prog 99 (F++[⟨.arr,0,1,2,J⟩]) [.ref F.length 0 0 2] (λd=>d=ints L):=λJ e0 e1=>by
  rw[T];exact Qzl _ F.length J _ _ ξ (Z4 (show (F++[⟨.arr,0,1,2,J⟩])[F.length]?=some ⟨.arr,0,1,2,J⟩ by rw[Vc rfl];rfl)) e0 e1
 apply Zz a QsH (J7 _ (by exact rfl) (by exact rfl));apply Qg a;refine ZN (Ct F A B f n L) L.length (s0:=⟨[(0,.ptr f 0 0 0),(1,.ptr n 0 0 0),(5,.nil),(17,ints L),(18,Qa L.length),(19,Qa 0)],_⟩) QO ⟨⟨_,_,.inl ⟨rfl,σ⟩,⟨_,rfl⟩,rfl⟩⟩ ?_;rintro k _ hk ⟨d,H,C,hx,rfl⟩;have a0:∀g,Xu (H++g) f A:=λg=>by
  obtain⟨x,rfl⟩:=hx;exact Uo.more λl o e=>by rw[WL];exact Ho l o e
 have W:∀g,Xu (H++g) n B:=λg=>by
  obtain⟨x,rfl⟩:=hx;exact Up.more λl o e=>by rw[WL];exact Ho l o e
 have Y:Xu H f A:=by have:=a0 [];rwa [JS]at this
 by_cases m:k<L.length;have U:=QS m;obtain⟨id,P⟩:∃id,id=L.getD k 0:=⟨_,rfl⟩;have c:(L.take (k+1)).filter (WY A B)=(L.take k).filter (WY A B)++(if WY A B id then [id] else []):=by
  rw[getD_take L 0 k m,Ih,<- P];cases b:WY A B id<;>simp[b]
 have E:=OY Y id;have t:=λg=>OY (W g) id;have I:=Jr (show k<4611686018427387904 from ω);cases M:Qw A id with
 | some x=>
  rw[M]at E;simp only[KW,Ab,Vu]at E;cases v:Qw B id with
  | some y=>
   rw[v]at t;simp only[KW,Ab,Vu]at t;apply Qh a;simp only[go_sem,m,<- P];apply Zz a vX E;apply J5 a;apply Zz a vX (t _);apply Qh a;simp only[go_sem,Qj,bne,Qzo];by_cases e:x=y;have b:WY A B id=false:=by unfold WY;rw[M,v,e];simp
   have Q:=QS e;simp only[go_sem,Q];refine⟨m,_,Qo.frame (fr':=[(0,.ptr f 0 0 0),(1,.ptr n 0 0 0),(5,d),(17,ints L),(18,Qa L.length),(19,Qa (k+1:Nat))]) (by simp only[go_sem,I]),Ct.of (by rw[c,b,Qc π,JS];exact C.app _) (hx.app _)⟩;have b:WY A B id=true:=by unfold WY;rw[M,v];simpa using e
   have Q:=QG e;rcases C with ⟨rfl,r⟩|⟨q,g,N,s,rfl,⟨u,rfl⟩,p,K⟩;simp only[go_sem,Qj,Q];refine⟨m,_,Qo.frame (fr':=[(0,.ptr f 0 0 0),(1,.ptr n 0 0 0),(5,.ref (H.length+3) 0 0 1),(17,ints L),(18,Qa L.length),(19,Qa (k+1:Nat))]) (by simp only[go_sem,I]),Ct.of (.inr ⟨H.length+3,0,0,λ_=>[Qa id],?_,⟨by have:=hx.len;omega,rfl⟩,?_,?_⟩) (hx.app _)⟩;rw[c,r,b];rfl;rw[c,r,b,VD rfl];rfl;rw[c,r,b];intro i z;obtain rfl:i=0:=by simp at z;omega
   rfl;have j:=Qb p;rw[Jz]at p;simp only[go_sem,Qj,Q,p,j];refine⟨by have:=XS (WY A B) (L.take k);simp at this;omega,m,_,Qo.frame (fr':=[(0,.ptr f 0 0 0),(1,.ptr n 0 0 0),(5,.ref q (g+1) 0 (((L.take k).filter (WY A B)).length+1)),(17,ints L),(18,Qa L.length),(19,Qa (k+1:Nat))]) (by simp only[go_sem,I]),Ct.of (.inr ⟨q,g+1,0,JO ((L.take k).filter (WY A B)).length 0 s (λ_=>[Qa id]),?_,⟨u,rfl⟩,?_,?_⟩) ((hx.set u _).app _)⟩;rw[c,b];simp;rw[c,b,QE (by simpa using j),QF j];simp[Qa];rw[c,b];exact LD K
  | none=>
   rw[v]at t;simp only[Es,qu,qY]at t;have b:WY A B id=true:=by unfold WY;rw[M,v];simp
   apply Qh a;simp only[go_sem,m,<- P];apply Zz a vX E;apply J5 a;apply Zz a vX (t _);apply Qh a;simp only[go_sem,Qj,bne,Go.undef,bTF];rcases C with ⟨rfl,r⟩|⟨q,g,N,s,rfl,⟨u,rfl⟩,p,K⟩
   (try simp only[go_sem])
   refine⟨m,_,Qo.frame (fr':=[(0,.ptr f 0 0 0),(1,.ptr n 0 0 0),(5,.ref (H.length+3) 0 0 1),(17,ints L),(18,Qa L.length),(19,Qa (k+1:Nat))]) (by simp only[go_sem,I]),Ct.of (.inr ⟨H.length+3,0,0,λ_=>[Qa id],?_,⟨by have:=hx.len;omega,rfl⟩,?_,?_⟩) (hx.app _)⟩;rw[c,r,b];rfl;rw[c,r,b,VD rfl];rfl;rw[c,r,b];intro i z;obtain rfl:i=0:=by simp at z;omega
   rfl;have j:=Qb p;rw[Jz]at p;simp only[go_sem,Qj,p,j];refine⟨by have:=XS (WY A B) (L.take k);simp at this;omega,m,_,Qo.frame (fr':=[(0,.ptr f 0 0 0),(1,.ptr n 0 0 0),(5,.ref q (g+1) 0 (((L.take k).filter (WY A B)).length+1)),(17,ints L),(18,Qa L.length),(19,Qa (k+1:Nat))]) (by simp only[go_sem,I]),Ct.of (.inr ⟨q,g+1,0,JO ((L.take k).filter (WY A B)).length 0 s (λ_=>[Qa id]),?_,⟨u,rfl⟩,?_,?_⟩) ((hx.set u _).app _)⟩;rw[c,b];simp;rw[c,b,QE (by simpa using j),QF j];simp[Qa];rw[c,b];exact LD K
 | none=>
  rw[M]at E;simp only[Es,qu,qY]at E;cases v:Qw B id with
  | some y=>
   rw[v]at t;simp only[KW,Ab,Vu]at t;have b:WY A B id=true:=by unfold WY;rw[M,v];simp
   apply Qh a;simp only[go_sem,m,<- P];apply Zz a vX E;apply J5 a;apply Zz a vX (t _);apply Qh a;simp only[go_sem,Qj,bne,Go.undef,bFT];rcases C with ⟨rfl,r⟩|⟨q,g,N,s,rfl,⟨u,rfl⟩,p,K⟩
   (try simp only[go_sem])
   refine⟨m,_,Qo.frame (fr':=[(0,.ptr f 0 0 0),(1,.ptr n 0 0 0),(5,.ref (H.length+3) 0 0 1),(17,ints L),(18,Qa L.length),(19,Qa (k+1:Nat))]) (by simp only[go_sem,I]),Ct.of (.inr ⟨H.length+3,0,0,λ_=>[Qa id],?_,⟨by have:=hx.len;omega,rfl⟩,?_,?_⟩) (hx.app _)⟩;rw[c,r,b];rfl;rw[c,r,b,VD rfl];rfl;rw[c,r,b];intro i z;obtain rfl:i=0:=by simp at z;omega
   rfl;have j:=Qb p;rw[Jz]at p;simp only[go_sem,Qj,p,j];refine⟨by have:=XS (WY A B) (L.take k);simp at this;omega,m,_,Qo.frame (fr':=[(0,.ptr f 0 0 0),(1,.ptr n 0 0 0),(5,.ref q (g+1) 0 (((L.take k).filter (WY A B)).length+1)),(17,ints L),(18,Qa L.length),(19,Qa (k+1:Nat))]) (by simp only[go_sem,I]),Ct.of (.inr ⟨q,g+1,0,JO ((L.take k).filter (WY A B)).length 0 s (λ_=>[Qa id]),?_,⟨u,rfl⟩,?_,?_⟩) ((hx.set u _).app _)⟩;rw[c,b];simp;rw[c,b,QE (by simpa using j),QF j];simp[Qa];rw[c,b];exact LD K
  | none=>
   rw[v]at t;simp only[Es,qu,qY]at t;have b:WY A B id=false:=by unfold WY;rw[M,v];simp
   apply Qh a;simp only[go_sem,m,<- P];apply Zz a vX E;apply J5 a;apply Zz a vX (t _);apply Qh a;simp only[go_sem,Qj,bne];refine⟨m,_,Qo.frame (fr':=[(0,.ptr f 0 0 0),(1,.ptr n 0 0 0),(5,d),(17,ints L),(18,Qa L.length),(19,Qa (k+1:Nat))]) (by simp only[go_sem,I]),Ct.of (by rw[c,b,Qc π,JS];exact C.app _) (hx.app _)⟩
 .have ZJ:k=L.length:=ω;have U:=QG m;rw[ZJ,Wn]at C;have B0:yL A B=L.filter (WY A B):=by rw[T];rfl
  rw[<- B0]at C;have a3:(yL A B).length<200000:=by have:=XS (WY A B) L;rw[B0];omega
  rcases C with ⟨rfl,r⟩|⟨q,g,N,s,rfl,⟨u,rfl⟩,p,K⟩
  .apply Qh a;simp only[go_sem,U];apply Qg a;refine ZL a fj (Qgf H) λd h O=>?_;obtain⟨rfl,rfl⟩:=O;apply Qg a;have R:JX A B=[]:=by unfold JX;rw[r];simp[sorted,jf,cN]
   apply QV a Qfh Qzr;apply Qg a;exact Ke.done Zj hx (.inl ⟨rfl,R⟩)
  .have j:=Qb p;apply Qh a;simp only[go_sem,U];apply Qg a;refine ZL a fj (Qge p ω K ω) λd h O=>?_;obtain⟨rfl,rfl⟩:=O;apply Qg a;obtain⟨Z,S⟩:∃Z,Z=sorted (yL A B):=⟨_,rfl⟩;have V:Z.length=(yL A B).length:=by rw[S,He]
   rw[<- S,<- V];refine G4 (Qo.rows q (Mu Z.toArray) (QF j) (λi z=>?_)) ?_;dsimp only at z ⊢;unfold v8;rw[Qd ⟨Jj _,ω⟩,Ep,Qze];simp[jI];rw[JN];dsimp only;have R:jf Z=JX A B:=by rw[S];rfl
   have hc:=Qzs (h:=H.set q (Cr g Z.toArray)) (lo:=q) (g:=g) (Z:=Z) (QF j) ω;rw[R]at hc;have JA:Z.toArray.size=Z.length:=σ;rw[<- JA];refine ZL a Qfh (JA▸hc) λd h O=>?_;obtain⟨rfl,KI,rfl,Uq⟩:=O;apply Qg a;rw[JN];refine Ke.done Zj (hx.set u _) (.inr ⟨q,g,0,KI,rfl,⟨u,rfl⟩,by rw[QF j,Jz],λi z=>by rw[Jz];exact Uq i z⟩)
def Qi1{h}{b a}{A B:List Ql}(g:Xu h b A)(f:Xu h a B)(e:A.length<100000)(c:B.length<100000):
  Zf prog 69 h [.ptr b 0 0 0,.ptr a 0 0 0] (λd=>d=ints (JX A B)):=Ke.closed (Qzu g f e c)
def jg(T:List Ql):Prop:=∀c∈T,Ql.Ok c
def Cv.Ok.nn{c:Cv}(h:Cv.Ok c):c.Nn:=⟨(wf_u64 h.1).1,(wf_u64 h.2.1).1,(wf_u64 h.2.2.1).1⟩
def Ql.Ok.nn{c:Ql}(h:Ql.Ok c):c.Nn:=⟨h.2.2.2.1.nn,h.2.2.2.2.1.nn,h.2.2.2.2.2.1.nn⟩
def Cv.Ok.lt{c:Cv}(h:Cv.Ok c):(Jk c).Lt:=by
 have e:=wf_u64 h.1;have b:=wf_u64 h.2.1;have a:=wf_u64 h.2.2.1;refine⟨?_,?_,?_⟩<;>(simp only[Jk];omega)
def jg.Qi2{T}(h:jg T):∀c∈VO T,c.Lt:=λc a=>by
 obtain⟨x,hx,rfl⟩:=Ji.1 a;exact(h x (Jt.1 hx).1).2.2.2.1.lt
def jg.one{T}(h:jg T)(b:Ws T){c}(e:Jc.Ok c):jg (xL T c):=by
 unfold xL;split;split;exact λd a=>h d (Jt.1 a).1;intro d a;rcases yv b c.cls a with rfl|a;exact e.2.1;exact h d a;exact h
def Vq:List Ql->List Jc->Nat->Int × Nat × List Ql
 | T,[],_=>(0,0,T)
 | T,c::l,i=>if qh T c≠0 then (qh T c,i,T) else Vq (xL T c) l (i+1)
def Yq(T:List Ql)(t:Int)(l:List Jc):Int:=
 if 32<l.length then 2 else if (Vq T l 0).1≠0 then (Vq T l 0).1 else vq t (VO (Vq T l 0).2.2)
def DJ(T:List Ql)(l:List Jc):Nat:=if 32<l.length then 0 else if (Vq T l 0).1≠0 then (Vq T l 0).2.1 else 0
def Je(T:List Ql)(l:List Jc):List Ql:=(Vq T l 0).2.2
def Qi3:∀(l:List Jc) (T:List Ql) (i:Nat),JQ T->jg T->(∀c∈l,Jc.Ok c)->JQ (Vq T l i).2.2/\jg (Vq T l i).2.2
 | [],T,i,I,K,_=>⟨I,K⟩
 | c::l,T,i,I,K,a=>by
  rw[Vq];split;exact⟨I,K⟩;exact Qi3 l _ _ (I.one c) (K.one I.rising (a c σ)) λd b=>a d (by simp[b])
def Qi4{b T}{l:List Jc}{k}(a:k<l.length)(h:Vq b l 0=Vq T (l.drop k) k):Vq b l 0=if qh T (l.getD k default)≠0 then (qh T (l.getD k default),k,T) else Vq (xL T (l.getD k default)) (l.drop (k+1)) (k+1):=by
 rw[h,RE a,Vq,QW,QJ a];rfl
@[go_sem] def FQ(l:List Jc):D:=.imm 15 l.length (Jc.rows l)
def Qzz{S}{h}{t}{T}(R:WD S h t T)(I:JQ T)(K:jg T)(n)(KU:1<=n)(KR:n<=65536)(l:List Jc)(Y:∀c∈l,Jc.Ok c)(hl:l.length<1000000):
  QM prog 68 h [.ptr t 0 0 0,Qa n,FQ l] (λd o=>∃p,d=.tup [if Yq T n l=0 then .ptr p 0 0 0 else .raw (.pointer none),Qa (DJ T l),Qa (Yq T n l)]/\(Yq T n l=0->WD (λl=>h.length<=l) o p (Je T l))/\∃g,o=h++g):=by
 have d1:decide (n<1)=false:=QG ω;have d2:decide (65536<n)=false:=QG ω;by_cases v:32<l.length;have d3:decide ((32:Int)<(l.length:Int))=true:=QS ω;have e1:Yq T n l=2:=Qd v;have e2:DJ T l=0:=Qd v;refine Q7 func68 ntmps68 results68 λs w V e=>?_;simp only[go_sem,d1,d2,d3];rw[e1,e2];exact⟨0,rfl,(λh=>absurd h π),[],(JS _).symm⟩;have d3:decide ((32:Int)<(l.length:Int))=false:=QG ω;refine Q7 func68 ntmps68 results68 λs w V e=>?_;simp only[go_sem,d1,d2,d3];refine ZL e QsD (Qxd R) λd h C=>?_;obtain⟨rfl,R2,g,rfl,hg⟩:=C;apply Qg e;have B:DJ T l=if (Vq T l 0).1≠0 then (Vq T l 0).2.1 else 0:=Qc v;have z:Yq T n l=if (Vq T l 0).1≠0 then (Vq T l 0).1 else vq n (VO (Vq T l 0).2.2):=Qc v;refine ZN (λk Q=>∃a H,WD (λl=>h.length<=l) H (h.length+1) a/\JQ a/\jg a/\Vq T l 0=Vq a (l.drop k) k/\(∃g,H=h++g)/\Q=⟨[(1,Qa n),(9,.ptr (h.length+1) 0 0 0),(30,FQ l),(31,Qa l.length),(32,Qa k)],H⟩) l.length (s0:=⟨[(1,Qa n),(9,.ptr (h.length+1) 0 0 0),(30,FQ l),(31,Qa l.length),(32,Qa 0)],h++g⟩) QO ⟨T,_,R2,I,K,rfl,⟨_,rfl⟩,rfl⟩ ?_;rintro k _ hk ⟨a,H,F,y,J,u,⟨f,rfl⟩,rfl⟩;by_cases j:k<l.length;have M:=QS j;have q:=Qi4 j u;have N:Jc.Ok (l.getD k default):=Y _ (qE l default k j);obtain⟨x,hx⟩:∃x,x=l.getD k default:=⟨_,rfl⟩;rw[<- hx]at q N;have IJ:=λg=>(show QM prog 96 (h++(f++g)) [.ptr (h.length+1) 0 0 0,.agg x.cells] (λd o=>d=Qa (qh a x)/\WD (λl=>h.length<=l/\l<(h++f).length) o (h.length+1) (xL a x)/\Step (λl=>h.length<=l/\l<(h++f).length) (h++(f++g)) o) by rw[<- WL];exact Qxm (F.app g) y x);have QQ:=Jr (show k<4611686018427387904 from ω);apply Qh e;simp only[go_sem,Qj,j,Jc.xp,<- hx];refine ZL e QsE (IJ _) λd E C=>?_;obtain⟨rfl,R6,U⟩:=C;have r:∃g,E=h++g:=by
  refine⟨E.drop h.length,?_⟩;apply y8;intro i;by_cases L:i<h.length;rw[QE L,U.keep i ξ (λh=>by have:=h.1;omega),QE L];rw[Kc ω,Gr];congr 1;omega
 have R7:WD (λl=>h.length<=l) E (h.length+1) (xL a x):=R6.step λl _ W=>⟨W.1,rfl⟩;apply Qg e;by_cases b:qh a x=0;rw[Qc (by simpa using b)]at q;have d0:(qh a x != 0)=false:=by simpa using b
 simp only[go_sem,d0];exact⟨j,_,Qo.frame (by simp only[go_sem,QQ]),xL a x,_,R7,y.one x,J.one y.rising N,q,r,rfl⟩;rw[Qd (by simpa using b)]at q;have d0:(qh a x != 0)=true:=by simpa using b
 simp only[go_sem,d0];rw[B,z,q];simp only[Qd (show qh a x≠0 from b),Qc b];exact⟨0,trivial,(λh=>absurd h b),r⟩;have ZJ:k=l.length:=ω;have M:=QG j;rw[ZJ,List.drop_length,Vq]at u;rw[u]at B z;simp only[ne_eq,not_true_eq_false,qY]at B z;have Z:Je T l=a:=by unfold Je;rw[u]
 have O:=y.len;have P:Zf prog 98 (h++f) [.ptr (h.length+1) 0 0 0] (λd=>d=KV (VO a)):=by
  obtain⟨m,c,es,h1,h2,h3⟩:=F.toR;exact Qzd _ _ m c h3 ω h1 h2 (λx hx=>(J x hx).nn)
 have J3:=ur a;apply Qh e;simp only[go_sem,M];apply Qg e;apply Zz e QsG P;apply Qg e;apply QV e QsF (Qyw n (VO a) ω J.Qi2);apply J5 e;rw[B,z,Z];by_cases b:vq n (VO a)=0;have d0:(vq n (VO a) != 0)=false:=by simpa using b
 simp only[go_sem,d0];rw[b];exact⟨h.length+1,σ,λ_=>F,f,rfl⟩;have d0:(vq n (VO a) != 0)=true:=by simpa using b
 simp only[go_sem,d0];exact⟨0,by simp[b],λh=>absurd h b,f,rfl⟩
def Ur{T}(I:JQ T)(K:jg T){l}(a:∀c∈l,Jc.Ok c):JQ (Je T l)/\jg (Je T l):=Qi3 l T 0 I K a
def HB(T:List Ql)(a:Int):Bool:=decide (1<QH ((Qw T a).getD default).rt)
def iP(A B:List Ql):Bool:=(JX A B).any λid=>HB A id || HB B id
structure Nd where
 c:Ql
 QT:Nat
 du:Du
 sh:Sh
 cp:Cp
 q:Qu
instance:Inhabited Nd:=⟨⟨default,0,default,default,default,default⟩⟩
def K0(d:D)(n:Nd):List D:=d::(n.c.cells++(u64 n.QT::(n.du.cells++(n.sh.cells++n.cp.cells))))
section
variable (d:D)(n:Nd)
@[go_sem] theorem QIO:(K0 d n).getD 0 D.undef=d:=rfl
@[go_sem] theorem QIP:(List.drop 1 (K0 d n)).getD 0 D.undef=Qa n.c.iD:=rfl
@[go_sem] theorem QIQ:(List.drop 2 (K0 d n)).getD 0 D.undef=Qa n.c.parent:=rfl
@[go_sem] theorem QIR:(List.drop 3 (K0 d n)).getD 0 D.undef=QU n.c.leaf:=rfl
@[go_sem] theorem QIS:(List.drop 15 (K0 d n)).getD 0 D.undef=u64 n.QT:=rfl
@[go_sem] theorem QIT:(List.drop 36 (K0 d n)).getD 0 D.undef=u64 n.du.Yp:=rfl
@[go_sem] theorem QIU:(List.drop 37 (K0 d n)).getD 0 D.undef=u64 n.du.dead:=rfl
@[go_sem] theorem QIV:(List.drop 48 (K0 d n)).getD 0 D.undef=u64 n.sh.time:=rfl
@[go_sem] theorem QIW:(List.drop 59 (K0 d n)).getD 0 D.undef=u64 n.cp.fit:=rfl
@[go_sem] theorem QIX:List.take 14 (List.drop 1 (K0 d n))=n.c.cells:=rfl
@[go_sem] theorem QIY:List.take 3 (List.drop 4 (K0 d n))=n.c.rt.cells:=rfl
@[go_sem] theorem QIZ:List.take 3 (List.drop 7 (K0 d n))=n.c.ls.cells:=rfl
@[go_sem] theorem QI0:List.take 3 (List.drop 10 (K0 d n))=n.c.ul.cells:=rfl
@[go_sem] theorem QI1:List.take 22 (List.drop 16 (K0 d n))=n.du.cells:=rfl
@[go_sem] theorem QI2:List.take 11 (List.drop 38 (K0 d n))=n.sh.cells:=rfl
@[go_sem] theorem QI3:List.take 11 (List.drop 49 (K0 d n))=n.cp.cells:=rfl
@[go_sem] theorem QI4(v):List.take 15 (K0 d n)++(.raw (.int .u64 ((v:Nat):Int))::List.drop 16 (K0 d n))=K0 d { n with QT:=v }:=rfl
@[go_sem] theorem QI5(x:Du):List.take 16 (K0 d n)++(.raw (.bool x.has)::.raw (.int .u64 ((x.dl.f.x:Nat):Int))::.raw (.int .u64 ((x.dl.f.y/18446744073709551616:Nat):Int))::.raw (.int .u64 ((x.dl.f.y%18446744073709551616:Nat):Int))::.raw (.int .u64 ((x.dl.f.m:Nat):Int))::.raw (.int .u64 ((x.dl.t.x:Nat):Int))::.raw (.int .u64 ((x.dl.t.y/18446744073709551616:Nat):Int))::.raw (.int .u64 ((x.dl.t.y%18446744073709551616:Nat):Int))::.raw (.int .u64 ((x.dl.t.m:Nat):Int))::.raw (.bool x.dl.b)::.raw (.int .u64 ((x.rd.f.x:Nat):Int))::.raw (.int .u64 ((x.rd.f.y/18446744073709551616:Nat):Int))::.raw (.int .u64 ((x.rd.f.y%18446744073709551616:Nat):Int))::.raw (.int .u64 ((x.rd.f.m:Nat):Int))::.raw (.int .u64 ((x.rd.t.x:Nat):Int))::.raw (.int .u64 ((x.rd.t.y/18446744073709551616:Nat):Int))::.raw (.int .u64 ((x.rd.t.y%18446744073709551616:Nat):Int))::.raw (.int .u64 ((x.rd.t.m:Nat):Int))::.raw (.bool x.rd.b)::.raw (.int .u64 ((x.JL:Nat):Int))::.raw (.int .u64 ((x.Yp:Nat):Int))::.raw (.int .u64 ((x.dead:Nat):Int))::List.drop 38 (K0 d n))=K0 d { n with du:=x }:=rfl
@[go_sem] theorem QzA(x:Sh):List.take 38 (K0 d n)++(.raw (.bool x.has)::.raw (.int .u64 ((x.run.f.x:Nat):Int))::.raw (.int .u64 ((x.run.f.y/18446744073709551616:Nat):Int))::.raw (.int .u64 ((x.run.f.y%18446744073709551616:Nat):Int))::.raw (.int .u64 ((x.run.f.m:Nat):Int))::.raw (.int .u64 ((x.run.t.x:Nat):Int))::.raw (.int .u64 ((x.run.t.y/18446744073709551616:Nat):Int))::.raw (.int .u64 ((x.run.t.y%18446744073709551616:Nat):Int))::.raw (.int .u64 ((x.run.t.m:Nat):Int))::.raw (.bool x.run.b)::.raw (.int .u64 ((x.time:Nat):Int))::List.drop 49 (K0 d n))=K0 d { n with sh:=x }:=rfl
@[go_sem] theorem QI6(x:Cp):List.take 49 (K0 d n)++(.raw (.bool x.has)::.raw (.int .u64 ((x.run.f.x:Nat):Int))::.raw (.int .u64 ((x.run.f.y/18446744073709551616:Nat):Int))::.raw (.int .u64 ((x.run.f.y%18446744073709551616:Nat):Int))::.raw (.int .u64 ((x.run.f.m:Nat):Int))::.raw (.int .u64 ((x.run.t.x:Nat):Int))::.raw (.int .u64 ((x.run.t.y/18446744073709551616:Nat):Int))::.raw (.int .u64 ((x.run.t.y%18446744073709551616:Nat):Int))::.raw (.int .u64 ((x.run.t.m:Nat):Int))::.raw (.bool x.run.b)::.raw (.int .u64 ((x.fit:Nat):Int))::List.drop 60 (K0 d n))=K0 d { n with cp:=x }:=rfl
end
inductive Tag where
 | no|sc|tree|ux|xy (id:Int)|qJ (id:Int)|on|lv|mk|X2 (id:Int)|QzB
deriving DecidableEq
def Q3(a:Nat->Tag)(h:List Ob)(t:Tag):Nat->Tag:=λl=>if h.length<=l then t else a l
def iQ{a}{h}{t}(l):more (λl=>a l=t) h l->Q3 a h t l=t:=λb=>by
 unfold Q3;split;rfl;rcases b with b|b;exact b;omega
def Kp{a}{h:List Ob}{t}{l}(b:l<h.length):Q3 a h t l=a l:=by unfold Q3;rw[Qc ω]
structure Qn where
 lk:Cf
 T:List Ql
 To:List Ql
 N:List Nd
 A:List Int
 Lv:List It
 ks:Int->Bool
 KT:Int->List It
 Qe:Nat
 acc:Nat
structure Loc where
 t:Nat
 b:Nat
 o:Nat
 v:Nat
 m:Nat
 cb:Nat
 cm:Nat
 eb:List ZC
 em:List ZC
 le:Int->Nat
 lq:Int->Nat
 lk:Int->Nat
def Qi(N:List Nd)(a:Int):Option Nd:=N.find? λn=>n.c.iD==a
@[go_sem] def j4(c:Cf)(t b o v m d a:Nat):Ob:=⟨.one,0,9,1,λ_=>[Qa c.t,Qa c.Jb,.ptr t 0 0 0,.mref b 0,.ptr o 0 0 0,.ptr v 0 0 0,.mref m 0,u64 d,u64 a]⟩
@[go_sem] def YN(d:D)(n:Nd):Ob:=⟨.one,0,60,1,λ_=>K0 d n⟩
def qD(a:Int->Nat)(n:Nd):D:=if n.c.leaf=true then .ptr (a n.c.iD) 0 0 0 else .raw (.pointer none)
structure Nd.Ok (n:Nd):Prop where
 QT:n.QT<18446744073709551616
 du:n.du.Ok
 sh:n.sh.Ok
 cp:n.cp.Ok
 c:Ql.Ok n.c
structure ZB (own:Nat->Tag) (h:List Ob) (p:Nat) (L:Loc) (M:Qn):Prop where
 ob:h[p]?=some (j4 M.lk L.t L.b L.o L.v L.m M.Qe M.acc)
 op:own p=.sc
 tr:WD (λl=>own l=.tree) h L.t M.T
 VY:h[L.b]?=some (QR .i64 L.cb L.eb)
 qK:K9 L.eb (λid=>(Qi M.N id).map λ_=>.ptr (L.le id) 0 0 0)
 ow:own L.b=.ux
 Jw:∀id n,Qi M.N id=some n->h[L.le id]?=some (YN (qD L.lq n) n)/\own (L.le id)=.xy id
 Xx:∀id n,Qi M.N id=some n->n.c.leaf=true->∃k:Nat,n.c.ZK=k/\wo (λl=>own l=.qJ id) h (L.lq id) k n.c.bytes n.q
 qL:jc (λl=>own l=.on) h L.o M.To M.A
 X3:WW (λl=>own l=.lv) h L.v M.Lv
 Wi:h[L.m]?=some (QR .i64 L.cm L.em)
 X4:K9 L.em (λid=>if M.ks id=true then some (.ptr (L.lk id) 0 0 0) else none)
 om:own L.m=.mk
 kids:∀id,M.ks id=true->WW (λl=>own l=.X2 id) h (L.lk id) (M.KT id)
 qi:∀id n,Qi M.N id=some n->n.Ok
def WW.step{S S'}{h h':List Ob}{p}{L}(e:∀l,l<h.length->S l->S' l/\h'[l]? = h[l]?):WW S h p L->WW S' h' p L:=λ⟨a,m,t,c,g,T⟩=>
 have k:∀l o,S l->h[l]?=some o->h'[l]?=some o:=λl o f d=>(e l (Qb d) f).2.trans d
 ⟨a,m,t,c,g,k _ _ T.sp T.o,⟨k _ _ T.sa T.av.o,T.av.is.frame λl b=>(e l (T.av.is.lt l b) (T.st l b)).2,T.av.list,T.av.nd,T.av.out,T.av.sorted⟩,k _ _ T.sm T.mo,T.mp,T.vi,T.pa,T.pm,T.am,T.pt,T.mt,(e _ (Qb T.o) T.sp).1,(e _ (Qb T.av.o) T.sa).1,(e _ (Qb T.mo) T.sm).1,λl b=>(e l (T.av.is.lt l b) (T.st l b)).1⟩
def Live(t:Tag):Prop:=t≠.no/\t≠.QzB
def ZB.step{c own'}{h h':List Ob}{p}{L}{M}(C:ZB c h p L M)(e:∀l,l<h.length->Live (c l)->own' l=c l/\h'[l]? = h[l]?):ZB own' h' p L M:=by
 have k:∀l o t,c l=t->Live t->h[l]?=some o->h'[l]?=some o:=λl o t d f i=>(e l (Qb i) (by rw[d];exact f)).2.trans i;have g:∀l o t,c l=t->Live t->h[l]?=some o->own' l=t:=λl o t d f i=>by rw[(e l (Qb i) (by rw[d];exact f)).1,d]
 have s:∀t,Live t->∀l,l<h.length->c l=t->own' l=t/\h'[l]? = h[l]? := λt f l m d=>by
  obtain⟨a,b⟩:=e l m (by rw[d];exact f);exact⟨by rw[a,d],b⟩
 refine⟨k _ _ _ C.op (by simp[Live]) C.ob,g _ _ _ C.op (by simp[Live]) C.ob,C.tr.step (s _ (by simp[Live])),k _ _ _ C.ow (by simp[Live]) C.VY,C.qK,g _ _ _ C.ow (by simp[Live]) C.VY,λid n j=>?_,λid n j m=>?_,C.qL.step (s _ (by simp[Live])),C.X3.step (s _ (by simp[Live])),k _ _ _ C.om (by simp[Live]) C.Wi,C.X4,g _ _ _ C.om (by simp[Live]) C.Wi,λid r=>(C.kids id r).step (s _ (by simp[Live])),C.qi⟩;obtain⟨d,f⟩:=C.Jw id n j;exact⟨k _ _ _ f (by simp[Live]) d,g _ _ _ f (by simp[Live]) d⟩;obtain⟨q,d,f⟩:=C.Xx id n j m;exact⟨q,d,f.step (s _ (by simp[Live]))⟩
structure Zu (own:Nat->Tag) (h:List Ob) (own':Nat->Tag) (h':List Ob):Prop where
 same:∀l,l<h.length->own' l=own l
 keep:∀l,l<h.length->own l=Tag.no->h'[l]? = h[l]?
 len:h.length<=h'.length
def Zu.refl(a)(h):Zu a h a h:=⟨λ_ _=>rfl,λ_ _ _=>rfl,QB _⟩
def Zu.trans{e c i}{h h' g}(a:Zu e h c h')(b:Zu c h' i g):Zu e h i g:=
 ⟨λl d=>(b.same l (vJ d a.len)).trans (a.same l d),λl d f=>(b.keep l (vJ d a.len) ((a.same l d).trans f)).trans (a.keep l d f),JY a.len b.len⟩
def Zu.app(a)(h g)(t):Zu a h (Q3 a h t) (h++g):=⟨λl b=>Kp b,λl b _=>QE b,σ⟩
def Zu.of{own}{h b}{t}(c:t≠.no)(s:Step (λl=>own l=t) h b):Zu own h (Q3 own h t) b:=
 ⟨λl a=>Kp a,λl a d=>s.keep l a (by rw[d];exact λe=>c e.symm),s.len⟩
def Zu.set{own}{h:List Ob}{l}(o)(b:own l≠.no):Zu own h own (h.set l o):=⟨λ_ _=>rfl,λj c a=>Qp (λe=>b (e▸a)),σ⟩
section
variable {own:Nat->Tag}{h h':List Ob}{p:Nat}{L:Loc}{M:Qn}(C:ZB own h p L M)
include C
theorem ZB.PC(g):ZB (Q3 own h .no) (h++g) p L M:=C.step λl a _=>⟨Kp a,QE a⟩
theorem ZB.loc{l}(a:own l=.no)(o):ZB own (h.set l o) p L M:=C.step λj _ b=>⟨rfl,Qp (λe=>b.1 (by rw[<- e,a]))⟩
theorem ZB.rest{t}(s:Step (λl=>own l=t) h h'):∀u,u≠t->∀l,l<h.length->own l=u->Q3 own h t l=u/\h'[l]? = h[l]? := λu c l a b=>
 ⟨by rw[Kp a,b],s.keep l a (by rw[b];exact c)⟩
theorem ZB.X2(c)(x:M.ks c=true){B}(w:WW (more (λl=>own l=.X2 c) h) h' (L.lk c) B)(s:Step (λl=>own l=.X2 c) h h'):ZB (Q3 own h (.X2 c)) h' p L { M with KT:=λj=>if j=c then B else M.KT j }:=by
 have r:=C.rest s;have k:∀l o t,own l=t->t≠.X2 c->h[l]?=some o->h'[l]?=some o/\Q3 own h (.X2 c) l=t:=λl o t f d q=>by
  obtain⟨a,b⟩:=r t d l (Qb q) f;exact⟨b.trans q,a⟩
 refine⟨(k _ _ _ C.op σ C.ob).1,(k _ _ _ C.op σ C.ob).2,C.tr.step (r _ σ),(k _ _ _ C.ow σ C.VY).1,C.qK,(k _ _ _ C.ow σ C.VY).2,λi n g=>?_,λi n g m=>?_,C.qL.step (r _ σ),C.X3.step (r _ σ),(k _ _ _ C.om σ C.Wi).1,C.X4,(k _ _ _ C.om σ C.Wi).2,λi v=>?_,C.qi⟩;obtain⟨f,d⟩:=C.Jw i n g;exact k _ _ _ d σ f;obtain⟨u,f,d⟩:=C.Xx i n g m;exact⟨u,f,d.step (r _ σ)⟩;by_cases e:i=c;subst e;dsimp only;rw[Qd rfl];exact w.mono λl m=>iQ l m;dsimp only;rw[Qc e];exact(C.kids i v).step (r _ (by simpa using e))
theorem ZB.lv{B}(q:WW (more (λl=>own l=.lv) h) h' L.v B)(s:Step (λl=>own l=.lv) h h'):ZB (Q3 own h .lv) h' p L { M with Lv:=B }:=by
 have r:=C.rest s;have k:∀l o t,own l=t->t≠.lv->h[l]?=some o->h'[l]?=some o/\Q3 own h .lv l=t:=λl o t d c g=>by
  obtain⟨a,b⟩:=r t c l (Qb g) d;exact⟨b.trans g,a⟩
 refine⟨(k _ _ _ C.op σ C.ob).1,(k _ _ _ C.op σ C.ob).2,C.tr.step (r _ σ),(k _ _ _ C.ow σ C.VY).1,C.qK,(k _ _ _ C.ow σ C.VY).2,λi n e=>?_,λi n e f=>?_,C.qL.step (r _ σ),q.mono λl f=>iQ l f,(k _ _ _ C.om σ C.Wi).1,C.X4,(k _ _ _ C.om σ C.Wi).2,λi m=>(C.kids i m).step (r _ σ),C.qi⟩;obtain⟨d,c⟩:=C.Jw i n e;exact k _ _ _ c σ d;obtain⟨j,d,c⟩:=C.Xx i n e f;exact⟨j,d,c.step (r _ σ)⟩
theorem ZB.act{j}(u:jc (more (λl=>own l=.on) h) h' L.o M.To j)(s:Step (λl=>own l=.on) h h'):ZB (Q3 own h .on) h' p L { M with A:=j }:=by
 have r:=C.rest s;have k:∀l o t,own l=t->t≠.on->h[l]?=some o->h'[l]?=some o/\Q3 own h .on l=t:=λl o t d c g=>by
  obtain⟨a,b⟩:=r t c l (Qb g) d;exact⟨b.trans g,a⟩
 refine⟨(k _ _ _ C.op σ C.ob).1,(k _ _ _ C.op σ C.ob).2,C.tr.step (r _ σ),(k _ _ _ C.ow σ C.VY).1,C.qK,(k _ _ _ C.ow σ C.VY).2,λi n e=>?_,λi n e f=>?_,u.step λl _ f=>⟨iQ l f,rfl⟩,C.X3.step (r _ σ),(k _ _ _ C.om σ C.Wi).1,C.X4,(k _ _ _ C.om σ C.Wi).2,λi q=>(C.kids i q).step (r _ σ),C.qi⟩;obtain⟨d,c⟩:=C.Jw i n e;exact k _ _ _ c σ d;obtain⟨m,d,c⟩:=C.Xx i n e f;exact⟨m,d,c.step (r _ σ)⟩
end
def Zu.DL{b}{h:List Ob}{a}{H:List Ob}(D:Zu b h a H){l}(e:h.length<=l)(o):Zu b h a (H.set l o):=⟨D.same,λj d c=>by rw[Qp ω];exact D.keep j d c,by simpa using D.len⟩
def Wj(N:List Nd)(a:Int)(f:Nd->Nd):List Nd:=N.map λn=>if n.c.iD=a then f n else n
def zI{N}{id}{f}(c:∀n,(f n).c.iD=n.c.iD)(j:Int):Qi (Wj N id f) j=if j=id then (Qi N j).map f else Qi N j:=by
 unfold Qi Wj;rw[List.find?_map];have e:((λn:Nd=>n.c.iD==j) ∘ λn=>if n.c.iD=id then f n else n)=λn=>n.c.iD==j:=by
  funext n;simp only[Function.comp_apply];split<;>simp[c]
 rw[e];by_cases b:j=id;subst b;rw[Qd rfl];cases a:N.find? λn=>n.c.iD==j with
 | none=>rfl
 | some n=>
  have:=wS a;simp only[qX]at this;simp[this]
 rw[Qc b];cases a:N.find? λn=>n.c.iD==j with
 | none=>rfl
 | some n=>
  have:=wS a;simp only[qX]at this;simp only[KM];rw[Qc (by rw[this];exact b)]
section
variable {own:Nat->Tag}{h:List Ob}{p:Nat}{L:Loc}{M:Qn}(C:ZB own h p L M)
include C
theorem ZB.xy{b}{n:Nd}(g:Qi M.N b=some n)(f)(w:∀n,(f n).c=n.c)(z:∀n,(f n).q=n.q)(I:(f n).Ok):ZB own (h.set (L.le b) (YN (qD L.lq n) (f n))) p L { M with N:=Wj M.N b f }:=by
 obtain⟨F,x⟩:=C.Jw b n g;have s:∀l o t,own l=t->t≠.xy b->h[l]?=some o->(h.set (L.le b) (YN (qD L.lq n) (f n)))[l]?=some o:=λl o t q E B=>by
  rw[Qp (λe=>E (by rw[<- q,<- e,x]))];exact B
 have r:∀t,t≠.xy b->∀l,l<h.length->own l=t->own l=t/\(h.set (L.le b) (YN (qD L.lq n) (f n)))[l]? = h[l]? := λt y l k q=>⟨q,Qp (λe=>y (by rw[<- q,<- e,x]))⟩;have H:∀n,(f n).c.iD=n.c.iD:=λn=>by rw[w]
 have u:=zI (N:=M.N) (id:=b) H;refine⟨s _ _ _ C.op σ C.ob,C.op,C.tr.step (r _ σ),s _ _ _ C.ow σ C.VY,C.qK.to λj=>?_,C.ow,λj m a=>?_,λj m a k=>?_,C.qL.step (r _ σ),C.X3.step (r _ σ),s _ _ _ C.om σ C.Wi,C.X4,C.om,λj c=>(C.kids j c).step (r _ σ),λj m a=>?_⟩;dsimp only;rw[u];split;cases Qi M.N j<;>rfl;rfl;dsimp only at a;rw[u]at a;by_cases c:j=b;subst c;rw[Qd rfl,g,KM]at a;cases a;refine⟨?_,x⟩;rw[QF (Qb F)];unfold qD;rw[w];rw[Qc c]at a;obtain⟨i,d⟩:=C.Jw j m a;exact⟨s _ _ _ d (by simpa using c) i,d⟩;dsimp only at a;rw[u]at a;by_cases c:j=b;subst c;rw[Qd rfl,g,KM]at a;cases a;rw[w]at k ⊢;rw[z];obtain⟨v,i,d⟩:=C.Xx j n g k;exact⟨v,i,d.step (r _ σ)⟩;rw[Qc c]at a;obtain⟨v,i,d⟩:=C.Xx j m a k;exact⟨v,i,d.step (r _ σ)⟩;dsimp only at a;rw[u]at a;by_cases c:j=b;subst c;rw[Qd rfl,g,KM]at a;cases a;exact I;rw[Qc c]at a;exact C.qi j m a
theorem ZB.qJ{w:List Ob}{d:Int}{n:Nd}(i:Qi M.N d=some n)(J:n.c.leaf=true){k:Nat}(F:n.c.ZK=k){y:Qu}(Q:wo (λl=>own l=.qJ d) w (L.lq d) k n.c.bytes y)(s:Step (λl=>own l=.qJ d) h w):ZB (Q3 own h (.qJ d)) w p L { M with N:=Wj M.N d λn=>{ n with q:=y } }:=by
 have r:=C.rest s;have g:∀l o t,own l=t->t≠.qJ d->h[l]?=some o->w[l]?=some o/\Q3 own h (.qJ d) l=t:=λl o t z H E=>by
  obtain⟨a,b⟩:=r t H l (Qb E) z;exact⟨b.trans E,a⟩
 have x:=zI (N:=M.N) (id:=d) (f:=λn=>{ n with q:=y }) (λ_=>rfl);refine⟨(g _ _ _ C.op σ C.ob).1,(g _ _ _ C.op σ C.ob).2,C.tr.step (r _ σ),(g _ _ _ C.ow σ C.VY).1,C.qK.to λj=>?_,(g _ _ _ C.ow σ C.VY).2,λj m c=>?_,λj m c I=>?_,C.qL.step (r _ σ),C.X3.step (r _ σ),(g _ _ _ C.om σ C.Wi).1,C.X4,(g _ _ _ C.om σ C.Wi).2,λj e=>(C.kids j e).step (r _ σ),λj m c=>?_⟩;dsimp only;rw[x];split;cases Qi M.N j<;>rfl;rfl;dsimp only at c;rw[x]at c;by_cases e:j=d;subst e;rw[Qd rfl,i,KM]at c;cases c;obtain⟨v,u⟩:=C.Jw j n i;exact g _ _ _ u σ v;rw[Qc e]at c;obtain⟨v,u⟩:=C.Jw j m c;exact g _ _ _ u σ v;dsimp only at c;rw[x]at c;by_cases e:j=d;subst e;rw[Qd rfl,i,KM]at c;cases c;exact⟨k,F,Q.step λl _ z=>⟨iQ l (.inl z),rfl⟩⟩;rw[Qc e]at c;obtain⟨B,v,u⟩:=C.Xx j m c I;exact⟨B,v,u.step (r _ (by simpa using e))⟩;dsimp only at c;rw[x]at c;by_cases e:j=d;subst e;rw[Qd rfl,i,KM]at c;cases c;have:=C.qi j n i;exact⟨this.QT,this.du,this.sh,this.cp,this.c⟩;rw[Qc e]at c;exact C.qi j m c
theorem ZB.Qe(c a):ZB own (h.set p (j4 M.lk L.t L.b L.o L.v L.m c a)) p L { M with Qe:=c,acc:=a }:=by
 have i:∀l o t,own l=t->t≠.sc->h[l]?=some o->(h.set p (j4 M.lk L.t L.b L.o L.v L.m c a))[l]?=some o:=λl o t b v u=>by
  rw[Qp (λe=>v (by rw[<- b,<- e,C.op]))];exact u
 have r:∀t,t≠.sc->∀l,l<h.length->own l=t->own l=t/\(h.set p (j4 M.lk L.t L.b L.o L.v L.m c a))[l]? = h[l]? := λt q l k b=>⟨b,Qp (λe=>q (by rw[<- b,<- e,C.op]))⟩;refine⟨QF (Qb C.ob),C.op,C.tr.step (r _ σ),i _ _ _ C.ow σ C.VY,C.qK,C.ow,λj m f=>?_,λj m f k=>?_,C.qL.step (r _ σ),C.X3.step (r _ σ),i _ _ _ C.om σ C.Wi,C.X4,C.om,λj s=>(C.kids j s).step (r _ σ),C.qi⟩;obtain⟨g,d⟩:=C.Jw j m f;exact⟨i _ _ _ d σ g,d⟩;obtain⟨n,g,d⟩:=C.Xx j m f k;exact⟨n,g,d.step (r _ σ)⟩
end
structure QA (M:Qn):Prop where
 tree:JQ M.T
 AS:jg M.T
 to:M.To=M.T
 nodes:M.T=M.N.map (·.c)
 Xk:yx M.T M.A
 ks:∀id,M.ks id=true↔id=0\/∃n,Qi M.N id=some n/\n.c.leaf=false
 AT:∀x∈M.Lv,(Qw M.T x.ki).isSome=true
 vr:∀id,∀x∈M.KT id,∃c,Qw M.T x.ki=some c/\c.parent=id
 wy:∀id,∀x∈M.KT id,x.ka<=18446744073709551615
 Qe:M.Qe<=4611686018427387904
 acc:M.acc<=1099511627776
def uy(N:List Nd)(a:Int):Qw (N.map (·.c)) a=(Qi N a).map (·.c):=by
 unfold Qw Qi;rw[List.find?_map];rfl
section
variable {M:Qn}(I:QA M)
include I
theorem QA.find(a:Int):Qw M.T a=(Qi M.N a).map (·.c):=by rw[I.nodes,uy]
theorem QA.uz(a):∀x∈M.KT a,(Qw M.T x.ki).isSome=true:=λx hx=>by
 obtain⟨c,b,_⟩:=I.vr a x hx;rw[b];rfl
theorem QA.some{a}{n:Nd}(h:Qi M.N a=some n):Qw M.T a=Option.some n.c:=by rw[I.find,h];rfl
omit I in
theorem QA.id{a}{n:Nd}(h:Qi M.N a=Option.some n):n.c.iD=a:=by
 have:=wS h;simpa using this
theorem QA.iR{a}{n}(h:Qi M.N a=Option.some n):a≠0:=λe=>by
 have:=I.some h;rw[e,LH I.tree]at this;cases this
theorem QA.PD{a}{c}(h:Qw M.T a=Option.some c):∃n,Qi M.N a=Option.some n/\n.c=c:=by
 rw[I.find]at h;cases b:Qi M.N a with
 | none=>rw[b]at h;cases h
 | some n=>rw[b]at h;exact⟨n,rfl,Ix h⟩
end
def WW.nd{S}{h}{p}{L:List It}:WW S h p L->(L.map It.ki).Nodup:=λ⟨a,m,t,c,b,T⟩=>T.ids
def Ut{T}(I:JQ T){L:List It}(d:(L.map It.ki).Nodup)(b:∀x∈L,(Qw T x.ki).isSome=true):L.length<=64:=by
 have f:(L.map It.ki).length<=(T.map (·.iD)).length:=by
  refine List.Nodup.length_le_of_subset d λi e=>?_;obtain⟨x,hx,rfl⟩:=Ji.1 e;obtain⟨c,a⟩:=Er.1 (b x hx);exact Ji.2 ⟨c,yw I a,QuV I a⟩
 have:=I.len;simp only[Kj]at f;omega
def Kq(M:Qn)(a:Int):Bool:=Jm M.T M.A a
def X5(M:Qn)(a:Int)(n:Nd):Nat:=if n.c.leaf=true\/Kq M a=false then n.cp.fit else max n.cp.fit (B8 (M.KT a))
section
variable {own:Nat->Tag}{h:List Ob}{p:Nat}{L:Loc}{M:Qn}(C:ZB own h p L M)(I:QA M)
include C I
omit I in
theorem ZB.look{a}{n}(b:Qi M.N a=some n):ZY L.eb a=some (.ptr (L.le a) 0 0 0):=by
 have:=C.qK.at_ a;rw[b]at this;exact this
theorem ZB.iS:LS h L.o M.T M.A:=by
 have:=C.qL.toR;rwa [I.to]at this
theorem QzD{a}{n}(i:Qi M.N a=some n):Zf prog 206 h [.ptr p 0 0 0,.ptr (L.le a) 0 0 0] (λd=>d=u64 (X5 M a n)):=by
 have e:=Z4 C.ob;have c:=Z4 (C.Jw a n i).1;have m:=Z4 C.Wi;have j:=QA.id i;have q:=OZ (C.iS I) I.tree I.Xk a (I.iR i);unfold X5;cases k:n.c.leaf with
 | true=>
  rw[Qd (.inl rfl)];refine ZH func206 ntmps206 results206 λg w r F f u b=>?_;rw[<- f]at e c;have x:=Qb e;have v:=Qb c;simp only[go_sem];apply Qv b o09;simp only[go_sem,c,k,Go.undef];all_goals exact W9
 | false=>
  have t:M.ks a=true:=(I.ks a).2 (.inr ⟨n,i,k⟩);have s:=C.X4.at_ a;rw[Qd t]at s;have z:=(C.kids a t).toR;have y:Jm M.T M.A a=Kq M a:=rfl;rw[y]at q;cases l:Kq M a with
  | false=>
   rw[l]at q;rw[Qd (.inr rfl)];refine ZH func206 ntmps206 results206 λg w r F f u b=>?_;rw[<- f]at e c;have x:=Qb e;have v:=Qb c;simp only[go_sem];apply Qv b o09;simp only[go_sem,e,c,k];have o:Jm M.T M.A a=false:=l;refine Qf1 b SQ ?_ (OZ ((C.iS I).more (Vz f)) I.tree I.Xk a (I.iR i)) ?_;simp only[go_sem,j];apply ZT b;simp only[go_sem,c,j,o];all_goals exact W9
  | true=>
   rw[l]at q;rw[Qc σ];have o:Jm M.T M.A a=true:=l;refine ZH func206 ntmps206 results206 λg w r F f u b=>?_;rw[<- f]at e c m;have x:=Qb e;have v:=Qb c;have B:=Qb m;simp only[go_sem];apply Qv b o09;simp only[go_sem,e,c,k];refine Qf1 b SQ ?_ (OZ ((C.iS I).more (Vz f)) I.tree I.Xk a (I.iR i)) ?_;simp only[go_sem,j];apply ZT b;simp only[go_sem,j,o];apply Qv b [0,1,2,3,4,5,6,7,8,9,10,11,12,13,14,1015,1016,17];simp only[go_sem,e,c,m,s,j];apply KQ b Qfo (Qg4 (z.more (Vz f)) (I.wy a));apply Zp b;apply ZD b QtR (Qxa n.cp.fit (B8 (M.KT a)));apply Zp b;all_goals exact W9
end
def Qy(M:Qn)(a:Int):Nd:=(Qi M.N a).getD default
def VA(M:Qn)(a:Int):Qn:=
 if Kq M a=true then { M with KT:=λj=>if j=(Qy M a).c.parent then Ym a (Qy M a).sh.time (X5 M a (Qy M a)) (M.KT (Qy M a).c.parent) else M.KT j } else M
def Wl(M:Qn):List Int->Qn
 | []=>M
 | id::r=>Wl (VA M id) r
def Qi6(M):∀(l r:List Int),Wl M (l++r)=Wl (Wl M l) r
 | [],r=>rfl
 | id::l,r=>Qi6 (VA M id) l r
def PF(M:Qn)(a:Int):(VA M a).N=M.N/\(VA M a).T=M.T/\(VA M a).To=M.To/\(VA M a).A=M.A/\(VA M a).Lv=M.Lv/\(VA M a).ks=M.ks/\(VA M a).Qe=M.Qe/\(VA M a).acc=M.acc/\(VA M a).lk=M.lk:=by
 unfold VA;split<;>exact⟨rfl,rfl,rfl,rfl,rfl,rfl,rfl,rfl,rfl⟩
def DM:∀(l:List Int) (M:Qn),(Wl M l).N=M.N/\(Wl M l).T=M.T/\(Wl M l).To=M.To/\(Wl M l).A=M.A/\(Wl M l).Lv=M.Lv/\(Wl M l).ks=M.ks/\(Wl M l).Qe=M.Qe/\(Wl M l).acc=M.acc/\(Wl M l).lk=M.lk
 | [],M=>⟨rfl,rfl,rfl,rfl,rfl,rfl,rfl,rfl,rfl⟩
 | id::l,M=>by
  obtain⟨s,r,q,p,o,n,m,k,j⟩:=DM l (VA M id);obtain⟨i,h,g,f,e,d,c,b,a⟩:=PF M id;exact⟨s.trans i,r.trans h,q.trans g,p.trans f,o.trans e,n.trans d,m.trans c,k.trans b,j.trans a⟩
def uA{M:Qn}(I:QA M){b}{n:Nd}(c:Qi M.N b=some n)(o:n.Ok):QA (VA M b):=by
 obtain⟨d,a,m,l,k,i,h,g,p⟩:=PF M b;have e:Qy M b=n:=by unfold Qy;rw[c];rfl
 refine⟨by rw[a];exact I.tree,by rw[a];exact I.AS,by rw[a,m];exact I.to,by rw[a,d];exact I.nodes,by rw[a,l];exact I.Xk,by rw[i,d];exact I.ks,by rw[k,a];exact I.AT,λj x hx=>?_,λj x hx=>?_,by rw[h];exact I.Qe,by rw[g];exact I.acc⟩;rw[a];unfold VA at hx;split at hx;dsimp only at hx;split at hx;rename_i f;subst f;rcases Hn.1 hx with rfl|hx;exact⟨n.c,I.some c,by rw[e]⟩;exact I.vr _ x (Jt.1 hx).1;exact I.vr _ x hx;exact I.vr _ x hx;unfold VA at hx;split at hx;dsimp only at hx;split at hx;rcases Hn.1 hx with rfl|hx;rw[e];have:=o.sh.time;show n.sh.time<=_;omega;exact I.wy _ x (Jt.1 hx).1;exact I.wy _ x hx;exact I.wy _ x hx
structure PG (own:Nat->Tag) (h:List Ob) (p:Nat) (L:Loc) (M:Qn) (U:List Int) (k:Nat) (s:St):Prop where
 ex:∃own' H,ZB own' H p L (Wl M (U.take k))/\QA (Wl M (U.take k))/\Zu own h own' H/\s=⟨[(0,.ptr p 0 0 0),(12,ints U),(13,Qa U.length),(14,Qa k)],H⟩
def PG.of{own}{h}{p}{L}{M}{U:List Int}{k}{a}{H}(C:ZB a H p L (Wl M (U.take k)))(I:QA (Wl M (U.take k)))(D:Zu own h a H):PG own h p L M U k ⟨[(0,.ptr p 0 0 0),(12,ints U),(13,Qa U.length),(14,Qa k)],H⟩:=⟨⟨a,H,C,I,D,rfl⟩⟩
def uB{M:Qn}(I:QA M){b}{n:Nd}(c:Qi M.N b=some n):M.ks n.c.parent=true:=by
 rw[I.ks];by_cases a:n.c.parent=0;exact .inl a;obtain⟨d,g,f⟩:=I.tree.J9 n.c (yw I.tree (I.some c)) a;obtain⟨m,e,rfl⟩:=I.PD g;exact .inr ⟨m,e,f⟩
def uC{l}{h}{p}{L}{M:Qn}(C:ZB l h p L M)(I:QA M)(a):QM prog 150 h [.ptr p 0 0 0,Qa a] (λd N=>∃f,ZB f N p L (Wl M (up M.T a))/\QA (Wl M (up M.T a))/\Zu l h f N):=by
 have q:=C.ob;have V:(up M.T a).length<=16:=yu;refine Q7 func150 ntmps150 results150 λS w pl g=>?_;have Qr:=Qb q;simp only[go_sem,q];apply Zz g fk (rY C.tr.toR I.tree.toTreeInv a);apply Qg g;obtain⟨U,s⟩:∃U,U=up M.T a:=⟨_,rfl⟩;rw[show ZF M.T 16 a=U from s.symm];rw[<- s]at V ⊢;refine ZN (PG l h p L M U) U.length QO (PG.of (k:=0) C I (Zu.refl l h)) ?_;rintro k _ hk ⟨f,H,c,e,v,rfl⟩;by_cases m:k<U.length;have P:=QS m;obtain⟨id,t⟩:∃id,id=U.getD k 0:=⟨_,rfl⟩;have x:id∈up M.T a:=by rw[t,<- s];exact qE U 0 k m
 obtain⟨e1,O,e3,e4,e5,e6,e7,e8,Z⟩:=DM (U.take k) M;have u:=Hj x;have o:Wl M (U.take (k+1))=VA (Wl M (U.take k)) id:=by
  rw[getD_take U 0 k m,Qi6,<- t];rfl
 obtain⟨b,FT⟩:∃b,b=Wl M (U.take k):=⟨_,rfl⟩;rw[<- FT]at c e e1 O e3 e4 e5 e6 e7 e8 Z o;obtain⟨n,i⟩:∃n,Qi b.N id=some n:=by
  rw[<- O,e.find]at u;cases W:Qi b.N id with
  | none=>rw[W]at u;cases u
  | some n=>exact⟨n,rfl⟩
 have Z9:Qy b id=n:=by unfold Qy;rw[i];rfl
 have T:=c.look i;have q:=c.ob;have Qr:=Qb q;have Q:=c.VY;have OP:=Qb Q;obtain⟨F,_⟩:=c.Jw id n i;have Yr:=Qb F;have E:=c.Wi;have Zl:=Qb E;have r:=uB e i;have B:=c.X4.at_ n.c.parent;rw[Qd r]at B;have R:=Jr (show k<4611686018427387904 from ω);apply Qh g;simp only[go_sem,m,<- t,q,Q,T];apply Zz g SQ (OZ (c.iS e) e.tree e.Xk id (e.iR i));apply Qg g;cases J:Jm b.T b.A id with
 | false=>
  have Uk:VA b id=b:=by unfold VA;rw[Qc (by unfold Kq;rw[J];decide)]
  rw[Uk]at o;simp only[go_sem];exact⟨m,_,Qo.frame (by simp only[go_sem,R]),PG.of (by rw[o];exact c) (by rw[o];exact e) v⟩
 | true=>
  have y:VA b id={ b with KT:=λj=>if j=n.c.parent then Ym id n.sh.time (X5 b id n) (b.KT n.c.parent) else b.KT j }:=by
   unfold VA;rw[Qd (show Kq b id=true from J),Z9]
  have K:=c.kids _ r;have PH:=QA.id i;have Ff:=Ut e.tree K.nd (e.uz _);simp only[go_sem];apply Vx [19] g [0,1,2,3,4,5,6,7,8,9,10,11,12,13,14,15,16,17,1018,1019] [];simp only[go_sem,q,F,E,B];apply KQ g Qtz (QzD c e i);apply Zp g;refine kS g Qty (QvJ K id n.sh.time (X5 b id n) ω) λd h8 Y=>?_;obtain⟨T8,z⟩:=Y;have C8:=c.X2 _ r T8 z;apply Zp g;rw[y]at o;exact⟨m,_,Qo.frame (by simp only[go_sem,R]),PG.of (by rw[o];exact C8) (by rw[o,<- y];exact uA e i (c.qi id n i)) (v.trans (Zu.of σ z))⟩
 have ZJ:k=U.length:=ω;have P:=QG m;rw[ZJ,Wn]at c e;apply Qh g;simp only[go_sem,P];exact⟨f,c,e,v⟩
def wz(M:Qn)(a:Nat):Bool:=!(decide (a<M.Qe) || decide (4611686018427387904<a))
def ZU(M:Qn)(a:Nat):Qn:=if wz M a=true then { M with Qe:=a } else M
section
variable {own:Nat->Tag}{h:List Ob}{p:Nat}{L:Loc}{M:Qn}(C:ZB own h p L M)
include C
theorem Qi7(a):QM prog 115 h [.ptr p 0 0 0,u64 a] (λd j=>d=QU (wz M a)/\ZB own j p L (ZU M a)/\Zu own h own j):=by
 have c:=C.ob;unfold ZU wz;by_cases i:a<M.Qe;have d1:=QS i;refine Q7 func115 ntmps115 results115 λb w e f=>?_;have k:=Qb c;simp only[go_sem,c,d1,Go.undef];exact⟨by simpa using C,Zu.refl own h⟩;have d1:=QG i;by_cases g:4611686018427387904<a;have d2:decide ((4611686018427387904:Int)<(a:Int))=true:=QS ω;have d3:=QS g;refine Q7 func115 ntmps115 results115 λb w e f=>?_;have k:=Qb c;simp only[go_sem,c,d1,d2,d3];exact⟨by simpa using C,Zu.refl own h⟩;have d2:decide ((4611686018427387904:Int)<(a:Int))=false:=QG ω;have d3:=QG g;refine Q7 func115 ntmps115 results115 λb w e f=>?_;have k:=Qb c;simp only[go_sem,c,d1,d2,d3];exact⟨C.Qe a M.acc,Zu.set _ (by rw[C.op];decide)⟩
end
def qM(n:Nd)(b:Int)(a:Bool):Du:=if a then gX n.du b (AN n.q) else Cd n.du (AN n.q)
def V9(M:Qn)(a:Int)(c:Int)(b:Bool):Qn:=
 if 1<QH (Qy M a).c.rt then { M with
   N:=Wj M.N a λn=>{ n with du:=qM (Qy M a) c b }
   Lv:=if (Qy M a).q.l=[] then Vn a (Ym a (qM (Qy M a) c b).Yp (qM (Qy M a) c b).dead M.Lv) else Ym a (qM (Qy M a) c b).Yp (qM (Qy M a) c b).dead M.Lv }
 else M
def uD{n:Nd}(h:n.Ok)(a)(b:Bool):(qM n a b).Ok:=by
 unfold qM;split;exact sV (l:={ n.du with JL:=V8 (n.du.JL+a.toNat) }) h.du.dl h.du.rd (Me _) _;exact sV h.du.dl h.du.rd h.du.JL _
section
variable {own:Nat->Tag}{h:List Ob}{p:Nat}{L:Loc}{M:Qn}(C:ZB own h p L M)(I:QA M)
include C I
theorem QzF{b}{n:Nd}(g:Qi M.N b=some n)(J:n.c.leaf=true)(e)(YK:0<=e)(Z6:e<9223372036854775808)(B):
  QM prog 155 h [.ptr p 0 0 0,.ptr (L.le b) 0 0 0,Qa e,QU B] (λd h'=>∃j,ZB j h' p L (V9 M b e B)/\Zu own h j h'):=by
 have i:=C.ob;have c:=(C.Jw b n g).1;have P:=QA.id g;have Z9:Qy M b=n:=by unfold Qy;rw[g];rfl
 have ZS:=C.qi b n g;have q:=ZS.du;obtain⟨kq,My,N⟩:=C.Xx b n g J;have U:qD L.lq n=.ptr (L.lq b) 0 0 0:=by unfold qD;rw[Qd J,P]
 rw[U]at c;have u:AN n.q<9223372036854775808:=by
  obtain⟨r,Q⟩:=N;unfold AN;cases Z:n.q.l with
  | nil=>decide
  | cons x l=>
   have:=(Q.lens x (by rw[Z];simp)).2;show x.len<_;omega
 unfold V9;rw[Z9];by_cases E:1<QH n.c.rt
 .rw[Qd E];have O:=QS E;refine Q7 func155 ntmps155 results155 λz w pl a=>?_;have S:=Qb i;have R:=Qb c;simp only[go_sem,c];apply QV a Dl (Fc n.c);apply Qh a;simp only[go_sem,O];have s:=uD ZS e B;cases B
  case' true=>
   have hx:qM n e true=gX n.du e (AN n.q):=rfl;rw[hx]at s ⊢;simp only[go_sem];apply Qv a [0,1,2,3,4,5,6,7,8,9,1010,1011,12,13,1014];simp only[go_sem,c];apply KQ a Qfw (QhO N.toR);apply Zp a;apply ZD a QtD (QwO n.du q.dl q.rd q.JL e (AN n.q) YK Z6 u);apply ZT a;simp only[go_sem,Qj,c];generalize gX n.du e (AN n.q)=x at s ⊢
  case' false=>
   have hx:qM n e false=Cd n.du (AN n.q):=rfl;rw[hx]at s ⊢;simp only[go_sem];apply Qv a [0,1,2,3,4,5,6,7,8,1009,1010,11,12,1013];simp only[go_sem,c];apply KQ a Qfw (QhO N.toR);apply Zp a;apply ZD a QtE (QwP n.du q.dl q.rd q.JL (AN n.q) u);apply ZT a;simp only[go_sem,Qj,c];generalize Cd n.du (AN n.q)=x at s ⊢
  all_goals
   have o:=C.xy g (λm=>{ m with du:=x }) (λ_=>rfl) (λ_=>rfl) ⟨ZS.QT,s,ZS.sh,ZS.cp,ZS.c⟩;have V:=Zu.set (own:=own) (h:=h) (YN (qD L.lq n) { n with du:=x }) (l:=L.le b) (by rw[(C.Jw b n g).2];simp);rw[U]at o V;generalize hH:h.set (L.le b) (YN (.ptr (L.lq b) 0 0 0) { n with du:=x })=H at o V;have Hh:h.set (L.le b) ⟨.one,0,60,1,λ_=>K0 (.ptr (L.lq b) 0 0 0) { n with du:=x }⟩=H:=hH;have T:Qi (Wj M.N b λm=>{ m with du:=x }) b=some { n with du:=x }:=by
    rw[zI (f:=λm=>{ m with du:=x }) (λ_=>rfl),Qd rfl,g];rfl
   have i:=o.ob;have S:=Qb i;have c:=(o.Jw b _ T).1;have v:qD L.lq { n with du:=x }=.ptr (L.lq b) 0 0 0:=U;rw[v]at c;have R:=Qb c;have Ff:=Ut I.tree o.X3.nd I.AT;simp only[Hh];apply Vx [19] a [0,1,2,3,4,5,6,7,8,9,10,11,12,13,14,15,16,17,18,1019] [];simp only[go_sem,i,c];refine yq a Qfn rfl ?_ (Qg9 o.X3 b x.Yp x.dead ω) rfl λd h8 K=>?_;simp only[go_sem,P];obtain⟨T8,Y⟩:=K;have k:=o.lv T8 Y;have D8:=V.trans (Zu.of (own:=own) (t:=.lv) σ Y);have i:=k.ob;have S:=Qb i;have c:=(k.Jw b _ T).1;rw[v]at c;have R:=Qb c;obtain⟨a0,a1,uE⟩:=k.Xx b _ T J;apply ZT a;simp only[go_sem,c];apply Zz a OD (Pm uE.toR);apply Qg a;cases Z:n.q.l with
   | cons y l=>
    have dq:(((l.length+1:Nat):Int)==0)=false:=Vw ω;rw[Qc σ];simp only[go_sem,dq];exact⟨_,k,D8⟩
   | nil=>
    rw[Qd rfl];have Ff:=Ut I.tree k.X3.nd (λy F=>by
     rcases Hn.1 F with rfl|F;rw[I.some g];rfl;exact I.AT y (Jt.1 F).1)
    simp only[go_sem];apply Vx [9] a [0,1,2,3,4,5,6,7,8,1009] [];simp only[go_sem,i,c];refine yq a Qfu rfl ?_ (Qg7 k.X3 b ω) rfl λd h9 K=>?_;simp only[go_sem,P];obtain⟨rfl,T9,W⟩:=K;apply Zp a;exact⟨_,k.lv T9 W,D8.trans (Zu.of σ W)⟩
 rw[Qc E];have O:=QG E;refine Q7 func155 ntmps155 results155 λz w pl a=>?_;have S:=Qb i;have R:=Qb c;simp only[go_sem,c];apply QV a Dl (Fc n.c);apply Qh a;simp only[go_sem,O];exact⟨own,C,Zu.refl own h⟩
end
def Mz(L:List It):Nat:=(L.head?.getD default).ka
def yM(M:Qn)(a:Nat)(n:Nd):Nd:={ n with sh:=Mh n.sh (Jk n.c.ls) (Mz (M.KT n.c.parent)) n.QT,cp:=yE n.cp (Jk n.c.ul) a n.QT }
def WG(a:Nat)(M:Qn)(j:Int):Qn:={ M with N:=Wj M.N j (yM M a) }
def VZ(M:Qn)(c:Nat)(b:Int)(a:Int):Qn:=
 if 1<QH (Qy M b).c.rt then { M with
   N:=Wj M.N b λn=>{ n with du:=jU (Qy M b).du (Jk (Qy M b).c.rt) c a }
   Lv:=Ym b (jU (Qy M b).du (Jk (Qy M b).c.rt) c a).Yp (jU (Qy M b).du (Jk (Qy M b).c.rt) c a).dead M.Lv }
 else M
def YO(M:Qn)(b:Nat)(c:Int)(a:Int):Qn:=
 if 1<QH (Qy M c).c.ls then Wl ((VH M.T M.A c).foldl (WG b) { VZ M b c a with A:=c::M.A }) (up M.T c)
 else VZ M b c a
def QzG(N:List Nd)(a)(f:Nd->Nd)(b:∀n,(f n).c=n.c):(Wj N a f).map (·.c)=N.map (·.c):=by
 unfold Wj;rw[Gt];congr 1;funext n;simp only[Function.comp_apply];split;exact b n;rfl
def QA.Wj{M:Qn}(I:QA M)(d)(f)(b:∀n,(f n).c=n.c):QA { M with N:=X.Wj M.N d f }:=by
 refine⟨I.tree,I.AS,I.to,by dsimp only;rw[QzG _ _ _ b];exact I.nodes,I.Xk,λj=>?_,I.AT,I.vr,I.wy,I.Qe,I.acc⟩;dsimp only;rw[I.ks,zI (λn=>by rw[b])];by_cases g:j=d;subst g;rw[Qd rfl];constructor;rintro (h|⟨n,a,c⟩);exact .inl h;exact .inr ⟨f n,by rw[a];rfl,by rw[b];exact c⟩;rintro (h|⟨n,a,c⟩);exact .inl h;cases e:Qi M.N j with
 | none=>rw[e]at a;cases a
 | some m=>
  rw[e]at a;cases a;exact .inr ⟨m,rfl,by rw[<- b];exact c⟩
 rw[Qc g]
def QA.lv{M:Qn}(I:QA M){B}(h:∀x∈B,(Qw M.T x.ki).isSome=true):QA { M with Lv:=B }:=
 ⟨I.tree,I.AS,I.to,I.nodes,I.Xk,I.ks,h,I.vr,I.wy,I.Qe,I.acc⟩
def QA.act{M:Qn}(I:QA M){B}(h:yx M.T B):QA { M with A:=B }:=
 ⟨I.tree,I.AS,I.to,I.nodes,h,I.ks,I.AT,I.vr,I.wy,I.Qe,I.acc⟩
def uF{c}{a b}{L}{x:It}(h:x∈Ym c a b L):x.ki=c\/x∈L:=by
 rcases Hn.1 h with rfl|h;exact .inl rfl;exact .inr (Jt.1 h).1
def uG{M}(I:QA M){a}(c:a<18446744073709551616){n:Nd}(h:n.Ok):(yM M a n).Ok:=by
 have d:Mz (M.KT n.c.parent)<18446744073709551616:=by
  unfold Mz;cases b:M.KT n.c.parent with
  | nil=>decide
  | cons x l=>
   have:=I.wy n.c.parent x (by rw[b];simp);show x.ka<_;omega
 exact⟨h.QT,h.du,Qw2 h.sh h.c.2.2.2.2.1.lt d h.QT,Qw8 h.cp h.c.2.2.2.2.2.1.lt c h.QT,h.c⟩
def QA.WG{M}(I:QA M)(a)(j):QA (WG a M j):=I.Wj j (yM M a) λ_=>rfl
def HC(a):∀(l:List Int) (M:Qn),(l.foldl (WG a) M).T=M.T/\(l.foldl (WG a) M).A=M.A/\(l.foldl (WG a) M).KT=M.KT/\(l.foldl (WG a) M).lk=M.lk/\(l.foldl (WG a) M).Qe=M.Qe/\(l.foldl (WG a) M).acc=M.acc
 | [],M=>⟨rfl,rfl,rfl,rfl,rfl,rfl⟩
 | j::l,M=>HC a l (X.WG a M j)
def QA.Uu{now}:∀(l:List Int) {M:Qn},QA M->QA (l.foldl (X.WG now) M)
 | [],M,I=>I
 | j::l,M,I=>QA.Uu l (I.WG now j)
def MA{M:Qn}{now}{id}{head:Int}:(VZ M now id head).T=M.T/\(VZ M now id head).A=M.A/\(VZ M now id head).KT=M.KT/\(VZ M now id head).lk=M.lk:=by
 unfold VZ;split<;>exact⟨rfl,rfl,rfl,rfl⟩
def QA.VZ{M:Qn}(I:QA M){b}{n}(d:Qi M.N b=Option.some n)(c)(a):QA (VZ M c b a):=by
 unfold X.VZ;split;refine(I.Wj b (λn=>{ n with du:=jU (Qy M b).du (Jk (Qy M b).c.rt) c a }) λ_=>rfl).lv λx hx=>?_;rcases uF hx with h|h;rw[h];show (Qw M.T b).isSome=true;rw[I.some d];rfl;exact I.AT x h;exact I
def QzH{M:Qn}{b}{c}{a:Int}(j){n:Nd}(d:Qi M.N j=some n):∃m,Qi (VZ M b c a).N j=some m/\m.c=n.c:=by
 unfold VZ;split;dsimp only;rw[zI (f:=λn=>{ n with du:=jU (Qy M c).du (Jk (Qy M c).c.rt) b a }) (λ_=>rfl)];split;rw[d];exact⟨_,rfl,rfl⟩;exact⟨n,d,rfl⟩;exact⟨n,d,rfl⟩
def uH{c:Cv}(h:Cv.Ok c):(((Jk c).a:Nat):Int)=c.m1/\(((Jk c).d:Nat):Int)=c.d/\(((Jk c).b:Nat):Int)=c.m2:=by
 have d:=wf_u64 h.1;have b:=wf_u64 h.2.1;have a:=wf_u64 h.2.2.1;refine⟨?_,?_,?_⟩;show ((c.m1.toNat:Nat):Int)=_;omega;show ((c.d.toNat:Nat):Int)=_;omega;show ((c.m2.toNat:Nat):Int)=_;omega
structure Uv (own:Nat->Tag) (h:List Ob) (p:Nat) (L:Loc) (M:Qn) (now:Nat) (id:Int) (lo g:Nat) (row:Nat->List D) (U:List Int) (k:Nat) (s:St):Prop where
 ex:∃own' H,ZB own' H p L ((U.take k).foldl (WG now) M)/\Zu own h own' H/\own' lo=.on/\H[lo]?=some ⟨.arr,g,1,U.length,row⟩ /\
  s=⟨[(0,.ptr p 0 0 0),(1,u64 now),(8,Qa id),(72,.ref lo g 0 U.length),(73,Qa U.length),(74,Qa k)],H⟩
def Uv.of{own}{h}{p}{L}{M}{b}{e}{d g}{c}{U:List Int}{k:Nat}{a}{H:List Ob}(C:ZB a H p L ((U.take k).foldl (WG b) M))(D:Zu own h a H)(i:a d=.on)(f:H[d]?=some ⟨.arr,g,1,U.length,c⟩):
  Uv own h p L M b e d g c U k ⟨[(0,.ptr p 0 0 0),(1,u64 b),(8,Qa e),(72,.ref d g 0 U.length),(73,Qa U.length),(74,Qa k)],H⟩:=⟨⟨a,H,C,D,i,f,rfl⟩⟩
def QzI{r}{h}{p}{L}{M:Qn}(C:ZB r h p L M)(I:QA M){i}{n:Nd}(z:Qi M.N i=some n)(hl:n.c.leaf=true)(b)(WH:b<18446744073709551616)(c)(hh:c<9223372036854775808)(ZP:Kq M i=false):
  QM prog 117 h [.ptr p 0 0 0,u64 b,.ptr (L.le i) 0 0 0,Qa c] (λd h'=>∃v,ZB v h' p L (YO M b i c)/\QA (YO M b i c)/\Zu r h v h'):=by
 have ho:=C.ob;have T:=(C.Jw i n z).1;have Zi:=QA.id z;have Z9:Qy M i=n:=by unfold Qy;rw[z];rfl
 have ZS:=C.qi i n z;obtain⟨r1,r2,r3⟩:=uH ZS.c.2.2.2.1;have K:=QA.VZ I z b c;have b1:L.le i≠p:=λe=>by have Z:=(C.Jw i n z).2;rw[e,C.op]at Z;cases Z
 obtain⟨q,V⟩:∃q,q=VZ M b i c:=⟨_,rfl⟩;have uJ:YO M b i c=if 1<QH n.c.ls then Wl ((VH M.T M.A i).foldl (WG b) { q with A:=i::M.A }) (up M.T i) else q:=by unfold YO;rw[Z9,V]
 by_cases hr:1<QH n.c.rt
 case' pos=>
  have dr:=QS hr;have vu:=te ZS.du ZS.c.2.2.2.1.lt WH c;refine Q7 func117 ntmps117 results117 λa3 w pl o=>?_;have Qr:=Qb ho;have Yr:=Qb T;simp only[go_sem,T];apply QV o Dl (Fc n.c);apply Qh o;simp only[go_sem,dr];apply Qv o [0,1,2,3,4,5,6,7,8,9,10,11,1012,13,14,1015];simp only[go_sem,T];refine Y7 o Qs9 ?_ (QwY n.du ZS.du (Jk n.c.rt) ZS.c.2.2.2.1.lt b WH c hh) ?_;simp only[go_sem,r1,r2,r3];apply ZT o;simp only[go_sem,Qj,T];have iU:q={ M with N:=Wj M.N i λm=>{ m with du:=jU n.du (Jk n.c.rt) b c },Lv:=Ym i (jU n.du (Jk n.c.rt) b c).Yp (jU n.du (Jk n.c.rt) b c).dead M.Lv }:=by
   rw[V];unfold VZ;rw[Z9,Qd hr]
  generalize jU n.du (Jk n.c.rt) b c=x at vu iU ⊢;have W:=C.xy z (λm=>{ m with du:=x }) (λ_=>rfl) (λ_=>rfl) ⟨ZS.QT,vu,ZS.sh,ZS.cp,ZS.c⟩;have D1:=Zu.set (own:=r) (h:=h) (YN (qD L.lq n) { n with du:=x }) (l:=L.le i) (by rw[(C.Jw i n z).2];simp);generalize hH:h.set (L.le i) (YN (qD L.lq n) { n with du:=x })=H at W D1;have Hh:h.set (L.le i) ⟨.one,0,60,1,λ_=>K0 (qD L.lq n) { n with du:=x }⟩=H:=hH;have KU:Qi (Wj M.N i λm=>{ m with du:=x }) i=some { n with du:=x }:=by
   rw[zI (f:=λm=>{ m with du:=x }) (λ_=>rfl),Qd rfl,z];rfl
  have ZZ:=W.ob;have MB:=Qb ZZ;have Cu:=(W.Jw i _ KU).1;have a6:=Qb Cu;have Ff:=Ut I.tree W.X3.nd I.AT;simp only[Hh];apply Vx [15] o [0,1,2,3,4,5,6,7,8,9,10,11,12,13,14,1015] [];simp only[go_sem,ZZ,Cu];refine yq o Qfn rfl ?_ (Qg9 W.X3 i x.Yp x.dead ω) rfl λd h8 Y=>?_;simp only[go_sem,Zi];obtain⟨T8,s8⟩:=Y;have E:=W.lv T8 s8;have DR:=D1.trans (Zu.of (own:=r) (t:=.lv) σ s8);rw[<- iU]at E;apply Zp o;generalize Q3 r H .lv=b0 at E DR;generalize h8=HR at E DR ⊢
 case' neg=>
  have dr:=QG hr;refine Q7 func117 ntmps117 results117 λa3 w pl o=>?_;have Qr:=Qb ho;have Yr:=Qb T;simp only[go_sem,T];apply QV o Dl (Fc n.c);apply Qh o;simp only[go_sem,dr];have iU:q=M:=by rw[V];unfold VZ;rw[Z9,Qc hr]
  have E:=C;rw[<- iU]at E;have DR:=Zu.refl r h
 all_goals
  rw[<- V]at K;obtain⟨kT,kA,kK,kl⟩:=MA (M:=M) (now:=b) (id:=i) (head:=c);rw[<- V]at kT kA kK kl;obtain⟨m,hm,yH⟩:∃m,Qi q.N i=some m/\m.c=n.c:=by rw[V];exact QzH i z
  have PK:=(E.Jw i m hm).1;have a9:=Qb PK;have VN:=E.ob;have FV:=Qb VN;simp only[go_sem,PK,yH];apply QV o vY (vZ n.c);apply Qg o;by_cases R:1<QH n.c.ls;case neg=>
   have ds:=QG R;simp only[go_sem,ds];rw[uJ,Qc R];exact⟨_,E,K,DR⟩
  have ds:=QS R;rw[Qd R,<- kA,<- kT]at uJ;rw[uJ];have Wu:Qw q.T i=some n.c:=by rw[kT];exact I.some z
  have hO:=E.qL;rw[K.to]at hO;have a2:Jm q.T q.A i=false:=by rw[kT,kA];exact ZP
  simp only[go_sem,ds,VN];refine zy o pq rfl ?_ (QgU hO K.tree K.Xk i n.c Wu hl R a2) rfl λd h9 Y=>?_;simp only[go_sem,Zi];obtain⟨d1,rfl,BP,O9,s9⟩:=Y;rw[<- K.to]at O9;have C9:=E.act O9 s9;have D9:=DR.trans (Zu.of (t:=.on) σ s9);have I9:QA { q with A:=i::q.A }:=K.act (λa ha=>by
   rcases QK.1 ha with rfl|ha;exact⟨n.c,Wu,hl,R⟩;exact K.Xk a ha)
  obtain⟨U,hU⟩:∃U,U=VH q.T q.A i:=⟨_,rfl⟩;rw[<- hU]at BP ⊢;have iT:U.length<=16:=by
   rw[hU];exact JY (RK _).length_le yu
  have uK:∀j∈U,j∈up q.T i:=λj S=>by rw[hU]at S;exact(RK _).subset S
  obtain⟨J,Uw⟩:∃J,J={ q with A:=i::q.A }:=⟨_,rfl⟩;have iV:J.T=q.T:=by rw[Uw]
  rw[<- Uw]at C9 I9 ⊢;rcases BP with ⟨rfl,Ux⟩|⟨lo,g,a4,a0,rfl,⟨ZQ,rfl⟩,MC,ZW⟩;exfalso;rw[hU,VH,Vf K.tree Wu,RJ,a2]at Ux;cases Ux;have a5:=Qb MC;rw[Jz]at MC;apply Qg o;refine ZN (Uv r h p L J b i lo g a0 U) U.length (Qo.frame (by simp only[go_sem,Zi])) (Uv.of (k:=0) C9 D9 (by unfold Q3;rw[Qd ZQ]) MC) ?_;rintro k _ hk ⟨v,H,u,Dk,EY,J3,rfl⟩;have uL:=Qb J3;by_cases P:k<U.length;case neg=>
   have ZJ:k=U.length:=ω;have dk:=QG P;rw[ZJ,Wn]at u;have Q:=QA.Uu (now:=b) U I9;have MD:=(HC b U J).1;have QZ:=uC u Q i;rw[MD,iV]at QZ;apply Qh o;simp only[go_sem,dk];apply Qg o;refine ZL o pC QZ λd q5 Y=>?_;obtain⟨iW,yN,iX,HE⟩:=Y;apply Qg o;exact⟨iW,yN,iX,Dk.trans HE⟩
  have dk:=QS P;obtain⟨j,S⟩:∃j,j=U.getD k 0:=⟨_,rfl⟩;have FW:j∈up q.T i:=uK j (by rw[S];exact qE U 0 k P);have Uy:a0 k=[Qa j]:=by have:=ZW k P;rw[Jz]at this;rw[this,S]
  have Ja:(U.take (k+1)).foldl (WG b) J=WG b ((U.take k).foldl (WG b) J) j:=by
   rw[getD_take U 0 k P,zQ,<- S];rfl
  have Q:=QA.Uu (now:=b) (U.take k) I9;have MD:=(HC b (U.take k) J).1;obtain⟨B,FT⟩:∃B,B=(U.take k).foldl (WG b) J:=⟨_,rfl⟩;rw[<- FT]at u Q MD Ja;obtain⟨y,O⟩:∃y,Qi B.N j=some y:=by
   have XT:=Hj FW;rw[<- iV,<- MD,Q.find]at XT;cases hq:Qi B.N j with
   | none=>rw[hq]at XT;cases XT
   | some y=>exact⟨y,rfl⟩
  have F:=u.qi j y O;obtain⟨l1,l2,l3⟩:=uH F.c.2.2.2.2.1;obtain⟨u1,u2,u3⟩:=uH F.c.2.2.2.2.2.1;have zH:=u.look O;have Ys:=u.ob;have ME:=Qb Ys;have jh:=u.VY;have Uz:=Qb jh;have Cw:=(u.Jw j y O).1;have iY:=Qb Cw;have Fe:=u.Wi;have a7:=Qb Fe;have j5:=uB Q O;have j6:=u.X4.at_ y.c.parent;rw[Qd j5]at j6;have j7:=(u.kids _ j5).toR;have QQ:=Jr (show k<4611686018427387904 from ω);have Oh:Mz (B.KT y.c.parent)<18446744073709551616:=by
   unfold Mz;cases hq:B.KT y.c.parent with
   | nil=>decide
   | cons x l=>
    have:=Q.wy y.c.parent x (by rw[hq];simp);show x.ka<_;omega
  have QC:L.le j≠lo:=λe=>by have Z:=(u.Jw j y O).2;rw[e,EY]at Z;cases Z
  apply Qh o;simp only[go_sem,P,Uy,Ys,jh,J3,zH];apply Qv o [0,1,2,3,4,5,6,7,8,9,1010,11,12,13,14,15];simp only[go_sem,Ys,Cw,Fe,j6];apply KQ o Qta (QvO j7);apply Zp o;have uM:(((B.KT y.c.parent).head?.getD default).ka:Int)=((Mz (B.KT y.c.parent):Nat):Int):=rfl;simp only[uM];apply Qv o o11;simp only[go_sem,Cw];refine Y7 o Qtb ?_ (Qw4 y.sh F.sh (Jk y.c.ls) F.c.2.2.2.2.1.lt (Mz (B.KT y.c.parent)) y.QT Oh F.QT) ?_;simp only[go_sem,l1,l2,l3];apply ZT o;simp only[go_sem,Qj,Cw];have a1:∀s,(H.set (L.le j) ⟨.one,0,60,1,λ_=>K0 (qD L.lq y) s⟩)[L.le j]?=some ⟨.one,0,60,1,λ_=>K0 (qD L.lq y) s⟩:=λs=>QF iY;have a8:∀s,L.le j<(H.set (L.le j) s).length:=λs=>by simpa using iY
  apply Qv o o11;simp only[go_sem,a1];refine Y7 o Qtc ?_ (Qw9 y.cp F.cp (Jk y.c.ul) F.c.2.2.2.2.2.1.lt b y.QT WH F.QT) ?_;simp only[go_sem,u1,u2,u3];apply ZT o;simp only[go_sem,Qj,a1];have C4:=u.xy O (yM B b) (λ_=>rfl) (λ_=>rfl) (uG Q WH F);have D4:=Zu.set (own:=v) (h:=H) (YN (qD L.lq y) (yM B b y)) (l:=L.le j) (by rw[(u.Jw j y O).2];simp);refine⟨P,_,Qo.frame (by simp only[go_sem,QQ]),Uv.of (by rw[Ja];exact C4) (Dk.trans D4) EY (by rw[Qp QC];exact J3)⟩
def QzK{S}{h}{p}{T}{A}(O:jc S h p T A)(a)(c:Ql)(j:Qw T a=some c)(i:¬ 1<QH c.ls):
  QM prog 214 h [.ptr p 0 0 0,Qa a] (λd k=>d=.tup [.nil,Qa 6]/\k=h):=by
 obtain⟨t,s,r,q,c2,o,u,v,z,m,O⟩:=O;have f:=O.o;have e:=O.m1;have b:=O.f1.at_ a;rw[wi,j]at b;simp only[Qc i]at b;refine Q7 func214 ntmps214 results214 λg w l n=>?_;have y:=Qb f;have x:=Qb e;simp only[go_sem,f,e,b,Go.undef]
def AU:Sh:=⟨false,⟨⟨0,0,0⟩,⟨0,0,0⟩,false⟩,0⟩
def Qjd:AU.Ok:=⟨⟨Ln.vk,Ln.vk⟩,π⟩
def Yt(M:Qn)(c:Int):Qn:={ M with N:=Wj M.N c λn=>{ n with sh:=AU } }
def WI(M:Qn)(j:Int):Qn:={ M with KT:=λi=>if i=(Qy M j).c.parent then Vn j (M.KT (Qy M j).c.parent) else M.KT i }
def JR(M:Qn)(j:Int):Qn:=
 if Vn j (M.KT (Qy M j).c.parent)=[] then (KE M.T (Qy M j).c.parent).foldl Yt (WI M j) else WI M j
def Xl(M:Qn)(a:Int):Qn:=
 if 1<QH (Qy M a).c.ls then (VH M.T (J6 M.A a) a).foldl JR { M with A:=J6 M.A a } else M
def QA.Yt{M}(I:QA M)(c):QA (Yt M c):=I.Wj c (λn=>{ n with sh:=AU }) λ_=>rfl
def iZ:∀(l:List Int) (M:Qn),(l.foldl Yt M).T=M.T/\(l.foldl Yt M).A=M.A/\(l.foldl Yt M).KT=M.KT/\(l.foldl Yt M).lk=M.lk/\(l.foldl Yt M).Qe=M.Qe/\(l.foldl Yt M).acc=M.acc/\(l.foldl Yt M).Lv=M.Lv
 | [],M=>⟨rfl,rfl,rfl,rfl,rfl,rfl,rfl⟩
 | j::l,M=>iZ l (Yt M j)
def QA.uN:∀(l:List Int) {M:Qn},QA M->QA (l.foldl X.Yt M)
 | [],M,I=>I
 | j::l,M,I=>QA.uN l (I.Yt j)
def QA.WI{M}(I:QA M)(j):QA (WI M j):=by
 refine⟨I.tree,I.AS,I.to,I.nodes,I.Xk,I.ks,I.AT,λi x hx=>?_,λi x hx=>?_,I.Qe,I.acc⟩;unfold X.WI at hx;dsimp only at hx;split at hx;rename_i a;subst a;exact I.vr _ x (Jt.1 hx).1;exact I.vr _ x hx;unfold X.WI at hx;dsimp only at hx;split at hx;exact I.wy _ x (Jt.1 hx).1;exact I.wy _ x hx
def QA.JR{M}(I:QA M)(j):QA (JR M j):=by
 unfold X.JR;split;exact QA.uN _ (I.WI j);exact I.WI j
def QA.UA:∀(l:List Int) {M:Qn},QA M->QA (l.foldl X.JR M)
 | [],M,I=>I
 | j::l,M,I=>QA.UA l (I.JR j)
def Qje(M:Qn)(j:Int):(JR M j).T=M.T/\(JR M j).A=M.A/\(JR M j).lk=M.lk/\(JR M j).Qe=M.Qe/\(JR M j).acc=M.acc/\(JR M j).Lv=M.Lv:=by
 unfold JR;split;obtain⟨f,e,g,d,c,b,a⟩:=iZ (KE M.T (Qy M j).c.parent) (WI M j);exact⟨f,e,d,c,b,a⟩;exact⟨rfl,rfl,rfl,rfl,rfl,rfl⟩
def HF:∀(l:List Int) (M:Qn),(l.foldl JR M).T=M.T/\(l.foldl JR M).A=M.A/\(l.foldl JR M).lk=M.lk/\(l.foldl JR M).Qe=M.Qe/\(l.foldl JR M).acc=M.acc/\(l.foldl JR M).Lv=M.Lv
 | [],M=>⟨rfl,rfl,rfl,rfl,rfl,rfl⟩
 | j::l,M=>by
  obtain⟨n,m,k,i,h,g⟩:=HF l (JR M j);obtain⟨f,e,d,c,b,a⟩:=Qje M j;exact⟨n.trans f,m.trans e,k.trans d,i.trans c,h.trans b,g.trans a⟩
def QA.Xl{M}(I:QA M)(a):QA (Xl M a):=by
 unfold X.Xl;split;exact QA.UA _ (I.act (I.Xk.off a));exact I
structure PL (own:Nat->Tag) (h:List Ob) (p:Nat) (L:Loc) (M:Qn) (lo g:Nat) (row:Nat->List D) (U:List Int) (k:Nat) (s:St):Prop where
 ex:∃own' H,ZB own' H p L ((U.take k).foldl JR M)/\Zu own h own' H/\own' lo=.on/\H[lo]?=some ⟨.arr,g,1,U.length,row⟩ /\
  s=⟨[(0,.ptr p 0 0 0),(22,.ref lo g 0 U.length),(23,Qa U.length),(24,Qa k)],H⟩
def PL.of{own}{h}{p}{L}{M}{c g}{b}{U:List Int}{k:Nat}{a}{H:List Ob}(C:ZB a H p L ((U.take k).foldl JR M))(D:Zu own h a H)(e:a c=.on)(d:H[c]?=some ⟨.arr,g,1,U.length,b⟩):
  PL own h p L M c g b U k ⟨[(0,.ptr p 0 0 0),(22,.ref c g 0 U.length),(23,Qa U.length),(24,Qa k)],H⟩:=⟨⟨a,H,C,D,e,d,rfl⟩⟩
structure UB (own:Nat->Tag) (h:List Ob) (p:Nat) (L:Loc) (M:Qn) (lo g:Nat) (row:Nat->List D) (U V:List Int) (k:Nat) (i:Nat) (s:St):Prop where
 ex:∃own' H,ZB own' H p L ((V.take i).foldl Yt M)/\Zu own h own' H/\own' lo=.on/\H[lo]?=some ⟨.arr,g,1,U.length,row⟩ /\
  s=⟨[(0,.ptr p 0 0 0),(22,.ref lo g 0 U.length),(23,Qa U.length),(24,Qa k),(59,ints V),(60,Qa V.length),(61,Qa i)],H⟩
def UB.of{own}{h}{p}{L}{M}{c g}{b}{U V:List Int}{k i:Nat}{a}{H:List Ob}(C:ZB a H p L ((V.take i).foldl Yt M))(D:Zu own h a H)(e:a c=.on)(d:H[c]?=some ⟨.arr,g,1,U.length,b⟩):
  UB own h p L M c g b U V k i ⟨[(0,.ptr p 0 0 0),(22,.ref c g 0 U.length),(23,Qa U.length),(24,Qa k),(59,ints V),(60,Qa V.length),(61,Qa i)],H⟩:=⟨⟨a,H,C,D,e,d,rfl⟩⟩
def QzL{o}{h}{p}{L}{M:Qn}(C:ZB o h p L M)(I:QA M){b}{n:Nd}(hn:Qi M.N b=some n)(hl:n.c.leaf=true)(VC:1<QH n.c.ls->b∈M.A)(ZP:Jm M.T (J6 M.A b) b=false):
  QM prog 156 h [.ptr p 0 0 0,Qa b] (λd h'=>∃f,ZB f h' p L (Xl M b)/\QA (Xl M b)/\Zu o h f h'):=by
 have ho:=C.ob;have Z9:Qy M b=n:=by unfold Qy;rw[hn];rfl
 have Wu:Qw M.T b=some n.c:=I.some hn;have hO:=C.qL;have a5:=I.tree.len;rw[I.to]at hO;by_cases N:1<QH n.c.ls;case neg=>
  have hM:Xl M b=M:=by unfold Xl;rw[Z9,Qc N]
  refine Q7 func156 ntmps156 results156 λa2 w pl m=>?_;have Qr:=Qb ho;simp only[go_sem,ho];refine ZL m Qfx (QzK hO b n.c Wu N) λd h9 O=>?_;obtain⟨rfl,rfl⟩:=O;apply Qg m;rw[hM];exact⟨o,C,I,Zu.refl o h9⟩
 have hM:Xl M b=(VH M.T (J6 M.A b) b).foldl JR { M with A:=J6 M.A b }:=by unfold Xl;rw[Z9,Qd N]
 have I9:QA { M with A:=J6 M.A b }:=I.act (I.Xk.off b);have uO:=QA.UA (VH M.T (J6 M.A b) b) I9;rw[hM];refine Q7 func156 ntmps156 results156 λa2 w pl m=>?_;have Qr:=Qb ho;simp only[go_sem,ho];refine ZL m Qfx (QvB hO I.tree I.Xk b n.c Wu hl N (VC N) ZP) λd h9 O=>?_;obtain⟨d1,rfl,BP,O9,s9⟩:=O;rw[<- I.to]at O9;have C9:=C.act O9 s9;have D9:=Zu.of (own:=o) (t:=.on) σ s9;obtain⟨U,hU⟩:∃U,U=VH M.T (J6 M.A b) b:=⟨_,rfl⟩;rw[<- hU]at BP uO ⊢;have iT:U.length<=16:=by
  rw[hU];exact JY (RK _).length_le yu
 have uK:∀j∈U,j∈up M.T b:=λj J=>by rw[hU]at J;exact(RK _).subset J
 obtain⟨v,Uw⟩:∃v,v={ M with A:=J6 M.A b }:=⟨_,rfl⟩;have iV:v.T=M.T:=by rw[Uw]
 rw[<- Uw]at C9 I9 uO ⊢;rcases BP with ⟨rfl,Ux⟩|⟨F,g,a6,s,rfl,⟨ZQ,rfl⟩,MC,ZW⟩;exfalso;rw[hU,VH,Vf I.tree Wu,RJ,ZP]at Ux;cases Ux;have a9:=Qb MC;rw[Jz]at MC;apply Qg m;refine ZN (PL o h p L v F g s U) U.length QO (PL.of (k:=0) C9 D9 (by unfold Q3;rw[Qd ZQ]) MC) ?_;rintro k _ hk ⟨f,H,q,Dk,EY,J3,rfl⟩;have uL:=Qb J3;by_cases u:k<U.length;case neg=>
  have ZJ:k=U.length:=ω;have dk:=QG u;rw[ZJ,Wn]at q;apply Qh m;simp only[go_sem,dk];exact⟨f,q,uO,Dk⟩
 have dk:=QS u;obtain⟨j,J⟩:∃j,j=U.getD k 0:=⟨_,rfl⟩;have FW:j∈up M.T b:=uK j (by rw[J];exact qE U 0 k u);have Uy:s k=[Qa j]:=by have:=ZW k u;rw[Jz]at this;rw[this,J]
 have Ja:(U.take (k+1)).foldl JR v=JR ((U.take k).foldl JR v) j:=by
  rw[getD_take U 0 k u,zQ,<- J];rfl
 have z:=QA.UA (U.take k) I9;have MD:=(HF (U.take k) v).1;obtain⟨a,FT⟩:∃a,a=(U.take k).foldl JR v:=⟨_,rfl⟩;rw[<- FT]at q z MD Ja;obtain⟨y,hy⟩:∃y,Qi a.N j=some y:=by
  have E:=Hj FW;rw[<- iV,<- MD,z.find]at E;cases hq:Qi a.N j with
  | none=>rw[hq]at E;cases E
  | some y=>exact⟨y,rfl⟩
 have Ud:Qy a j=y:=by unfold Qy;rw[hy];rfl
 have zH:=q.look hy;have Ys:=q.ob;have ME:=Qb Ys;have jh:=q.VY;have Uz:=Qb jh;have Cw:=(q.Jw j y hy).1;have iY:=Qb Cw;have Fe:=q.Wi;have b0:=Qb Fe;have j5:=uB z hy;have j6:=q.X4.at_ y.c.parent;rw[Qd j5]at j6;have j7:=q.kids _ j5;have QQ:=Jr (show k<4611686018427387904 from ω);have Ff:=Ut z.tree j7.nd (z.uz _);apply Qh m;simp only[go_sem,u,Uy,Ys,jh,J3,zH,Cw,Fe,j6];refine ZL m QtF (QvQ j7 j ω) λd q5 O=>?_;obtain⟨rfl,W,uP⟩:=O;have B:=q.X2 _ j5 W uP;have HE:=Dk.trans (Zu.of (t:=.X2 y.c.parent) σ uP);have Z1:{ a with KT:=λi=>if i=y.c.parent then Vn j (a.KT y.c.parent) else a.KT i }=WI a j:=by unfold WI;rw[Ud]
 rw[Z1]at B;have iX:=z.WI j;have iW:Q3 f H (.X2 y.c.parent) F=.on:=by rw[Kp uL];exact EY
 have a1:q5[F]?=some ⟨.arr,g,1,U.length,s⟩:=(uP.keep F uL (by rw[EY];simp)).trans J3;have Q:JR a j=if Vn j (a.KT y.c.parent)=[] then (KE a.T y.c.parent).foldl Yt (WI a j) else WI a j:=by unfold JR;rw[Ud]
 have PM:=B.ob;have a8:=Qb PM;have T:=B.Wi;have b1:=Qb T;have a0:=B.X4.at_ y.c.parent;rw[Qd (show (WI a j).ks y.c.parent=true from j5)]at a0;have HG:Fz q5 (L.lk y.c.parent) (Vn j (a.KT y.c.parent)):=W.toR;apply Qh m;simp only[go_sem,PM,T,a0];apply Zz m pK (su HG);apply Qg m;by_cases hz:Vn j (a.KT y.c.parent)=[];case neg=>
  have YX:0<(Vn j (a.KT y.c.parent)).length:=aT.2 hz;have dz:decide ((0:Int)<((Vn j (a.KT y.c.parent)).length:Int))=true:=QS ω;rw[Qc hz]at Q;simp only[go_sem,dz];exact⟨u,_,Qo.frame (by simp only[go_sem,QQ]),PL.of (by rw[Ja,Q];exact B) HE iW a1⟩
 rw[Qd hz]at Q;have dz:decide ((0:Int)<((Vn j (a.KT y.c.parent)).length:Int))=false:=QG (by rw[hz];simp);simp only[go_sem,dz,PM];apply Zz m pE (Qvw B.tr.toR (by have:=iX.tree.len;omega) y.c.parent);apply Qg m;obtain⟨V,hV⟩:∃V,V=KE a.T y.c.parent:=⟨_,rfl⟩;have a7:V.length<=64:=by
  rw[hV];unfold KE;rw[Kj];exact JY (XS _ _) z.tree.len
 have a4:∀c∈V,(Qw a.T c).isSome=true:=λc K=>by
  rw[hV]at K;obtain⟨x,hx,rfl⟩:=Ji.1 K;rw[(VF z.tree.rising).2 ⟨(Jt.1 hx).1,rfl⟩];rfl
 rw[show KE (WI a j).T y.c.parent=V from hV.symm];rw[<- hV]at Q;refine ZN (UB o h p L (WI a j) F g s U V k) V.length QO (UB.of (i:=0) B HE iW a1) ?_;rintro i _ hi ⟨AV,H5,r,D5,FX,Z,rfl⟩;by_cases P:i<V.length;case neg=>
  have Km:i=V.length:=ω;have di:=QG P;rw[Km,Wn]at r;apply Qh m;simp only[go_sem,di];apply Qg m;exact⟨u,_,Qo.frame (by simp only[go_sem,QQ]),PL.of (by rw[Ja,Q];exact r) D5 FX Z⟩
 have di:=QS P;have yP:=Jr (show i<4611686018427387904 from ω);obtain⟨c,K⟩:∃c,c=V.getD i 0:=⟨_,rfl⟩;have a3:c∈V:=by rw[K];exact qE V 0 i P
 have Y:(V.take (i+1)).foldl Yt (WI a j)=Yt ((V.take i).foldl Yt (WI a j)) c:=by
  rw[getD_take V 0 i P,zQ,<- K];rfl
 have I5:=QA.uN (V.take i) iX;have S:=(iZ (V.take i) (WI a j)).1;obtain⟨R,PN⟩:∃R,R=(V.take i).foldl Yt (WI a j):=⟨_,rfl⟩;rw[<- PN]at r I5 S Y;obtain⟨x,hx⟩:∃x,Qi R.N c=some x:=by
  have E:=a4 c a3;rw[show a.T=R.T from S.symm,I5.find]at E;cases hq:Qi R.N c with
  | none=>rw[hq]at E;cases E
  | some x=>exact⟨x,rfl⟩
 have vu:=r.qi c x hx;have ld:=r.look hx;have DN:=r.ob;have uQ:=Qb DN;have Co:=r.VY;have uR:=Qb Co;have MF:=(r.Jw c x hx).1;have uS:=Qb MF;have QC:L.le c≠F:=λe=>by have h1:=(r.Jw c x hx).2;rw[e,FX]at h1;cases h1
 apply Qh m;simp only[go_sem,Qj,P,<- K,DN,Co,ld,MF];have C6:=r.xy hx (λn=>{ n with sh:=AU }) (λ_=>rfl) (λ_=>rfl) ⟨vu.QT,vu.du,Qjd,vu.cp,vu.c⟩;have D6:=Zu.set (own:=AV) (h:=H5) (YN (qD L.lq x) { x with sh:=AU }) (l:=L.le c) (by rw[(r.Jw c x hx).2];simp);have Df:(⟨.one,0,60,1,λ_=>List.take 38 (K0 (qD L.lq x) x)++.raw (.bool false)::.raw (.int .u64 0)::.raw (.int .u64 0)::.raw (.int .u64 0)::.raw (.int .u64 0)::.raw (.int .u64 0)::.raw (.int .u64 0)::.raw (.int .u64 0)::.raw (.int .u64 0)::.raw (.bool false)::.raw (.int .u64 0)::List.drop 49 (K0 (qD L.lq x) x)⟩:Ob)=YN (qD L.lq x) { x with sh:=AU }:=by
  unfold YN;rw[<- QzA (qD L.lq x) x AU];rfl
 rw[Df];refine⟨_,Qo.frame (by simp only[go_sem,yP]),UB.of (by rw[Y];exact C6) (D5.trans D6) FX (by rw[Qp QC];exact Z)⟩
def firstM(M:Qn)(a:Nat)(b:Int):Option It:=(M.KT b).find? λx=>decide (x.va<=min a 9223372036854775807)
def xP(M:Qn)(a:Nat):Nat->Int->Option Int
 | 0,_=>none
 | n+1,id=>match firstM M a id with
  | none=>none
  | some x=>if (Qy M x.ki).c.leaf=true then some x.ki else xP M a n x.ki
def Qjm(o:Option Int):D:=.tup [Qa (o.getD 0),QU false,QU o.isSome]
def xQ(M:Qn)(a:Nat)(o:Option It):Prop:=yy o (M.Lv.filter λx=>decide (x.ka<=min a 9223372036854775807))
def PO(M:Qn)(a:Nat)(o:Option It):D:=match o with
 | some x=>.tup [Qa x.ki,QU true,QU true]
 | none=>Qjm (xP M a 17 0)
section
variable {own:Nat->Tag}{h:List Ob}{p:Nat}{L:Loc}{M:Qn}(C:ZB own h p L M)(I:QA M)
include C I
theorem QzP(a):Zf prog 151 h [.ptr p 0 0 0,u64 a] (λd=>∃o,xQ M a o/\d=PO M a o):=by
 have e:=Z4 C.ob;have l:=Z4 C.Wi;have r:=Z4 C.VY;have O:=C.X3.toR;refine ZH func151 ntmps151 results151 λB w V F i Y f=>?_;rw[<- i]at e l r;have Qr:=Qb e;have W:=Qb l;have OP:=Qb r;simp only[go_sem,e];refine p9 f QtA (QvR (O.more (Vz i)) a) λd Q=>?_;obtain⟨o,j,rfl⟩:=Q;apply Qg f;cases o with
 | some x=>
  simp only[go_sem,Ab,KW];exact⟨[],(JS F).symm,some x,j,rfl⟩
 | none=>
  simp only[go_sem,Es];have U:(up M.T 0).length=0:=by rw[Hi I.tree];rfl
  refine G2 (λn J=>∃id,M.ks id=true/\(up M.T id).length+n=16/\xP M a 17 0=xP M a (n+1) id/\J=⟨[(0,.ptr p 0 0 0),(1,u64 a),(9,Qa id)],F⟩) 16 QO ⟨0,(I.ks 0).2 (.inl rfl),ω,rfl,rfl⟩ ?_;rintro n _ ⟨id,u,z,b,rfl⟩;have t:=C.X4.at_ id;rw[Qd u]at t;have P:=(C.kids id u).toR
  conv at b=>rhs;rw[xP]
  apply Qh f;simp only[go_sem,e,l,t];apply Zz f QtB (QvN (P.more (Vz i)) a);apply Qg f;have s:(M.KT id).find? (λx=>decide (x.va<=min a 9223372036854775807))=firstM M a id:=rfl;rw[s];cases k:firstM M a id with
  | none=>
   rw[k]at b;simp only[go_sem,Es];exact⟨[],(JS F).symm,none,j,by unfold PO;rw[b];rfl⟩
  | some x=>
   rw[k]at b;have H:x∈M.KT id:=vI k;obtain⟨c,v,K⟩:=I.vr id x H;obtain⟨y,g,S⟩:=I.PD v;have R:Qy M x.ki=y:=by unfold Qy;rw[g];rfl
   have UD:(up M.T x.ki).length=(up M.T id).length+1:=by rw[Vf I.tree v,K];rfl
   have T:(up M.T x.ki).length<=16:=yu;have E:=C.look g;have q:=Z4 (C.Jw x.ki y g).1;rw[<- i]at q;have Z:=Qb q;dsimp only at b;rw[R]at b;simp only[go_sem,Ab,KW,e,r,E,q];cases m:y.c.leaf with
   | true=>
    rw[m,Qd rfl]at b;simp only[go_sem];exact⟨[],(JS F).symm,none,j,by unfold PO;rw[b];rfl⟩
   | false=>
    rw[m,Qc π]at b;obtain⟨n,rfl⟩:∃N,n=N+1:=⟨n-1,ω⟩;simp only[go_sem];exact⟨n,_,ω,QO,x.ki,(I.ks _).2 (.inr ⟨y,g,m⟩),ω,b,rfl⟩
end
def QzR{T}(I:JQ T){b a}{c:Ql}(f:Qw T b=some c)(l:c.leaf=true)(h:b∈up T a):a=b:=by
 refine wP λo=>?_;obtain⟨i,d,p,m,k⟩:=fZ I h o;have n:d.parent≠0:=λe=>by rw[<- k,e,LH I]at f;cases f
 obtain⟨e,j,g⟩:=I.J9 d (yw I m) n;rw[k,f]at j;cases j;rw[l]at g;cases g
def lg{T}(I:JQ T){b}{c:Ql}(d:Qw T b=some c)(e:c.leaf=true)(A):Jm T A b=true↔b∈A:=by
 rw[Yj];constructor;rintro⟨a,f,h⟩;rw[<- QzR I d e h];exact f;exact λh=>⟨b,h,XJ I d⟩
def QzS{T}(I:JQ T){a}{c:Ql}(d:Qw T a=some c)(b:c.leaf=true)(A):Jm T (J6 A a) a=false:=by
 rw[X9];intro h;have:=(lg I d b _).1 h;simp[J6]at this
def yQ(a:Nat)(n:Nd):Nd:={ n with QT:=V8 (n.QT+a),sh:=Hw n.sh (V8 (n.QT+a)),cp:=jV n.cp (V8 (n.QT+a)) }
def VP(a:Nat)(M:Qn)(j:Int):Qn:={ M with N:=Wj M.N j (yQ a) }
def Qjn{n:Nd}(h:n.Ok)(a):(yQ a n).Ok:=⟨Me _,h.du,Qw3 h.sh _,Qw7 h.cp _,h.c⟩
def QA.VP{M}(I:QA M)(a)(j):QA (VP a M j):=I.Wj j (yQ a) λ_=>rfl
def QA.lh{len}:∀(l:List Int) {M:Qn},QA M->QA (l.foldl (X.VP len) M)
 | [],M,I=>I
 | j::l,M,I=>QA.lh l (I.VP len j)
def MG(a):∀(l:List Int) (M:Qn),(l.foldl (VP a) M).T=M.T/\(l.foldl (VP a) M).A=M.A/\(l.foldl (VP a) M).KT=M.KT/\(l.foldl (VP a) M).lk=M.lk/\(l.foldl (VP a) M).Qe=M.Qe/\(l.foldl (VP a) M).acc=M.acc/\(l.foldl (VP a) M).Lv=M.Lv
 | [],M=>⟨rfl,rfl,rfl,rfl,rfl,rfl,rfl⟩
 | j::l,M=>MG a l (VP a M j)
def Qjo{N}{j}{f}(a:∀n,(f n).c=n.c)(i){n:Nd}(h:Qi N i=some n):∃m,Qi (Wj N j f) i=some m/\m.c=n.c/\(m=n\/(i=j/\m=f n)):=by
 rw[zI (λn=>by rw[a])];by_cases e:i=j;rw[Qd e,h];exact⟨f n,rfl,a n,.inr ⟨e,rfl⟩⟩;rw[Qc e];exact⟨n,h,rfl,.inl rfl⟩
def Qjp(a):∀(l:List Int) (M:Qn) (i:Int) {n:Nd},Qi M.N i=some n->∃m,Qi (l.foldl (VP a) M).N i=some m/\m.c=n.c/\m.q=n.q/\m.du=n.du
 | [],M,i,n,h=>⟨n,h,rfl,rfl,rfl⟩
 | j::l,M,i,n,h=>by
  obtain⟨m,p,o,b⟩:=Qjo (f:=yQ a) (j:=j) (λ_=>rfl) i h;obtain⟨c,k,g,e,d⟩:=Qjp a l (VP a M j) i p;refine⟨c,k,g.trans o,?_,?_⟩;rw[e];rcases b with rfl|⟨_,rfl⟩<;>rfl;rw[d];rcases b with rfl|⟨_,rfl⟩<;>rfl
def Xc(M:Qn)(a:Int):Qn:={ M with N:=Wj M.N a λn=>{ n with q:=Xb (Qy M a).q } }
def QA.Xc{M}(I:QA M)(a:Int):QA (Xc M a):=I.Wj a (λn=>{ n with q:=Xb (Qy M a).q }) λ_=>rfl
def QA.V9{M:Qn}(I:QA M){a}{n}(c:Qi M.N a=Option.some n)(b)(r):QA (V9 M a b r):=by
 unfold X.V9;split;refine(I.Wj a (λn=>{ n with du:=qM (Qy M a) b r }) λ_=>rfl).lv λx hx=>?_;have d:x.ki=a\/x∈M.Lv:=by
  split at hx;exact uF (Jt.1 hx).1;exact uF hx
 rcases d with h|h;rw[h];show (Qw M.T a).isSome=true;rw[I.some c];rfl;exact I.AT x h;exact I
def PQ(M:Qn)(a)(b)(r:Bool):(V9 M a b r).T=M.T/\(V9 M a b r).A=M.A/\(V9 M a b r).KT=M.KT/\(V9 M a b r).lk=M.lk/\(V9 M a b r).Qe=M.Qe/\(V9 M a b r).acc=M.acc:=by
 unfold V9;split<;>exact⟨rfl,rfl,rfl,rfl,rfl,rfl⟩
def QzT(M:Qn)(a)(b)(r:Bool)(i){n:Nd}(h:Qi M.N i=some n):∃m,Qi (V9 M a b r).N i=some m/\m.c=n.c/\m.q=n.q:=by
 unfold V9;split;obtain⟨m,e,d,c⟩:=Qjo (f:=λn=>{ n with du:=qM (Qy M a) b r }) (j:=a) (λ_=>rfl) i h;exact⟨m,e,d,by rcases c with rfl|⟨_,rfl⟩<;>rfl⟩;exact⟨n,h,rfl,rfl⟩
def Vj(M:Qn)(a:Nat)(o:Option It):Option (Int × Bool):=match o with
 | some x=>some (x.ki,true)
 | none=>(xP M a 17 0).map λid=>(id,false)
def Xy(M:Qn)(a:Int)(r:Bool):Qn:=
 let b:=((Qy M a).q.l.headD default).len;let c:=V9 ((up M.T a).foldl (VP b.toNat) (Xc M a)) a b r;let d:=if (Xb (Qy M a).q).l=[] then Xl c a else c
 Wl d (up M.T a)
@[go_sem] def qN(a:Int)(x:Pk)(r:Bool):List D:=[Qa a,.raw (.int .u64 x.iD),.raw (.int .i64 x.len),.raw (.int .u16 x.xq),.raw (.int .u16 x.xr),.raw (.int .u16 x.xu),.raw (.int .u16 x.xv),QU r]
@[go_sem] def vv:Ob:=⟨.one,0,8,1,λ_=>qN 0 default false⟩
@[go_sem] def qO(x:Pk):Ob:=⟨.one,0,6,1,λ_=>x.cells⟩
def xS(M:Qn)(a:Nat):(ZU M a).N=M.N/\(ZU M a).T=M.T/\(ZU M a).A=M.A:=by unfold ZU;split<;>exact⟨rfl,rfl,rfl⟩
def wB{M}(I:QA M)(a):QA (ZU M a):=by
 unfold ZU;split;rename_i h;unfold wz at h;simp only[qv,Gq,Iy]at h;exact⟨I.tree,I.AS,I.to,I.nodes,I.Xk,I.ks,I.AT,I.vr,I.wy,by show a<=_;omega,I.acc⟩;exact I
structure UE (own:Nat->Tag) (h:List Ob) (p:Nat) (L:Loc) (M:Qn) (id:Int) (r:Bool) (lb:Nat) (x:Pk) (U:List Int) (k:Nat) (s:St):Prop where
 ex:∃own' H,ZB own' H p L ((U.take k).foldl (VP x.len.toNat) M)/\Zu own h own' H/\own' h.length=.no/\H[h.length]?=some vv/\own' lb=.no/\H[lb]?=some (qO x) /\
  s=⟨[(0,.ptr p 0 0 0),(4,.ptr h.length 0 0 0),(6,Qa id),(7,QU r),(9,.ptr (L.le id) 0 0 0),(10,.ptr lb 0 0 0),(53,ints U),(54,Qa U.length),(55,Qa k)],H⟩
def UE.of{own}{h:List Ob}{p}{L}{M}{c}{r}{b}{x:Pk}{U:List Int}{k:Nat}{a}{H:List Ob}(C:ZB a H p L ((U.take k).foldl (VP x.len.toNat) M))(D:Zu own h a H)(g:a h.length=.no)(f:H[h.length]?=some vv)(e:a b=.no)(d:H[b]?=some (qO x)):
  UE own h p L M c r b x U k ⟨[(0,.ptr p 0 0 0),(4,.ptr h.length 0 0 0),(6,Qa c),(7,QU r),(9,.ptr (L.le c) 0 0 0),(10,.ptr b 0 0 0),(53,ints U),(54,Qa U.length),(55,Qa k)],H⟩:=⟨⟨a,H,C,D,g,f,e,d,rfl⟩⟩
def UF(M:Qn)(a:Nat)(d:D)(b:Qn):Prop:=
 (wz M a=false/\d=.tup [.agg (qN 0 default false),QU false]/\b=M) \/
 (wz M a=true/\∃o,xQ (ZU M a) a o/\match Vj (ZU M a) a o with
  | none=>d=.tup [.agg (qN 0 default false),QU false]/\b=ZU M a
  | some (id,r)=>d=.tup [.agg (qN id ((Qy M id).q.l.headD default) r),QU true]/\b=Xy (ZU M a) id r)
def QzU{g}{h}{p}{L}{M}(C:ZB g h p L M)(I:QA M)(a)
  (uV:∀o id r,xQ (ZU M a) a o->Vj (ZU M a) a o=some (id,r)->∃n,Qi M.N id=some n/\n.c.leaf=true/\n.q.l≠[]/\(1<QH n.c.ls->id∈M.A)) :
  QM prog 118 h [.ptr p 0 0 0,u64 a] (λd h'=>∃b O,ZB b h' p L O/\QA O/\Zu g h b h'/\UF M a d O):=by
 have ho:=C.ob;have C0:=C.PC [vv];have D0:=Zu.app g h [vv] .no;have vp:Q3 g h .no h.length=.no:=by unfold Q3;rw[Qd (QB _)]
 have Zr:(h++[vv])[h.length]?=some vv:=by rw[Vc rfl];rfl
 refine Q7 func118 ntmps118 results118 λe9 w pl c=>?_;have Qr:=Qb ho;simp only[go_sem];refine ZL c Qfj (Qi7 C0 a) λd T E=>?_;obtain⟨rfl,P,D1⟩:=E;have I1:=wB I a;obtain⟨t1,t2,t3⟩:=xS M a;have yR:=D0.trans D1;have KO:T[h.length]?=some vv:=(D1.keep h.length σ vp).trans Zr;have MH:=Qb KO;obtain⟨Jx,MI⟩:∃o,o=Q3 g h .no:=⟨_,rfl⟩;have zU:∀o,(T.set h.length o)[h.length]?=some o:=λo=>QF MH;rw[<- MI]at yR P vp;apply Qh c;cases ht:wz M a with
 | false=>
  simp only[go_sem,KO,zU];have hM:ZU M a=M:=by unfold ZU;rw[ht];rfl
  rw[hM]at P;exact⟨Jx,M,P.loc vp _,I,yR.DL (QB _) _,.inl ⟨ht,rfl,rfl⟩⟩
 | true=>
  simp only[go_sem];refine p9 c Qtd (QzP P I1 a) λd E=>?_;obtain⟨o,uW,rfl⟩:=E;apply Qh c;have uX:Vj (ZU M a) a o=none->∃b O,ZB b (T.set h.length vv) p L O/\QA O/\Zu g h b (T.set h.length vv)/\UF M a (.tup [.agg (qN 0 default false),QU false]) O:=λhp=>
   ⟨Jx,ZU M a,P.loc vp _,I1,yR.DL (QB _) _,.inr ⟨ht,o,uW,by rw[hp];exact⟨rfl,rfl⟩⟩⟩
  have yS:∀id r b H,Vj (ZU M a) a o=some (id,r)->ZB b H p L (Xy (ZU M a) id r)->QA (Xy (ZU M a) id r)->Zu g h b H->UF M a (.tup [.agg (qN id ((Qy M id).q.l.headD default) r),QU true]) (Xy (ZU M a) id r):=λid r b H hp _ _ _=>
   .inr ⟨ht,o,uW,by rw[hp];exact⟨rfl,rfl⟩⟩
  obtain⟨id,r,Zi,hp⟩|hp:(∃id r,PO (ZU M a) a o=.tup [Qa id,QU r,QU true]/\Vj (ZU M a) a o=some (id,r))\/(PO (ZU M a) a o=.tup [Qa 0,QU false,QU false]/\Vj (ZU M a) a o=none):=by
   cases o with
   | some x=>exact .inl ⟨x.ki,true,rfl,rfl⟩
   | none=>
    unfold PO Qjm Vj;dsimp only;cases xP (ZU M a) a 17 0 with
    | none=>exact .inr ⟨rfl,rfl⟩
    | some i=>exact .inl ⟨i,false,rfl,rfl⟩
  case inr=>
   obtain⟨hd,hp⟩:=hp;rw[hd];simp only[go_sem,KO,zU];exact uX hp
  rw[Zi];obtain⟨n,hn,hl,hq,VC⟩:=uV o id r uW hp;have KU:Qi (ZU M a).N id=some n:=by rw[t1];exact hn
  have Z9:Qy M id=n:=by unfold Qy;rw[hn];rfl
  have uY:Qy (ZU M a) id=n:=by unfold Qy;rw[KU];rfl
  obtain⟨x,q,PR⟩:∃x q,n.q.l=x::q:=by
   cases AP:n.q.l with
   | nil=>exact absurd AP hq
   | cons x q=>exact⟨x,q,rfl⟩
  have zH:=P.look KU;have ZZ:=P.ob;have MB:=Qb ZZ;have zW:=P.VY;have g2:=Qb zW;have Cu:=(P.Jw id n KU).1;have g3:=Qb Cu;obtain⟨kq,My,hQ⟩:=P.Xx id n KU hl;have PH:=QA.id hn;have FU:qD L.lq n=.ptr (L.lq id) 0 0 0:=by unfold qD;rw[Qd hl,PH]
  rw[FU]at Cu;simp only[go_sem,ZZ,zW,zH,Cu];refine ZL c Qte (QwV hQ PR) λd u E=>?_;obtain⟨rfl,Q2,s2⟩:=E;have C2:=P.qJ KU hl My Q2 s2;have uZ:{ ZU M a with N:=Wj (ZU M a).N id λm=>{ m with q:=Xb n.q } }=Xc (ZU M a) id:=by unfold Xc;rw[uY]
  rw[uZ]at C2;have D2:=yR.trans (Zu.of (t:=.qJ id) σ s2);have ZR:u[h.length]?=some vv:=(s2.keep h.length MH (by rw[vp];simp)).trans KO;have KR:Q3 Jx T (.qJ id) h.length=.no:=by rw[Kp MH];exact vp
  have Jq:=s2.len;have C3:=C2.PC [qO x];have D3:=D2.trans (Zu.app _ u [qO x] .no);have jh:(u++[qO x])[h.length]?=some vv:=(QE (Qb ZR)).trans ZR;have AI:Q3 (Q3 Jx T (.qJ id)) u .no h.length=.no:=by rw[Kp (Qb ZR)];exact KR
  have DC:(u++[qO x])[u.length]?=some (qO x):=by rw[Vc rfl];rfl
  have qk:Q3 (Q3 Jx T (.qJ id)) u .no u.length=.no:=by unfold Q3;rw[Qd (QB _)]
  have I3:=I1.Xc id;have Ys:=C3.ob;have ME:=Qb Ys;generalize u0:u++[qO x]=H3 at C3 D3 jh DC Ys ME;generalize Q3 (Q3 Jx T (.qJ id)) u .no=AW at C3 D3 AI qk;apply J5 c;have u6:u++[(⟨.one,0,6,1,λ_=>[.raw (.int .u64 x.iD),.raw (.int .i64 x.len),.raw (.int .u16 x.xq),.raw (.int .u16 x.xr),.raw (.int .u16 x.xu),.raw (.int .u16 x.xv)]⟩:Ob)]=H3:=u0;simp only[u6];simp only[go_sem,Ys];apply Zz c fk (rY C3.tr.toR I3.tree.toTreeInv id);apply Qg c;obtain⟨U,hU⟩:∃U,U=up M.T id:=⟨_,rfl⟩;have c4:ZF (Xc (ZU M a) id).T 16 id=U:=by rw[hU];show up (ZU M a).T id=_;rw[t2]
  rw[c4];have iT:U.length<=16:=by rw[hU];exact yu
  obtain⟨F,zJ⟩:∃F,F=Xc (ZU M a) id:=⟨_,rfl⟩;have b7:F.T=M.T:=by rw[zJ];exact t2
  have e2:F.A=M.A:=by rw[zJ];exact t3
  rw[<- zJ]at C3 I3;have WQ:Pg x:=by
   obtain⟨r2,Q⟩:=hQ;exact Q.lens x (by rw[PR];simp)
  have ex:IntKind.u64.wrap x.len=((x.len.toNat:Nat):Int):=Mf (by have:=WQ.1;omega) (by have:=WQ.2;omega);obtain⟨n3,e1,b6,e0⟩:∃m,Qi F.N id=some m/\m.c=n.c/\m.q=Xb n.q:=by
   rw[zJ];unfold Xc;rw[uY];refine⟨{ n with q:=Xb n.q },?_,rfl,rfl⟩;rw[zI (f:=λm=>{ m with q:=Xb n.q }) (λ_=>rfl),Qd rfl,KU];rfl
  refine ZN (UE g h p L F id r u.length x U) U.length QO (UE.of (k:=0) C3 D3 AI jh qk DC) ?_;rintro k _ hk ⟨AV,H5,B,D5,lj,Co,lu,PS,rfl⟩;have uR:=Qb Co;have b5:=Qb PS;have I5:=QA.lh (len:=x.len.toNat) (U.take k) I3;obtain⟨kT,kA,kK,g1,kc,ka,kL⟩:=MG x.len.toNat (U.take k) F;by_cases Qf:k<U.length;case pos=>
   have dk:=QS Qf;obtain⟨j,hj⟩:∃j,j=U.getD k 0:=⟨_,rfl⟩;have FW:j∈up M.T id:=by rw[hj,<- hU];exact qE U 0 k Qf
   have Ja:(U.take (k+1)).foldl (VP x.len.toNat) F=VP x.len.toNat ((U.take k).foldl (VP x.len.toNat) F) j:=by
    rw[getD_take U 0 k Qf,zQ,<- hj];rfl
   obtain⟨R,PN⟩:∃R,R=(U.take k).foldl (VP x.len.toNat) F:=⟨_,rfl⟩;rw[<- PN]at B I5 kT Ja;obtain⟨y,hy⟩:∃y,Qi R.N j=some y:=by
    have XT:=Hj FW;rw[<- b7,<- kT,I5.find]at XT;cases hq:Qi R.N j with
    | none=>rw[hq]at XT;cases XT
    | some y=>exact⟨y,rfl⟩
   have yO:=B.qi j y hy;have ld:=B.look hy;have DN:=B.ob;have uQ:=Qb DN;have UG:=B.VY;have u7:=Qb UG;have MF:=(B.Jw j y hy).1;have uS:=Qb MF;have FX:=(B.Jw j y hy).2;have QQ:=Jr (show k<4611686018427387904 from ω);have nb:L.le j≠h.length:=λe=>by rw[e,lj]at FX;cases FX
   have nx:L.le j≠u.length:=λe=>by rw[e,lu]at FX;cases FX
   have Y:∀s,(H5.set (L.le j) ⟨.one,0,60,1,λ_=>K0 (qD L.lq y) s⟩)[L.le j]?=some ⟨.one,0,60,1,λ_=>K0 (qD L.lq y) s⟩:=λs=>QF uS;have Hr:∀s,(H5.set (L.le j) s)[u.length]?=some (qO x):=λs=>(Qp nx).trans PS;apply Qh c;simp only[go_sem,Qf,<- hj,DN,UG,ld];apply Qv c o04;simp only[go_sem,Qj,MF,PS,ex,TR];have c7:=Qw5 y.sh yO.sh (V8 (y.QT+x.len.toNat)) (Me _);have DO:=tm y.cp yO.cp (V8 (y.QT+x.len.toNat)) (Me _);apply Qv c o01;simp only[go_sem,Y];apply ZD c Qtf c7;apply ZT c;simp only[go_sem,Qj,Y];apply Qv c o01;simp only[go_sem,Y];apply ZD c pD DO;apply ZT c;simp only[go_sem,Qj,Y];have Z:=B.xy hy (yQ x.len.toNat) (λ_=>rfl) (λ_=>rfl) (Qjn yO _);have D6:=Zu.set (own:=AV) (h:=H5) (YN (qD L.lq y) (yQ x.len.toNat y)) (l:=L.le j) (by rw[FX];simp);refine⟨Qf,_,Qo.frame (by simp only[go_sem,QQ]),UE.of (by rw[Ja];exact Z) (D5.trans D6) lj (by rw[Qp nb];exact Co) lu (by rw[Qp nx];exact PS)⟩
  have ZJ:k=U.length:=ω;have dk:=QG Qf;rw[ZJ,Wn]at B I5 kT kA;obtain⟨R,PN⟩:∃R,R=U.foldl (VP x.len.toNat) F:=⟨_,rfl⟩;obtain⟨n5,PT,b4,e7,_⟩:=Qjp x.len.toNat U F id e1;rw[<- PN]at B I5 kT kA PT;have a8:n5.c.leaf=true:=by rw[b4,b6];exact hl
  have ld:=B.look PT;have DN:=B.ob;have uQ:=Qb DN;have MF:=(B.Jw id n5 PT).1;have uS:=Qb MF;apply Qh c;simp only[go_sem,dk];apply Qh c;simp only[go_sem,PS];refine ZL c Qtg (QzF B I5 PT a8 x.len (by have:=WQ.1;omega) (by have:=WQ.2;omega) r) λd H6 E=>?_;obtain⟨b3,Z,D6⟩:=E;have I6:=I5.V9 PT x.len r;obtain⟨a3,a4,_⟩:=PQ R id x.len r;obtain⟨S,UH,b2,e6⟩:=QzT R id x.len r id PT;obtain⟨V,b1⟩:∃V,V=V9 R id x.len r:=⟨_,rfl⟩;rw[<- b1]at Z I6 a3 a4 UH;have FC:H6[h.length]?=some vv:=(D6.keep _ uR lj).trans Co;have lz:b3 h.length=.no:=(D6.same _ uR).trans lj;have Hr:H6[u.length]?=some (qO x):=(D6.keep _ b5 lu).trans PS;have u9:b3 u.length=.no:=(D6.same _ b5).trans lu;have lD:=Qb FC;have gB:=Qb Hr;have b9:=D5.trans D6;have Mg:S.c.leaf=true:=by rw[b2];exact a8
  have c3:S.q=Xb n.q:=by rw[e6,e7,e0]
  have a9:S.c=n.c:=by rw[b2,b4,b6]
  have Hv:=Z.ob;have Ce:=Qb Hv;have Y:=(Z.Jw id S UH).1;have g5:=Qb Y;have e5:qD L.lq S=.ptr (L.lq id) 0 0 0:=by unfold qD;rw[Qd Mg,a9,PH]
  rw[e5]at Y;obtain⟨g0,g4,c8⟩:=Z.Xx id S UH Mg;have c1:S.q.l.length=q.length:=by rw[c3];unfold Xb;rw[PR];rfl
  have Wu:Qw V.T id=some S.c:=I6.some UH;have wZ:Xy (ZU M a) id r=Wl (if (Xb n.q).l=[] then Xl V id else V) (up (ZU M a).T id):=by
   unfold Xy;simp only[uY,PR,List.headD_cons];rw[show up (ZU M a).T id=U by rw[t2];exact hU.symm,<- zJ,<- PN,<- b1]
  have a0:V.T=M.T:=by rw[a3,kT,b7]
  have c9:V.A=M.A:=by rw[a4,kA,e2]
  apply Qh c;simp only[go_sem,Y];apply Zz c OD (Pm c8.toR);apply Qh c;simp only[go_sem,c1];have gv:∀K v,ZB K v p L (Xy (ZU M a) id r)->QA (Xy (ZU M a) id r)->Zu g h K v->v[h.length]?=some vv->K h.length=.no ->
    ∃b O,ZB b (v.set h.length ⟨.one,0,8,1,λ_=>qN id x r⟩) p L O/\QA O/\Zu g h b (v.set h.length ⟨.one,0,8,1,λ_=>qN id x r⟩)/\UF M a (.tup [.agg (qN id x r),QU true]) O:=λK v C8 I8 J W UI=>
   ⟨K,_,C8.loc UI _,I8,J.DL (QB _) _,by
    have:=yS id r K v hp C8 I8 J;rwa [Z9,PR,List.headD_cons]at this⟩
  have c0:(Xb n.q).l=q:=by unfold Xb;rw[PR];rfl
  rw[c0]at wZ;cases a6:q with
  | cons z q2=>
   have dz:(((q2.length+1:Nat):Int)==0)=false:=Vw ω;rw[a6,Qc σ]at wZ;have QZ:=uC Z I6 id;rw[a0,<- t2,<- wZ]at QZ;simp only[go_sem,dz];refine ZL c pC QZ λd v E=>?_;obtain⟨K,C8,I8,J⟩:=E;have W:v[h.length]?=some vv:=(J.keep _ lD lz).trans FC;have UJ:v[u.length]?=some (qO x):=(J.keep _ gB u9).trans Hr;have UI:K h.length=.no:=(J.same _ lD).trans lz;have a2:=Qb W;have e4:=Qb UJ;have a1:∀o,(v.set h.length o)[h.length]?=some o:=λo=>QF a2;apply Qh c;simp only[go_sem,W,UJ,a1];exact gv K v C8 I8 (b9.trans J) W UI
  | nil=>
   rw[a6,Qd rfl]at wZ;simp only[go_sem];refine ZL c Qth (QzL Z I6 UH Mg (by rw[a9,c9];exact VC) (QzS I6.tree Wu Mg _)) λd H7 E=>?_;obtain⟨ji,C7,I7,D7⟩:=E;have b0:H7[h.length]?=some vv:=(D7.keep _ lD lz).trans FC;have a5:H7[u.length]?=some (qO x):=(D7.keep _ gB u9).trans Hr;have a7:ji h.length=.no:=(D7.same _ lD).trans lz;have e3:ji u.length=.no:=(D7.same _ gB).trans u9;have b8:=Qb b0;have e8:=Qb a5;have QZ:=uC C7 I7 id;have c5:(Xl V id).T=M.T:=by
    unfold Xl;split;rw[(HF _ _).1];exact a0;exact a0
   rw[c5,<- t2,<- wZ]at QZ;apply Qg c;refine ZL c pC QZ λd v E=>?_;obtain⟨K,C8,I8,J⟩:=E;have W:v[h.length]?=some vv:=(J.keep _ b8 a7).trans b0;have UJ:v[u.length]?=some (qO x):=(J.keep _ e8 e3).trans a5;have UI:K h.length=.no:=(J.same _ b8).trans a7;have a2:=Qb W;have e4:=Qb UJ;have a1:∀o,(v.set h.length o)[h.length]?=some o:=λo=>QF a2;apply Qh c;simp only[go_sem,W,UJ,a1];exact gv K v C8 I8 ((b9.trans D7).trans J) W UI
structure WZ (c:Cf):Prop where
 t1:1<=c.t
 t2:c.t<=65536
 l1:1<=c.Jb
 l2:c.Jb<=16384
def Vr(M:Qn)(a:Int)(x:Pk):Qn:={ M with N:=Wj M.N a λm=>{ m with q:=Xw (Qy M a).c.ZK (Qy M a).c.bytes (Qy M a).q x } }
def j8(M:Qn)(a:Nat):Qn:={ M with acc:=a }
def VQ(M:Qn)(a:Int)(x:Pk):Int:=
 match Qi M.N a with
 | none=>23
 | some n=>if n.c.leaf=false then 29 else if x.len<1\/M.lk.Jb<x.len then 26 else if 1099511627776<M.acc+x.len.toNat then 28
  else if vm n.c.ZK n.c.bytes n.q x=true then 30 else 0
def VR(M:Qn)(b:Nat)(a:Int)(x:Pk):Qn:=
 if VQ M a x=30 then Vr M a x
 else if VQ M a x=0 then (if (Qy M a).q.l=[] then YO (j8 (Vr M a x) (M.acc+x.len.toNat)) b a x.len else j8 (Vr M a x) (M.acc+x.len.toNat))
 else M
def QA.Vr{M}(I:QA M)(a:Int)(x):QA (Vr M a x):=I.Wj a (λm=>{ m with q:=Xw (Qy M a).c.ZK (Qy M a).c.bytes (Qy M a).q x }) λ_=>rfl
def QA.j8{M}(I:QA M){a}(h:a<=1099511627776):QA (j8 M a):=⟨I.tree,I.AS,I.to,I.nodes,I.Xk,I.ks,I.AT,I.vr,I.wy,I.Qe,h⟩
def QjI(M:Qn)(a:Nat):(ZU M a).lk=M.lk/\(ZU M a).acc=M.acc:=by unfold ZU;split<;>exact⟨rfl,rfl⟩
def vw(M:Qn)(a:Nat)(b:Int)(x:Pk):Int:=if wz M a=true then VQ (ZU M a) b x else 27
def JD(M:Qn)(a:Nat)(b:Int)(x:Pk):Qn:=if wz M a=true then VR (ZU M a) a b x else M
def QAc{v}{h}{p}{L}{M:Qn}(C:ZB v h p L M)(I:QA M)(K:WZ M.lk)(i)(WH:i<18446744073709551616)(c)(x)
  (hA:∀n,Qi M.N c=some n->n.c.leaf=true->n.q.l=[]->c ∉ M.A) :
  QM prog 78 h [.ptr p 0 0 0,u64 i,Qa c,.agg x.cells] (λd h'=>∃j z,ZB j h' p L z/\QA z/\Zu v h j h' /\
   d=Qa (vw M i c x)/\z=JD M i c x):=by
 have ho:=C.ob;have C0:=C.PC [qO x];have D0:=Zu.app v h [qO x] .no;have vp:Q3 v h .no h.length=.no:=by unfold Q3;rw[Qd (QB _)]
 have Zr:(h++[qO x])[h.length]?=some (qO x):=by rw[Vc rfl];rfl
 refine Q7 func78 ntmps78 results78 λa9 w pl k=>?_;have Qr:=Qb ho;simp only[go_sem];refine ZL k Qfj (Qi7 C0 i) λd F hR=>?_;obtain⟨rfl,s,D1⟩:=hR;have O:=wB I i;obtain⟨t1,t2,t3⟩:=xS M i;obtain⟨t4,t5⟩:=QjI M i;have S:=D0.trans D1;have J:F[h.length]?=some (qO x):=(D1.keep h.length σ vp).trans Zr;have MH:=Qb J;obtain⟨U,MI⟩:∃o,o=Q3 v h .no:=⟨_,rfl⟩;rw[<- MI]at S s vp;have R:=s.ob;have MB:=Qb R;have zW:=s.VY;have b2:=Qb zW;apply Qh k;cases ht:wz M i with
 | false=>
  have hM:ZU M i=M:=by unfold ZU;rw[ht];rfl
  rw[hM]at s;simp only[go_sem];exact⟨U,M,s,I,S,by rw[show vw M i c x=27 from Qc (by rw[ht];exact CL)],(Qc (by rw[ht];exact CL)).symm⟩
 | true=>
  have P:∀j H z,ZB j H p L z->QA z->Zu v h j H->z=VR (ZU M i) i c x->∀e,VQ (ZU M i) c x=e->∃j z,ZB j H p L z/\QA z/\Zu v h j H/\Qa e=Qa (vw M i c x)/\z=JD M i c x:=
   λj H z F Q h3 h4 e he=>⟨j,z,F,Q,h3,by rw[<- he];unfold vw;rw[Qd ht],by unfold JD;rw[Qd ht];exact h4⟩
  obtain⟨g,a3⟩:∃g,g=ZU M i:=⟨_,rfl⟩;rw[<- a3]at s O t1 t2 t3 t4 t5 P R;cases u:Qi g.N c with
  | none=>
   have hk:=s.qK.at_ c;rw[u,qw]at hk;have r:VQ g c x=23:=by unfold VQ;rw[u]
   have E:VR g i c x=g:=by unfold VR;rw[r];rfl
   simp only[go_sem,R,zW,hk];exact P U F g s O S E.symm 23 r
  | some n=>
   have hk:=s.look u;have Cu:=(s.Jw c n u).1;have b3:=Qb Cu;have PH:=QA.id u;simp only[go_sem,R,zW,hk,Cu];cases B:n.c.leaf with
   | false=>
    have r:VQ g c x=29:=by unfold VQ;rw[u];simp[B]
    have E:VR g i c x=g:=by unfold VR;rw[r];rfl
    simp only[go_sem];exact P U F g s O S E.symm 29 r
   | true=>
    have UK:=J;have zU:∀o,(F.set h.length o)[h.length]?=some o:=λo=>QF MH;obtain⟨T,My,hQ⟩:=s.Xx c n u B;have FU:qD L.lq n=.ptr (L.lq c) 0 0 0:=by unfold qD;rw[Qd B,PH]
    rw[FU]at Cu;have Z9:Qy g c=n:=by unfold Qy;rw[u];rfl
    have K1:WZ g.lk:=by rw[t4];exact K
    have Jp:=K1.l1;have Jq:=K1.l2;have b5:=O.acc;have fE:(x.len<1\/g.lk.Jb<x.len)->VQ g c x=26:=λh=>by unfold VQ;rw[u];simp only[B];rw[Qc σ,Qd h]
    have fP:(x.len<1\/g.lk.Jb<x.len)->VR g i c x=g:=λh=>by unfold VR;rw[fE h];rfl
    cases d1:decide (x.len<1) with
    | true=>
     have:=qZ d1;simp only[go_sem];apply Qv k o06;simp only[go_sem,J,d1];exact P U F g s O S (fP (.inl this)).symm 26 (fE (.inl this))
    | false=>
     have x1:1<=x.len:=by have:=CO d1;omega
     cases d2:decide (g.lk.Jb<x.len) with
     | true=>
      have:=qZ d2;simp only[go_sem];apply Qv k o06;simp only[go_sem,J,R,d1,d2];exact P U F g s O S (fP (.inr this)).symm 26 (fE (.inr this))
     | false=>
      have x2:x.len<=g.lk.Jb:=by have:=CO d2;omega
      have hx:Pg x:=⟨x1,ω⟩;have rh:(x.len.toNat:Int)=x.len:=Ei ω;obtain⟨a,Y⟩:∃a,a=x.len.toNat:=⟨_,rfl⟩;rw[<- Y]at rh;have ex:IntKind.u64.wrap x.len=(a:Int):=by rw[Y];exact Mf ω ω
      have ew:IntKind.u64.wrap ((g.acc:Int)+(a:Int))=((g.acc+a:Nat):Int):=by rw[Mf ω ω];omega
      have ge:¬ (x.len<1\/g.lk.Jb<x.len):=ω;cases d3:decide ((1099511627776:Int)<((g.acc+a:Nat):Int)) with
      | true=>
       have a4:=qZ d3;have r:VQ g c x=28:=by unfold VQ;rw[u];simp only[B];rw[Qc σ,Qc ge,Qd (by rw[<- Y];omega)]
       have E:VR g i c x=g:=by unfold VR;rw[r];rfl
       simp only[go_sem];apply Qv k o06;simp only[go_sem,J,R,d1,d2];apply Qv k Eq;simp only[go_sem,J,R,ex,ew,d3];exact P U F g s O S E.symm 28 r
      | false=>
       have a4:=CO d3;simp only[go_sem];apply Qv k o06;simp only[go_sem,J,R,d1,d2];apply Qv k Eq;simp only[go_sem,J,R,ex,ew,d3];apply Vx [5] k [0,1,2,3,4,1005,6] [];simp only[go_sem,J,Cu];refine kS k QsO (QwU hQ x hx) λd Q hR=>?_;obtain⟨rfl,Q2,s2⟩:=hR;have KR:Q3 U F (.qJ c) h.length=.no:=by rw[Kp MH];exact vp
       have ZR:Q[h.length]?=some (qO x):=(s2.keep h.length MH (by rw[vp];simp)).trans J;have DP:=Qb ZR;have V:=s.qJ u B My Q2 s2;have D2:=S.trans (Zu.of (t:=.qJ c) σ s2);have uZ:{ g with N:=Wj g.N c λm=>{ m with q:=Xw T n.c.bytes n.q x } }=Vr g c x:=by unfold Vr;rw[Z9,My]
       rw[uZ]at V;have I2:=O.Vr c x;have kX:∀b,vm T n.c.bytes n.q x=b->VQ g c x=if b=true then 30 else 0:=λb k=>by
        unfold VQ;rw[u];simp only[B];rw[Qc σ,Qc ge,Qc (by rw[<- Y];omega),My,k]
       generalize Q3 U F (.qJ c)=Ka at V D2 KR;apply ZT k;cases W:vm T n.c.bytes n.q x with
       | true=>
        have r:VQ g c x=30:=kX _ W;have E:VR g i c x=Vr g c x:=by unfold VR;rw[r];rfl
        simp only[go_sem];exact P Ka Q _ V I2 D2 E.symm 30 r
       | false=>
        have r:VQ g c x=0:=kX _ W;have VN:=V.ob;have FV:=Qb VN;have a8:(Vr g c x).acc=g.acc:=rfl;have a7:(Vr g c x).lk=g.lk:=rfl;have a6:(Vr g c x).Qe=g.Qe:=rfl;have Z:ZB Ka (Q.set p (j4 g.lk L.t L.b L.o L.v L.m g.Qe (g.acc+a))) p L (j8 (Vr g c x) (g.acc+a)):=V.Qe g.Qe (g.acc+a);have I3:QA (j8 (Vr g c x) (g.acc+a)):=I2.j8 ω;have D3:=D2.trans (Zu.set (own:=Ka) (h:=Q) (l:=p) (j4 g.lk L.t L.b L.o L.v L.m g.Qe (g.acc+a)) (by rw[V.op];decide));have a1:p≠h.length:=λe=>by have:=V.op;rw[e,KR]at this;cases this
        have jh:(Q.set p (j4 g.lk L.t L.b L.o L.v L.m g.Qe (g.acc+a)))[h.length]?=some (qO x):=(Qp a1).trans ZR;have Uz:=Qb jh;generalize u0:Q.set p (j4 g.lk L.t L.b L.o L.v L.m g.Qe (g.acc+a))=H3 at Z D3 jh Uz;have u6:Q.set p ⟨.one,0,9,1,λ_=>[.raw (.int .i64 g.lk.t),.raw (.int .i64 g.lk.Jb),.ptr L.t 0 0 0,.mref L.b 0,.ptr L.o 0 0 0,.ptr L.v 0 0 0,.mref L.m 0,.raw (.int .u64 (g.Qe:Nat)),.raw (.int .u64 ((g.acc+a:Nat):Int))]⟩=H3:=u0;have AI:Qi (j8 (Vr g c x) (g.acc+a)).N c=some { n with q:=Xw T n.c.bytes n.q x }:=by
         show Qi (Vr g c x).N c=_;unfold Vr;dsimp only;rw[Z9,My,zI (f:=λm:Nd=>{ m with q:=Xw T n.c.bytes n.q x }) (λ_=>rfl) c,Qd rfl,u,KM]
        have Cw:=(Z.Jw c _ AI).1;have a5:qD L.lq { n with q:=Xw T n.c.bytes n.q x }=.ptr (L.lq c) 0 0 0:=by unfold qD;rw[Qd B,PH]
        rw[a5]at Cw;have iY:=Qb Cw;obtain⟨b0,b4,a2⟩:=Z.Xx c _ AI B;simp only[go_sem];apply Qv k o04;simp only[go_sem,ZR,VN,ex,ew,a8,a7,a6,u6,Cw];have Ze:(Xw T n.c.bytes n.q x).l.length=n.q.l.length+1:=by unfold Xw;rw[Qc (by rw[W];exact CL)];simp
        have b1:({ n with q:=Xw T n.c.bytes n.q x }:Nd).q.l.length=n.q.l.length+1:=Ze;have Ys:=Z.ob;have ME:=Qb Ys;apply Zz k OD (Pm a2.toR);apply Qh k;simp only[go_sem,Ze];cases hq:n.q.l with
        | cons y q=>
         have dz:(((q.length+1+1:Nat):Int)==1)=false:=Vw ω;have E:VR g i c x=j8 (Vr g c x) (g.acc+a):=by unfold VR;rw[r,Z9,hq,<- Y];rfl
         simp only[go_sem,Kw,dz];exact P Ka H3 _ Z I3 D3 E.symm 0 r
        | nil=>
         have dz:(((0+1:Nat):Int)==1)=true:=rfl;have ZP:Kq (j8 (Vr g c x) (g.acc+a)) c=false:=by
          rw[X9];intro h9;have h8:=(lg O.tree (O.some u) B g.A).1 h9;rw[t3]at h8;exact hA n (by rw[<- t1];exact u) B hq h8
         have E:VR g i c x=YO (j8 (Vr g c x) (g.acc+a)) i c x.len:=by unfold VR;rw[r,Z9,hq,<- Y];rfl
         simp only[go_sem,RG];simp only[go_sem,jh];refine ZL k QsP (QzI Z I3 AI B i WH x.len ω ZP) λd h4 hR=>?_;obtain⟨a0,C4,I4,D4⟩:=hR;apply Qg k;exact P a0 h4 _ C4 I4 (D3.trans D4) E.symm 0 r
@[go_sem] def lF(c:Cf):Ob:=⟨.one,0,2,1,λ_=>c.cells⟩
def M0(c:Cf):Qn:=⟨c,[],[],[],[],[],λid=>decide (id=0),λ_=>[],0,0⟩
def lG(a:Nat->Tag)(b:Nat)(l:Nat):Tag:=
 if l<b then a l else if l<b+2 then .tree else if l<b+5 then .lv else if l<b+8 then .X2 0 else if l=b+8 then .mk else if l=b+9 then .ux else if l=b+10 then .sc else .on
def QAl(h:List Ob):W8 prog 61 h [] (λd g=>d=.ptr (h.length+1) 0 0 0/\g=[QR .i64 0 [],⟨.one,0,1,1,λ_=>[.mref h.length 0]⟩]):=
 QM.mono (QwC (h.map Ob.ro)) λd c ⟨b,a⟩=>⟨_,a,by rw[b,Kj],by rw[Kj]⟩
def yT(b:Nat):List Ob:=[xF .nil,QR .i64 0 [],Fx b (b+1)]
def QAm(h:List Ob):W8 prog 62 h [] (λd g=>d=.ptr (h.length+2) 0 0 0/\g=yT h.length):=by
 have:QM prog 62 (h.map Ob.ro) [] (λd b=>d=.ptr ((h.map Ob.ro).length+2) 0 0 0/\b=h.map Ob.ro++yT (h.map Ob.ro).length):=by
  generalize h.map Ob.ro=h;refine Q7 func62 ntmps62 results62 λc w j a=>?_;simp only[go_sem];refine ZL a Qfg (Qg6 h) λd h e=>?_;obtain⟨rfl,rfl⟩:=e;apply J5 a;rfl
 exact QM.mono this λd b ⟨i,f⟩=>⟨_,f,by rw[i,Kj],by rw[Kj]⟩
def QjJ(h:List Ob):W8 prog 63 h [] (λd g=>d=.ptr (h.length+2) 0 0 0/\g=yT h.length):=by
 have:QM prog 63 (h.map Ob.ro) [] (λd b=>d=.ptr ((h.map Ob.ro).length+2) 0 0 0/\b=h.map Ob.ro++yT (h.map Ob.ro).length):=by
  generalize h.map Ob.ro=h;refine Q7 func63 ntmps63 results63 λc w j a=>?_;simp only[go_sem];refine ZL a Qfg (Qg6 h) λd h e=>?_;obtain⟨rfl,rfl⟩:=e;apply J5 a;rfl
 exact QM.mono this λd b ⟨i,f⟩=>⟨_,f,by rw[i,Kj],by rw[Kj]⟩
def Qae{H:List Ob}{S}{b}(g:H[b]?=some (xF .nil))(f:H[b+1]?=some (QR .i64 0 []))(e:H[b+2]?=some (Fx b (b+1)))(d:S b)(c:S (b+1))(a:S (b+2)):WW S H (b+2) []:=
 ⟨b,b+1,.nil,0,[],e,⟨g,trivial,rfl,by simp[Tr.QP],by simp[Tr.QP],by simp[Vm]⟩,f,Yl.nil,σ,ω,ω,ω,by simp[Tr.QP],by simp[Tr.QP],a,d,c,by simp[Tr.QP]⟩
def QjK:JQ []:=⟨TreeInv.nil,σ,σ,σ,σ⟩
def QjL(c):QA (M0 c):=
 ⟨QjK,λc b=>by simp[M0]at b,rfl,rfl,λa d=>by simp[M0]at d,λid=>by simp[M0,Qi],λx hx=>by simp[M0]at hx,λid x hx=>by simp[M0]at hx,λid x hx=>by simp[M0]at hx,by simp[M0],by simp[M0]⟩
def QAn{own}{h}(c):
  QM prog 39 h [.agg c.cells] (λd y=>(WZ c/\∃q L p,d=.tup [.ptr p 0 0 0,Qa 0]/\ZB q y p L (M0 c)/\QA (M0 c)/\Zu own h q y)\/(¬ WZ c/\d=.tup [.raw (.pointer none),Qa 1]/\∃g,y=h++g)):=by
 have Zr:∀g,(h++lF c::g)[h.length]?=some (lF c):=λg=>Vc rfl;by_cases K:WZ c;have d1:decide (c.t<1)=false:=QG (by have:=K.t1;omega);have d2:decide (65536<c.t)=false:=QG (by have:=K.t2;omega);have d3:decide (c.Jb<1)=false:=QG (by have:=K.l1;omega);have d4:decide (16384<c.Jb)=false:=QG (by have:=K.l2;omega);refine Q7 func39 ntmps39 results39 λf w x b=>?_;simp only[go_sem,Qj,Qj,d1,d2,d3,d4];apply Qv b [0,1001,1003,1005,1004,1006,7,1002,8,1009,10];simp only[go_sem,Qj];refine SM b Qsp rfl ?_ (QAl _) rfl λd h m=>?_;simp only[go_sem];obtain⟨rfl,rfl⟩:=m;apply LC b;refine SM b Qsq rfl ?_ (QAm _) rfl λd h m=>?_;simp only[go_sem];obtain⟨rfl,rfl⟩:=m;apply ZT b;simp only[go_sem,Qj,yT];refine SM b Qe9 rfl ?_ (QjJ _) rfl λd h m=>?_;simp only[go_sem];obtain⟨rfl,rfl⟩:=m;apply ZT b;simp only[go_sem,Qj,yT];refine Qxo BS b rfl rfl rfl rfl (VD (k:=9) rfl) ?_;apply LC b;obtain⟨cm,em,Un,Y6⟩:=K9.nil.set .i64 0 0 (.ptr (h.length+6+2) 0 0 0);obtain⟨G,a⟩:∃G:List Ob,G=[lF c,QR .i64 0 [],⟨.one,0,1,1,λ_=>[.mref (h.length+1) 0]⟩,xF .nil,QR .i64 0 [],Fx (h.length+3) (h.length+3+1),xF .nil,QR .i64 0 [],Fx (h.length+6) (h.length+6+1),J1 .i64 0 [] 0 (.ptr (h.length+6+2) 0 0 0),QR .i64 0 [],⟨.one,0,9,1,λ_=>[Qa c.t,Qa c.Jb,.ptr (h.length+1+1) 0 0 0,.mref (h.length+10) 0,.raw (.pointer none),.ptr (h.length+3+2) 0 0 0,.mref (h.length+9) 0,u64 0,u64 0]⟩]:=⟨_,rfl⟩;have PB:G.length=12:=by rw[a];rfl
 have z:∀k o,G[k]?=some o->(h++G)[h.length+k]?=some o:=λk o e=>by rw[Kc ω,bg];exact e
 have Z:=z 2 _ (by rw[a];rfl);have hm:=z 1 _ (by rw[a];rfl);have T:=z 11 _ (by rw[a];rfl);have HJ:=Qb T;have R:Xu (h++G) (h.length+2) []:=WD.toR (S:=λ_=>True) ⟨h.length+1,0,[],Z,hm,Vy.nil,trivial,trivial⟩;have U:=QgZ R QjK;rw[a]at U;refine zy b Qfa rfl ?_ U rfl λd y m=>?_;simp only[go_sem];rw[<- a]at m;obtain⟨rfl,hO,g,rfl⟩:=m;apply Qh b;have Y:((h++G)++g)[h.length+11]? = _:=(QE HJ).trans T;have DQ:=Qb Y;have a0:(h++G).length=h.length+12:=by rw[Zk,PB]
 simp only[go_sem,Y];obtain⟨I,V⟩:∃o,o=Q3 own h .no:=⟨_,rfl⟩;obtain⟨t,s⟩:∃o,o=lG I (h.length+1):=⟨_,rfl⟩;have i:∀k,k<12->t (h.length+k)=if k<1 then .no else if k<3 then .tree else if k<6 then .lv else if k<9 then .X2 0 else if k=9 then .mk else if k=10 then .ux else .sc:=λk v=>by
  rw[s];unfold lG;by_cases Q:k<1;rw[Qd ω,Qd Q,V];unfold Q3;rw[Qd ω];rw[Qc ω,Qc Q];by_cases P:k<3;rw[Qd ω,Qd P];rw[Qc ω,Qc P];by_cases O:k<6;rw[Qd ω,Qd O];rw[Qc ω,Qc O];by_cases N:k<9;rw[Qd ω,Qd N];rw[Qc ω,Qc N];by_cases M:k=9;rw[Qd ω,Qd M];rw[Qc ω,Qc M];by_cases J:k=10;rw[Qd ω,Qd J];rw[Qc ω,Qc J,Qd ω]
 have C:∀l,h.length+12<=l->t l=.on:=λl u=>by
  rw[s];unfold lG;rw[Qc ω,Qc ω,Qc ω,Qc ω,Qc ω,Qc ω,Qc ω]
 have E:∀l,l<h.length->t l=own l:=λl u=>by
  rw[s];unfold lG;rw[Qd ω,V];exact Kp u
 generalize hS:(⟨.one,0,9,1,_⟩:Ob)=S0;have j:∀k o,k<11->G[k]?=some o->((h++G++g).set (h.length+11) S0)[h.length+k]?=some o:=λk o v e=>(Qp ω).trans ((QE ω).trans (z k o e));have g1:=j 1 _ ω (by rw[a];rfl);have g2:=j 2 _ ω (by rw[a];rfl);have g3:=j 3 _ ω (by rw[a];rfl);have g4:=j 4 _ ω (by rw[a];rfl);have g5:=j 5 _ ω (by rw[a];rfl);have g6:=j 6 _ ω (by rw[a];rfl);have g7:=j 7 _ ω (by rw[a];rfl);have g8:=j 8 _ ω (by rw[a];rfl);have W:=j 9 _ ω (by rw[a];rfl);have H:=j 10 _ ω (by rw[a];rfl);have F:((h++G++g).set (h.length+11) S0)[h.length+11]?=some S0:=QF DQ;rw[Un]at W;have B:∀id n,Qi (M0 c).N id=some n->False:=by intro id n r;cases r
 refine .inl ⟨K,t,⟨h.length+2,h.length+10,(h++G).length+3,h.length+5,h.length+9,0,cm,[],em,λ_=>0,λ_=>0,λ_=>h.length+8⟩,h.length+11,rfl,⟨?_,(i 11 ω).trans rfl,⟨h.length+1,0,[],g2,g1,Vy.nil,(i 2 ω).trans rfl,(i 1 ω).trans rfl⟩,H,K9.nil.to λk=>rfl,(i 10 ω).trans rfl,λid n r=>(B id n r).elim,λid n r=>(B id n r).elim,?_,Qae (S:=λl=>t l=.lv) g3 g4 g5 ((i 3 ω).trans rfl) ((i 4 ω).trans rfl) ((i 5 ω).trans rfl),W,Y6.to λk=>?_,(i 9 ω).trans rfl,λid Zi=>?_,λid n r=>(B id n r).elim⟩,QjL c,⟨E,?_,?_⟩⟩;rw[F,<- hS];rfl;exact hO.step λl u ho=>⟨C l ω,Qp ω⟩;by_cases v:k=0;subst v;rfl;show (if k=0 then _ else _)=if decide (k=0)=true then _ else _;rw[Qc v,Qc (by simpa using v)];have:id=0:=by simpa[M0] using Zi
 subst this;exact Qae (S:=λl=>t l=.X2 0) g6 g7 g8 ((i 6 ω).trans rfl) ((i 7 ω).trans rfl) ((i 8 ω).trans rfl);intro l u ZP;exact(Qp ω).trans ((QE ω).trans (QE u));simp only[Kx,Zk];omega;have a1:∀d,d=D.tup [.raw (.pointer none),Qa 1]->∃g,h++[lF c]=h++g:=λ_ _=>⟨_,rfl⟩;cases d1:decide (c.t<1) with
 | true=>
  refine Q7 func39 ntmps39 results39 λf w x b=>?_;simp only[go_sem,Qj,Qj,d1];exact .inr ⟨K,_,rfl⟩
 | false=>
  cases d2:decide (65536<c.t) with
  | true=>
   refine Q7 func39 ntmps39 results39 λf w x b=>?_;simp only[go_sem,Qj,Qj,d1,d2];exact .inr ⟨K,_,rfl⟩
  | false=>
   cases d3:decide (c.Jb<1) with
   | true=>
    refine Q7 func39 ntmps39 results39 λf w x b=>?_;simp only[go_sem,Qj,Qj,d1,d2,d3];exact .inr ⟨K,_,rfl⟩
   | false=>
    have d4:decide (16384<c.Jb)=true:=by
     have e1:=CO d1;have e2:=CO d2;have e3:=CO d3;refine QS (wP λe4=>K ⟨ω,ω,ω,ω⟩)
    refine Q7 func39 ntmps39 results39 λf w x b=>?_;simp only[go_sem,Qj,Qj,d1,d2,d3,d4];exact .inr ⟨K,_,rfl⟩
def lH{l:List Int}{k}(h:k<l.length):l.getD k 0∈l:=by
 rw[QW,QJ h];exact Xn h
def Qag(l:List Int)(F:List Ob)(f a:Nat)(b:List D)(g:Int->Bool):Prop:=∀(h:List Ob) (n:Int),n∈l->VG F h->Zf prog f h (Z5 a b [Qa n]) (λd=>d=QU (g n))
def UL(l:List Int)(F:List Ob)(b:Nat)(f a:Nat)(c:List D)(g:Int->Bool):Prop:=∀(h:List Ob) (n:Int),n∈l->F.length<=h.length->(∀l,l<F.length->l≠b->h[l]? = F[l]?)->Zf prog f h (Z5 a c [Qa n]) (λd=>d=QU (g n))
section
variable (h:List Ob)(l:List Int)(lo gn off:Nat)(row:Nat->List D)(hlen:l.length<1000000)(ho:(h.map Ob.ro)[lo]?=some ⟨.Ac,gn,1,off+l.length,row⟩)(hr:∀i,i<l.length->row (off+i)=[Qa (l.getD i 0)])
include hlen ho hr
theorem QAr(e:D)(f j:Nat)(q:List D)(x:Qm prog f)(B:JB e=some (f,j,q))(c:Int->Bool)(v:Qag l (h.map Ob.ro) f j q c):
  Zf prog 102 h [.ref lo gn off l.length,e] (λd=>d=Qa (xz c l)):=by
 refine ZH func102 ntmps102 results102 λr w H F p I b=>?_;rw[<- p]at ho;have C:=Qb ho;simp only[go_sem];refine ZN (λk s=>(∀i,i<k->c (l.getD i 0)=false)/\s=⟨[(0,.ref lo gn off l.length),(1,e),(7,Qa l.length),(8,Qa k)],F⟩) l.length QO ⟨λi o=>absurd o ω,rfl⟩ ?_;rintro k s n ⟨g,rfl⟩;apply Qg b;have C:=Qb ho;have E:=Jr (show k<4611686018427387904 from ω);first|refine We n (λa=>?_) (λa=>?_)|refine Wf n (λa=>?_) (λa=>?_)
 have t:=hr k a;have u:off+k<off+l.length:=ω;simp only[go_sem,ho,a,t,u];refine XI b x B ?_ (v F (l.getD k 0) (lH a) (by rw[<- p];exact VG.refl F)) rfl λd2 y=>?_;simp only[go_sem];exact Dt _;subst y;apply Qh b;cases m:c (l.getD k 0);simp only[go_sem];refine⟨a,_,Qo.frame (by simp only[go_sem,E]),λi o=>?_,rfl⟩;by_cases z:i<k;exact g i z;have:i=k:=ω;subst this;exact m;rw[ry a g m];simp only[go_sem];exact⟨[],(JS F).symm⟩;have a:k=l.length:=ω;subst a;simp only[go_sem,Gx];rw[rA g];apply Qg b;exact⟨[],(JS F).symm⟩
end
section
variable (h:List Ob)(l:List Int)(lo gn off:Nat)(row:Nat->List D)(hlen:l.length<1000000)(ho:h[lo]?=some ⟨.arr,gn,1,off+l.length,row⟩)(hr:∀i,i<l.length->row (off+i)=[Qa (l.getD i 0)])
include hlen ho hr
theorem QAs(e:D)(f z:Nat)(B:List D)(T:Qm prog f)(VW:JB e=some (f,z,B))(a:Int->Bool)(hg:UL l h lo f z B a)(N:UL l (h.map Ob.ro) lo f z B a):
  QM prog 108 h [.ref lo gn off l.length,e] (λd W=>d=.ref lo gn off (zG a l).length/\∃KI,W=h.set lo ⟨.arr,gn,1,off+l.length,KI⟩/\∀i,i<(zG a l).length->KI (off+i)=[Qa ((zG a l).getD i 0)]):=by
 refine Q7 func108 ntmps108 results108 λa0 w pl c=>?_;have C:=Qb ho;simp only[go_sem];refine XI c SO rfl ?_ (QAr h l lo gn off row hlen (Z4 ho) hr e f z B T VW a (λW n hm hx=>?_)) rfl λd2 H=>?_;simp only[go_sem];exact LG e;obtain⟨g,rfl⟩:=hx;exact N _ n hm σ λl hl _=>QE hl;subst H;have R:h.set lo ⟨.arr,gn,1,off+l.length,row⟩=h:=y8 λi=>by
  by_cases q:lo=i;subst q;rw[W5 C,ho];rw[JG q]
 rcases Qy0 (g:=a) (l:=l) with ⟨q,V⟩|⟨i,hi,q,V,U⟩;rw[q,V];apply Qg c;exact⟨row,R.symm,hr⟩;rw[q];have QC:(((i:Nat):Int)==-1)=false:=σ;have E:=Jr (show i<4611686018427387904 from ω);apply Qh c;simp only[go_sem,QC,E];refine ZN (λk s=>∃b:Nat->List D,(∀x,x<l.length->(b (off+x)).length=1)/\(∀j,j<((l.take (i+1+k)).filter λx=>!a x).length->b (off+j)=[Qa (((l.take (i+1+k)).filter λx=>!a x).getD j 0)])/\(∀j,i+1+k<=j->j<l.length->b (off+j)=[Qa (l.getD j 0)]) /\
  s=⟨[(0,.ref lo gn off l.length),(1,e),(5,Qa ((l.take (i+1+k)).filter λx=>!a x).length),(6,Qa (i+1+k:Nat))],h.set lo ⟨.arr,gn,1,off+l.length,b⟩⟩) (l.length-(i+1))
  (s0:=⟨[(0,.ref lo gn off l.length),(1,e),(5,Qa i),(6,Qa (i+1:Nat))],h⟩) QO ⟨row,λx hx=>by rw[hr x hx];rfl,?_,λj _ p=>hr j p,?_⟩ ?_
 rw[x6,U];intro j p;simp at p;rw[hr j ω];simp[QW,p,show j<l.length by omega];rw[x6,U,R];simp[Gy (Nat.le_of_lt hi)];rintro k s hk ⟨b,K,u,v,rfl⟩;have UD:=uo l (λx=>!a x) (i+1+k);obtain⟨M,t⟩:∃M,M=(l.take (i+1+k)).filter λx=>!a x:=⟨_,rfl⟩;obtain⟨j,p⟩:∃j,j=i+1+k:=⟨_,rfl⟩;have Jp:lo<(h.set lo ⟨.arr,gn,1,off+l.length,b⟩).length:=by simpa using C
 have y:(h.set lo ⟨.arr,gn,1,off+l.length,b⟩)[lo]?=some ⟨.arr,gn,1,off+l.length,b⟩:=QF C;rw[<- p]at t u v UD ⊢;rw[<- t]at u UD ⊢;have DT:j<=l.length:=ω;have E:=Jr (show j<4611686018427387904 from ω);have Q:=Jr (show M.length<4611686018427387904 from ω);have P:∀x,x<h.length->x≠lo->(h.set lo ⟨.arr,gn,1,off+l.length,b⟩)[x]? = h[x]? := λx _ hx=>Qp (Q8 hx);apply Qg c;first|refine We DT (λm=>?_) (λm=>?_)|refine Wf DT (λm=>?_) (λm=>?_)
 have Uy:=v j (QB _) m;have F:off+j<off+l.length:=ω;simp only[go_sem,m,y,Uy,F];refine XI c T VW ?_ (hg _ (l.getD j 0) (lH m) σ P) rfl λd2 H=>?_;simp only[go_sem];exact Dt _;subst H;have o:=iN l (λx=>!a x) j m;rw[<- t,show l.getD j default=l.getD j 0 from rfl]at o;cases S:a (l.getD j 0);rw[Qd (by simp only[S,Gp])]at o;have Z:M.length<l.length:=ω;have jh:off+M.length<off+l.length:=ω;have O:List.drop 1 (b (off+M.length))=[]:=aR (by rw[K _ Z];exact QB _);apply Qh c;simp only[go_sem,Qj,y,E,Q,Z,jh,O];have Y:i+1+(k+1)=j+1:=ω;have Co:(M++[l.getD j 0]).length=M.length+1:=σ;refine⟨ω,_,Qo.frame (fr':=[(0,.ref lo gn off l.length),(1,e),(5,Qa (M.length+1:Nat)),(6,Qa (j+1:Nat))]) (by simp only[go_sem]),λx=>bif x==off+M.length then [Qa (l.getD j 0)] else b x,?_,?_,?_,?_⟩;intro x hx;show (bif off+x==off+M.length then [Qa (l.getD j 0)] else b (off+x)).length=1;cases (off+x==off+M.length);exact K x hx;rfl;rw[Y,o];intro x hx;simp at hx;by_cases uU:x=M.length;subst uU;simp only[NH,vL];simp;rfl;have I:(off+x==off+M.length)=false:=ξ;have:=u x ω;simp only[I,zT,this];rw[QW,QW,JJ ω];rfl;intro x YC J;have I:(off+x==off+M.length)=false:=ξ;simp only[I,zT];exact v x ω J;rw[Y,o,Co];rfl;rw[Qc (by simp only[S,Be];decide)]at o;apply Qh c;simp only[go_sem,E];refine⟨ω,_,Qo.frame (fr':=[(0,.ref lo gn off l.length),(1,e),(5,Qa M.length),(6,Qa (j+1:Nat))]) (by simp only[go_sem]),b,K,?_,?_,?_⟩;rw[show i+1+(k+1)=j+1 by omega,o];exact u;intro x YC J;exact v x ω J;rw[show i+1+(k+1)=j+1 by omega,o];rfl;subst m;rw[Wn]at t;have zK:M=zG a l:=t;rw[<- zK];have F:M.length<=l.length:=ω;apply Qh c;simp only[go_sem,y,F];refine p6 BS c rfl y rfl rfl rfl rfl ξ rfl rfl rfl rfl ?_;have L:∀r:Ob,(h.set lo r)[lo]?=some r:=λr=>QF C;apply Qh c;simp only[go_sem,Qj,L,F];refine⟨σ,_,rfl,λx hx=>by rw[pZ ω];exact u x hx⟩
theorem QAx(g:D)(f c:Nat)(e:List D)(n:Qm prog f)(o:JB g=some (f,c,e))(a:Int->Bool)(m:UL l h lo f c e a)(j:UL l (h.map Ob.ro) lo f c e a):
  QM prog 108 h [.ref lo gn off l.length,g] (λd k=>d=.ref lo gn off (zG a l).length/\∃b,k=h.set lo ⟨.arr,gn,1,off+(zG a l).length,b⟩/\∀i,i<(zG a l).length->b (off+i)=[Qa ((zG a l).getD i 0)]):=by
 refine QM.cut (QAs h l lo gn off row hlen ho hr g f c e n o a m j) ?_;rintro d k ⟨rfl,b,rfl,p⟩;have:=XS (λx=>!a x) l;refine⟨lo,⟨.arr,gn,1,off+l.length,b⟩,off+(zG a l).length,QF (Qb ho),rfl,by simp only[zG];omega,rfl,b,by rw[JN],p⟩
end
section
variable (h:List Ob)(l:List Int)(hlen:l.length<1000000)
include hlen
theorem QAy(e:D)(f j:Nat)(p:List D)(t:Qm prog f)(y:JB e=some (f,j,p))(c:Int->Bool)(r:Qag l (h.map Ob.ro) f j p c):
  Zf prog 102 h [ints l,e] (λd=>d=Qa (xz c l)):=by
 refine ZH func102 ntmps102 results102 λq w B F v C b=>?_;simp only[go_sem];refine ZN (λk s=>(∀i,i<k->c (l.getD i 0)=false)/\s=⟨[(0,ints l),(1,e),(7,Qa l.length),(8,Qa k)],F⟩) l.length QO ⟨λi o=>absurd o ω,rfl⟩ ?_;rintro k s n ⟨g,rfl⟩;apply Qg b;have z:=Jr (show k<4611686018427387904 from ω);first|refine We n (λa=>?_) (λa=>?_)|refine Wf n (λa=>?_) (λa=>?_)
 simp only[go_sem,a];refine XI b t y ?_ (r F (l.getD k 0) (lH a) (by rw[<- v];exact VG.refl F)) rfl λd2 u=>?_;simp only[go_sem];exact Dt _;subst u;apply Qh b;cases m:c (l.getD k 0);simp only[go_sem];refine⟨a,_,Qo.frame (by simp only[go_sem,z]),λi o=>?_,rfl⟩;by_cases x:i<k;exact g i x;have:i=k:=ω;subst this;exact m;rw[ry a g m];simp only[go_sem];exact⟨[],(JS F).symm⟩;have a:k=l.length:=ω;subst a;simp only[go_sem,Gx];rw[rA g];apply Qg b;exact⟨[],(JS F).symm⟩
theorem Qai(a:D)(f b:Nat)(e:List D)(m:Qm prog f)(r:JB a=some (f,b,e))(c:Int->Bool)(k:Qag l (h.map Ob.ro) f b e c):
  Zf prog 70 h [ints l,a] (λd=>d=QU (decide (0<=xz c l))):=by
 refine ZH func70 ntmps70 results70 λi w s F p t g=>?_;simp only[go_sem];refine XI g SO rfl ?_ (QAy F l hlen a f b e m r c (λq n j hx=>?_)) rfl λd2 o=>?_;simp only[go_sem];exact LG a;rw[p,rv]at hx;exact k q n j hx;subst o;apply Qg g;exact⟨[],(JS F).symm⟩
end
structure wC (h:List Ob) (p:Nat) (L:Loc) (M:Qn):Prop where
 ob:(h.map Ob.ro)[p]?=some (j4 M.lk L.t L.b L.o L.v L.m M.Qe M.acc).ro
 tr:Xu h L.t M.T
 VY:(h.map Ob.ro)[L.b]?=some (QR .i64 L.cb L.eb).ro
 qK:K9 L.eb (λid=>(Qi M.N id).map λ_=>.ptr (L.le id) 0 0 0)
 Jw:∀id n,Qi M.N id=some n->(h.map Ob.ro)[L.le id]?=some (YN (qD L.lq n) n).ro
 Xx:∀id n,Qi M.N id=some n->n.c.leaf=true->∃k:Nat,n.c.ZK=k/\Pj h (L.lq id) k n.c.bytes n.q
 qL:LS h L.o M.To M.A
 X3:Fz h L.v M.Lv
 Wi:(h.map Ob.ro)[L.m]?=some (QR .i64 L.cm L.em).ro
 X4:K9 L.em (λid=>if M.ks id=true then some (.ptr (L.lk id) 0 0 0) else none)
 kids:∀id,M.ks id=true->Fz h (L.lk id) (M.KT id)
def ZB.ro{b}{h}{p}{L}{M}(C:ZB b h p L M):wC h p L M:=
 ⟨Z4 C.ob,C.tr.toR,Z4 C.VY,C.qK,λid n a=>Z4 (C.Jw id n a).1,λid n a c=>by
  obtain⟨k,f,e⟩:=C.Xx id n a c;exact⟨k,f,e.toR⟩,C.qL.toR,C.X3.toR,Z4 C.Wi,C.X4,λid d=>(C.kids id d).toR⟩
def wC.more{h h':List Ob}{p}{L}{M}(e:∀(l:Nat) (o:Ob),(h.map Ob.ro)[l]?=some o->(h'.map Ob.ro)[l]?=some o)(C:wC h p L M):wC h' p L M:=
 ⟨e _ _ C.ob,C.tr.more e,e _ _ C.VY,C.qK,λid n a=>e _ _ (C.Jw id n a),λid n a b=>by
  obtain⟨k,f,d⟩:=C.Xx id n a b;exact⟨k,f,d.more e⟩,C.qL.more e,C.X3.more e,e _ _ C.Wi,C.X4,λid c=>(C.kids id c).more e⟩
def wC.look{h}{p}{L:Loc}{M:Qn}(C:wC h p L M){a}{n}(b:Qi M.N a=some n):ZY L.eb a=some (.ptr (L.le a) 0 0 0):=by
 rw[C.qK.at_,b];rfl
def QAz{h:List Ob}{p q}{L}{M:Qn}(C:wC h p L M){a}{n:Nd}(g:Qi M.N a=some n)(j:n.c.leaf=true)(u:n.c.iD=a)(i:(h.map Ob.ro)[q]?=some ⟨.Wb,0,1,1,λ_=>[.ptr p 0 0 0]⟩):
  Zf prog 110 h [Qa a,.ptr q 0 0 0] (λd=>d=QU (n.q.l.isEmpty)):=by
 have f:=C.ob;have c:=C.VY;have b:=C.Jw a n g;have s:=C.look g;obtain⟨k,z,t⟩:=C.Xx a n g j;have v:qD L.lq n=.ptr (L.lq a) 0 0 0:=by unfold qD;rw[Qd j,u]
 rw[v]at b;have e:((n.q.l.length:Int)==0)=(n.q.l.isEmpty):=by
  cases n.q.l with
  | nil=>rfl
  | cons x l=>simp;omega
 refine ZH func110 ntmps110 results110 λr w y F o B m=>?_;rw[<- o]at i f c b;have I:=Qb i;have H:=Qb f;have J:=Qb c;have E:=Qb b;simp only[go_sem,i,f,c,b,s];apply Zz m OD (Pm (t.more (Vz o)));apply Qh m;simp only[go_sem,e];exact⟨[],(JS F).symm⟩
def QAA(h)(a):Zf prog 108 h [.nil,a] (λd=>d=.nil):=by
 refine ZH func108 ntmps108 results108 λc w f F g i b=>?_;simp only[go_sem];refine XI b SO rfl ?_ (Qgj F a) rfl λd2 e=>?_;simp only[go_sem];exact LG a;subst e;apply Qg b;exact⟨[],(JS F).symm⟩
def vz(T:List Ql):List Int:=(T.filter (·.leaf)).map (·.iD)
def FY(M:Qn)(a:Int):Bool:=(Qy M a).q.l.isEmpty
def VS(M:Qn):List Int:=zG (FY M) (vz M.T)
def lI{M:Qn}(I:QA M){id}(h:id∈vz M.T):∃n,Qi M.N id=some n/\n.c.leaf=true/\n.c.iD=id:=by
 obtain⟨c,e,rfl⟩:=Ji.1 h;obtain⟨f,d⟩:=Jt.1 e;have a:=(VF I.tree.rising).2 ⟨f,rfl⟩;rw[I.nodes,uy]at a;cases b:Qi M.N c.iD with
 | none=>rw[b]at a;cases a
 | some n=>
  rw[b,KM,Q5]at a;exact⟨n,rfl,by rw[a];exact d,by rw[a]⟩
section
variable {h:List Ob}{p:Nat}{L:Loc}{M:Qn}(C:wC h p L M)(I:QA M)
include C I
theorem QAB:W8 prog 73 h [.ptr p 0 0 0] (λd g=>Ke h.length (h++g) d (VS M)):=by
 have YB:(vz M.T).length<1000000:=by
  have:=XS (λc:Ql=>c.leaf) M.T;have y:=I.tree.len;simp only[vz,Kj];omega
 have t:=C.ob;refine BR Vd 200 func73 rfl ntmps73 results73 rfl λW w pl F Q Zj i=>?_;rw[<- Q]at t;have Qr:=Qb t;simp only[go_sem,Qj,t,Qr];obtain⟨B,v⟩:∃B:List Ob,B=[⟨.one,0,1,1,λ_=>[.ptr p 0 0 0]⟩]:=⟨_,rfl⟩;have r:B.length=1:=by rw[v];rfl
 have Zr:B[0]?=some ⟨.one,0,1,1,λ_=>[.ptr p 0 0 0]⟩:=by rw[v];rfl
 have PA:=v;rw[<- PA];have V:wC F p L M:=C.more (Vz Q);have CB:wC (F++B) p L M:=V.more Ho;obtain⟨m,c,es,Z,hm,hT⟩:=CB.tr;refine Ha i QsL rfl ?_ (Qvt _ L.t m c hT (by have:=I.tree.len;omega) Z hm) rfl λd g O=>?_;simp only[go_sem];rw[show (M.T.filter (·.leaf)).map (·.iD)=vz M.T from rfl]at O;rcases O with ⟨rfl,h3⟩|⟨b,s,a,l,rfl,E,Ys,hr⟩;apply J5 i;refine XI i Qfi rfl ?_ (QAA _ (.clo 110 0 [.ptr F.length 0 0 0])) rfl λd2 u=>?_;simp only[go_sem];subst u;apply Qg i;refine⟨_,rfl,.inl ⟨rfl,?_⟩⟩;rw[VS,h3];rfl
 .apply J5 i;have yB:F.length+1<=b:=by
   have R:(F++B).length<=b:=E.1;rw[Zk,r]at R;exact R
  obtain⟨H,j⟩:∃H,H=F++(B++g):=⟨_,rfl⟩;have K:∀x:Nat,x<F.length->H[x]? = F[x]? := λx hx=>by rw[j];exact QE hx
  have T:H[b]?=some ⟨.arr,s,1,a+(vz M.T).length,l⟩:=by rw[j,<- WL];exact Ys
  have a1:F.length+1<=H.length:=by rw[j];simp[r]
  have N:H[F.length]?=some ⟨.one,0,1,1,λ_=>[.ptr p 0 0 0]⟩:=by rw[j,Vc rfl,QE ω];exact Zr
  rw[<- j];have f:∀k:List Ob,(∀x:Nat,H[x]? = k[x]?\/(k[x]? = (H[x]?).map Ob.ro))->k.length=H.length->UL (vz M.T) k b 110 0 [.ptr F.length 0 0 0] (FY M):=by
   intro k y Jq S n WC a0 J;have q:∀(x:Nat) (o:Ob),x<F.length+1->(H.map Ob.ro)[x]?=some o->(S.map Ob.ro)[x]?=some o:=λx o hx e=>by
    have e1:=J x ω ω;rw[KL]at e ⊢;rw[e1];rcases y x with z|z;rw[<- z];exact e;rw[z,Iw,<- e];congr 1;funext o;exact ro_ro o
   obtain⟨Y,P,hl,Zi⟩:=lI I WC;have Z9:Qy M n=Y:=by unfold Qy;rw[P];rfl
   have:=QAz (V.more (h':=S) λx o e=>q x o (by have:=Qb e;rw[Kj]at this;omega) (by rw[KL,K x (by have:=Qb e;rw[Kj]at this;omega),<- KL];exact e)) P hl Zi (q F.length ⟨.Wb,0,1,1,λ_=>[.ptr p 0 0 0]⟩ ω (by rw[KL,N];rfl));unfold FY;rw[Z9];exact this
  refine ZL i Qfi (QAx H (vz M.T) b s a l YB T hr (.clo 110 0 [.ptr F.length 0 0 0]) 110 0 [.ptr F.length 0 0 0] QsM rfl (FY M) (f H (λx=>.inl rfl) rfl) (f (H.map Ob.ro) (λx=>.inr (by rw[KL])) σ)) λd y u=>?_;obtain⟨rfl,U,rfl,Uq⟩:=u;apply Qg i;refine Ke.done Zj ⟨(B++g).set (b-F.length) ⟨.arr,s,1,a+(zG (FY M) (vz M.T)).length,U⟩,?_⟩ (.inr ⟨b,s,a,U,rfl,?_,?_,Uq⟩);rw[j,Im _ _ (by omega:F.length<=b)];exact⟨by have:=E.1;omega,E.2⟩;exact QF (Qb T)
theorem Qaj:Zf prog 73 h [.ptr p 0 0 0] (λd=>d=ints (VS M)):=Ke.closed (QAB C I)
end
def UM(l:List Int)(v:Int):Int:=if l.contains v then (l.idxOf v:Nat) else -1
def QAF(l:List Int)(a)(n:l.length<2147483648):QI prog 140 [ints l,Qa a] (QN (Qa (UM l a))):=by
 refine QY 0 func140 ntmps140 results140 λi w e=>?_;simp only[go_sem];refine ZN (λk s=>(l.take k).contains a=false/\s=⟨[(0,ints l),(1,Qa a),(6,ints l),(7,Qa l.length),(8,Qa k)],[]⟩) l.length (s0:=⟨[(0,ints l),(1,Qa a),(6,ints l),(7,Qa l.length),(8,Qa 0)],[]⟩) QO ⟨σ,rfl⟩ ?_;rintro k s o ⟨c,rfl⟩;apply Qg e;refine VV (λh=>?_) (λh=>?_);have d:k<l.length:=by simpa using h
 have g:=getD_take l 0 k d;simp only[go_sem,d];refine VV (λb=>?_) (λb=>?_);simp only[go_sem];have f:l=l.take k++a::l.drop (k+1):=by
  conv=>lhs;rw[<- Bh (k+1) l,g]
  simp at b;simp[b]
 have:UM l a=k:=by
  have j:l.contains a=true:=by rw[f];simp
  have m:¬ a∈l.take k:=by simpa using c
  rw[UM,j];simp only[Vu];rw[f,Nz,Qc m];simp;omega
 rw[this];simp only[go_sem];refine⟨ω,_,Qo.frame (by simp only[go_sem,Jr (show k<4611686018427387904 from ω)]),?_,rfl⟩;rw[g];simp at c b ⊢;exact⟨c,b⟩;have d:k=l.length:=by simp at h;omega
 simp only[go_sem];apply Qg e;subst d;simp at c;simp[UM,c]
def QAG(l:List Int)(a)(d:l.length<2147483648):QI prog 104 [ints l,Qa a] (QN (QU (l.contains a))):=by
 refine QY 0 func104 ntmps104 results104 λc w b=>?_;simp only[go_sem];apply QV b Qs4 (QAF l a d);apply Qg b;unfold UM;cases l.contains a<;>simp
def QAH{h:List Ob}{p j i}{L}{M}(C:wC h p L M)(I:QA M)(b n)(f:(h.map Ob.ro)[j]?=some ⟨.Wb,0,1,1,λ_=>[.ptr p 0 0 0]⟩)(e:(h.map Ob.ro)[i]?=some ⟨.Wb,0,1,1,λ_=>[Qa b]⟩):
  Zf prog 103 h [Qa n,.ptr j 0 0 0,.ptr i 0 0 0] (λd=>d=QU ((up M.T n).contains b)):=by
 have c:=C.ob;refine ZH func103 ntmps103 results103 λk w m F g o a=>?_;rw[<- g]at c f e;have q:=Qb c;have r:=Qb f;have l:=Qb e;simp only[go_sem];apply Qv a [0,1,2,3,4,6,1005,1007,8];simp only[go_sem,c,f,e];apply KQ a fk (rY (C.tr.more (Vz g)) I.tree.toTreeInv n);apply Zp a;have s:(ZF M.T 16 n).length<=16:=yu (L:=M.T) (n:=16) (id:=n);apply ZD a QsJ (QAG (ZF M.T 16 n) b ω);apply Zp a;exact⟨[],(JS F).symm,rfl⟩
def QAI(g)(l:List Int):(zG g l).length<=l.length:=XS _ _
def xT(M:Qn)(a:Int):Bool:=(VS M).any λn=>(up M.T n).contains a
def QjN{M:Qn}(I:QA M):(VS M).length<=64:=by
 have a:=QAI (FY M) (vz M.T);have d:=XS (λc:Ql=>c.leaf) M.T;have b:=I.tree.len;simp only[VS,vz,Kj]at a ⊢;omega
def QAJ{h}{p}{L}{M}(C:wC h p L M)(I:QA M)(b):
  Zf prog 71 h [.ptr p 0 0 0,Qa b] (λd=>d=QU (xT M b)):=by
 have K:=QjN I;have i:=C.ob;refine BR Vd 200 func71 rfl ntmps71 results71 rfl λq w y F j J c=>?_;rw[<- j]at i;have N:=Qb i;simp only[go_sem,Qj];have x:wC F p L M:=C.more (Vz j);obtain⟨B,f⟩:∃B:List Ob,B=[⟨.one,0,1,1,λ_=>[.ptr p 0 0 0]⟩,⟨.one,0,1,1,λ_=>[Qa b]⟩]:=⟨_,rfl⟩;have u:B[0]?=some ⟨.one,0,1,1,λ_=>[.ptr p 0 0 0]⟩:=by rw[f];rfl
 have v:B[1]?=some ⟨.one,0,1,1,λ_=>[Qa b]⟩:=by rw[f];rfl
 have k:=f;simp only[go_sem]at k;rw[<- k];have m:wC (F++B) p L M:=x.more Ho;apply Zz c po (Qaj m I);apply Qg c;refine XI c SN rfl ?_ (Qai (F++B) (VS M) ω (.clo 103 0 [.ptr F.length 0 0 0,.ptr (F.length+1) 0 0 0]) 103 0 [.ptr F.length 0 0 0,.ptr (F.length+1) 0 0 0] QsI rfl (λn=>(up M.T n).contains b) (λs n E hx=>?_)) rfl λd2 r=>?_;simp only[go_sem];have a:∀(l:Nat) (o:Ob),((F++B).map Ob.ro)[l]?=some o->(s.map Ob.ro)[l]?=some o:=λl o e=>by
  obtain⟨g,rfl⟩:=hx;have t:=Z4 ((QE (Qb e)).trans e:((F++B).map Ob.ro++g)[l]?=some o);rw[t];rw[KL]at e;obtain⟨z,H,rfl⟩:=VT.1 e;rw[ro_ro]
 exact QAH (m.more a) I b n (a _ _ (by rw[KL,Vc rfl,u];rfl)) (a _ _ (by rw[KL,VD rfl,v];rfl));subst r;apply Qg c;refine⟨B,rfl,?_⟩;rw[fV];rfl
def QAK{h:List Ob}{l k p o}{A B:List Ql}(v:Xu h l A)(u:Xu h k B)(b)(j:(h.map Ob.ro)[p]?=some ⟨.Wb,0,1,1,λ_=>[.ptr l 0 0 0]⟩)(i:(h.map Ob.ro)[o]?=some ⟨.Wb,0,1,1,λ_=>[.ptr k 0 0 0]⟩)(E:A.length<100000)(C:B.length<100000):
  Zf prog 106 h [Qa b,.ptr p 0 0 0,.ptr o 0 0 0] (λd=>d=QU (HB A b || HB B b)):=by
 obtain⟨x,hx⟩:∃x,x=(Qw A b).getD default:=⟨_,rfl⟩;obtain⟨y,m⟩:∃y,y=(Qw B b).getD default:=⟨_,rfl⟩;have t:HB A b=decide (1<QH x.rt):=by rw[hx];rfl
 have s:HB B b=decide (1<QH y.rt):=by rw[m];rfl
 rw[t,s];refine ZH func106 ntmps106 results106 λq w z F f H a=>?_;rw[<- f]at j i;have I:=Qb j;have r:=Qb i;simp only[go_sem,j];have e:=OY (v.more (Vz f)) b;have c:=λG:List Ob=>OY ((u.more (Vz f)).more (Ho (g:=G))) b;rw[<- hx]at e;simp only[<- m]at c;apply Zz a vX e;apply Qh a;simp only[go_sem,Qj,i,r];apply Zz a vX (c _);apply J5 a;cases n:decide (1<QH x.rt) with
 | true=>
  apply QV a Dl (Fc x);apply Qh a;simp only[go_sem,Qj,n];exact⟨_,rfl⟩
 | false=>
  apply QV a Dl (Fc x);apply Qh a;simp only[go_sem,Qj,n];apply QV a Dl (Fc y);apply J5 a;exact⟨_,rfl⟩
def Qak{h}{c b}{A B:List Ql}(z:Xu h c A)(y:Xu h b B)(m:A.length<100000)(k:B.length<100000)(s:(JX A B).length<1000000):
  Zf prog 72 h [.ptr c 0 0 0,.ptr b 0 0 0] (λd=>d=QU (iP A B)):=by
 refine BR Vd 200 func72 rfl ntmps72 results72 rfl λr w E F j K f=>?_;simp only[go_sem,Qj];obtain⟨G,i⟩:∃G:List Ob,G=[⟨.one,0,1,1,λ_=>[.ptr c 0 0 0]⟩,⟨.one,0,1,1,λ_=>[.ptr b 0 0 0]⟩]:=⟨_,rfl⟩;have x:G[0]?=some ⟨.one,0,1,1,λ_=>[.ptr c 0 0 0]⟩:=by rw[i];rfl
 have C:G[1]?=some ⟨.one,0,1,1,λ_=>[.ptr b 0 0 0]⟩:=by rw[i];rfl
 rw[<- i];have q:Xu (F++G) c A:=(z.more (Vz j)).more Ho;have p:Xu (F++G) b B:=(y.more (Vz j)).more Ho;apply Zz f Qfc (Qi1 q p m k);apply Qg f;refine XI f SN rfl ?_ (Qai (F++G) (JX A B) s (.clo 106 0 [.ptr F.length 0 0 0,.ptr (F.length+1) 0 0 0]) 106 0 [.ptr F.length 0 0 0,.ptr (F.length+1) 0 0 0] QsK rfl (λid=>HB A id || HB B id) (λu n I hx=>?_)) rfl λd2 t=>?_;simp only[go_sem];have a:∀(l:Nat) (o:Ob),((F++G).map Ob.ro)[l]?=some o->(u.map Ob.ro)[l]?=some o:=λl o e=>by
  obtain⟨g,rfl⟩:=hx;have v:=Z4 ((QE (Qb e)).trans e:((F++G).map Ob.ro++g)[l]?=some o);rw[v];rw[KL]at e;obtain⟨H,J,rfl⟩:=VT.1 e;rw[ro_ro]
 exact QAK (q.more a) (p.more a) n (a _ _ (by rw[KL,Vc rfl,x];rfl)) (a _ _ (by rw[KL,VD rfl,C];rfl)) m k;subst t;apply Qg f;refine⟨G,rfl,?_⟩;rw[fV];rfl
def XO(c:Ql):Nd:=⟨c,0,default,default,default,⟨[],0,0,0,0,0,0⟩⟩
def QjQ(h:List Ob)(c:Ql)(d:D)(a:List Ob):Prop:=
 d=.ptr (h.length+1) 0 0 0/\∃g b,a=h++g/\2<=g.length/\a[h.length+1]?=some (YN (if c.leaf=true then .ptr b 0 0 0 else .raw (.pointer none)) (XO c)) /\
  (c.leaf=true->∃k:Nat,c.ZK=k/\wo (λl=>h.length+2<=l) a b k c.bytes ⟨[],0,0,0,0,0,0⟩)
@[go_sem] theorem QJo(d a)(n):a::List.drop 1 (K0 d n)=K0 a n:=rfl
def QAL(h)(c:Ql)(N:c.leaf=true->1<=c.ZK/\c.ZK<=64/\1<=c.bytes/\c.bytes<=1048576):
  QM prog 75 h [WV c] (λd O=>QjQ h c d O):=by
 obtain⟨o,n,J,m,j,i,y,f⟩:=c;cases J with
 | false=>
  refine Q7 func75 ntmps75 results75 λb w I p=>?_;simp only[go_sem,Qj,Qj];refine⟨rfl,_,0,rfl,σ,?_,λe=>by cases e⟩;rw[VD (k:=1) rfl];show some (_:Ob)=some (YN (.raw (.pointer none)) _);refine congrArg some ?_;unfold YN K0 XO;refine congrArg (Ob.mk .one 0 60 1) ?_;funext _;dsimp only;simp only[Ql.cells,YT,zR];rfl
 | true=>
  obtain⟨L,K,x,v⟩:=N rfl;dsimp only at L K x v;obtain⟨k,rfl⟩:∃k:Nat,y=k:=⟨y.toNat,ω⟩;refine Q7 func75 ntmps75 results75 λb w I p=>?_;simp only[go_sem,Qj,Qj];generalize R:(⟨.one,0,14,1,_⟩:Ob)=P;generalize t:(⟨.one,0,60,1,_⟩:Ob)=F;have B:F=YN (.raw (.pointer none)) (XO ⟨o,n,true,m,j,i,(k:Int),f⟩):=by
   rw[<- t];unfold YN K0 XO;refine congrArg (Ob.mk .one 0 60 1) ?_;funext _;dsimp only;simp only[Ql.cells,YT,zR];rfl
  obtain⟨G,a⟩:∃G:List Ob,G=[P,F]:=⟨_,rfl⟩;have q:G.length=2:=by rw[a];rfl
  have M:=QwT (h++G) k f ω ω x v;have U:(h++G)[h.length+1]?=some (YN (.raw (.pointer none)) (XO ⟨o,n,true,m,j,i,(k:Int),f⟩)):=by rw[a,<- B];exact VD (k:=1) rfl
  have H:=M;rw[a]at H;refine ZL p QsN H λd T z=>?_;rw[<- a]at z;obtain⟨rfl,Q,g,rfl,S⟩:=z;have C:(G++g)[1]?=some (YN (.raw (.pointer none)) (XO ⟨o,n,true,m,j,i,(k:Int),f⟩)):=by rw[a,<- B];rfl
  have u:=Qb C;apply Qh p;simp only[go_sem,Qj,C];have r:(h++G).length=h.length+2:=by rw[Zk,q]
  refine⟨rfl,_,h.length+G.length+2,rfl,by simp[q],?_,λ_=>⟨k,rfl,?_⟩⟩;rw[VD (k:=1) rfl];rw[QF u];rfl;rw[r]at Q;rw[q];refine(Q.step (S':=λl=>h.length+2<=l) λl V E=>⟨E,?_⟩);have W:h.length+2<=l:=E;have e:∀X:Ob,h++(G++g).set 1 X=(h++G++g).set (h.length+1) X:=λX=>by
   rw[WL,Im (s:=h) (h.length+1) X ω,bg]
  rw[e];exact Qp ω
def MJ{a:Nat->Tag}{h:List Ob}{l:Nat}{b:Tag}(f:a l=b)(o:Ob):∀t,t≠b->∀j,j<h.length->a j=t->a j=t/\(h.set l o)[j]? = h[j]? :=
 λt d j _ c=>⟨c,Qp (λe=>d (by rw[<- c,<- e,f]))⟩
def zL{a:Nat->Tag}{h:List Ob}{l:Nat}{b:Tag}(e:a l=b)(o:Ob){j:Nat}{x:Ob}{t:Tag}(f:a j=t)(d:t≠b)(c:h[j]?=some x):(h.set l o)[j]?=some x:=
 ((MJ e o t d j (Qb c) f).2).trans c
section
variable {own:Nat->Tag}{h:List Ob}{p:Nat}{L:Loc}{M:Qn}(C:ZB own h p L M)
include C
theorem ZB.congrN{N}(e:∀id,Qi N id=Qi M.N id):ZB own h p L { M with N:=N }:=
 ⟨C.ob,C.op,C.tr,C.VY,C.qK.to λid=>by dsimp only;rw[e],C.ow,λid n a=>C.Jw id n (by rw[<- e];exact a),λid n a=>C.Xx id n (by rw[<- e];exact a),C.qL,C.X3,C.Wi,C.X4,C.om,C.kids,λid n a=>C.qi id n (by rw[<- e];exact a)⟩
theorem ZB.QAP{b}{c}(R:WD (λl=>own l=.tree) h b c):ZB own (h.set p (j4 M.lk b L.b L.o L.v L.m M.Qe M.acc)) p { L with t:=b } { M with T:=c }:=by
 have r:=MJ (h:=h) C.op (j4 M.lk b L.b L.o L.v L.m M.Qe M.acc);exact⟨QF (Qb C.ob),C.op,R.step (r _ σ),zL C.op _ C.ow σ C.VY,C.qK,C.ow,λj m a=>⟨zL C.op _ (C.Jw j m a).2 σ (C.Jw j m a).1,(C.Jw j m a).2⟩,λj m a d=>by
  obtain⟨k,g,f⟩:=C.Xx j m a d;exact⟨k,g,f.step (r _ σ)⟩,C.qL.step (r _ σ),C.X3.step (r _ σ),zL C.op _ C.om σ C.Wi,C.X4,C.om,λj e=>(C.kids j e).step (r _ σ),C.qi⟩
theorem ZB.QAQ{b}{c}{d}(R:jc (λl=>own l=.on) h b c d):ZB own (h.set p (j4 M.lk L.t L.b b L.v L.m M.Qe M.acc)) p { L with o:=b } { M with To:=c,A:=d }:=by
 have r:=MJ (h:=h) C.op (j4 M.lk L.t L.b b L.v L.m M.Qe M.acc);exact⟨QF (Qb C.ob),C.op,C.tr.step (r _ σ),zL C.op _ C.ow σ C.VY,C.qK,C.ow,λj m a=>⟨zL C.op _ (C.Jw j m a).2 σ (C.Jw j m a).1,(C.Jw j m a).2⟩,λj m a e=>by
  obtain⟨k,i,g⟩:=C.Xx j m a e;exact⟨k,i,g.step (r _ σ)⟩,R.step (r _ σ),C.X3.step (r _ σ),zL C.op _ C.om σ C.Wi,C.X4,C.om,λj f=>(C.kids j f).step (r _ σ),C.qi⟩
end
def jj(N:List Nd)(a:Int):List Nd:=N.filter λn=>n.c.iD != a
def Cy(N)(a j):Qi (jj N a) j=if j=a then none else Qi N j:=by
 unfold Qi jj;rw[List.find?_filter];split;rename_i e;subst e;rw[js];intro x _;simp;rename_i e;congr 1;funext x;cases b:x.c.iD==j with
 | false=>simp
 | true=>
  have:x.c.iD=j:=by simpa using b
  simp[this,e]
section
variable {own:Nat->Tag}{h:List Ob}{p:Nat}{L:Loc}{M:Qn}(C:ZB own h p L M)
include C
theorem ZB.QAR(b):ZB own (h.set L.b (QR .i64 L.cb (JV L.eb b))) p { L with eb:=JV L.eb b } { M with N:=jj M.N b }:=by
 have r:=MJ (h:=h) C.ow (QR .i64 L.cb (JV L.eb b));have f:∀j m,Qi (jj M.N b) j=some m->Qi M.N j=some m:=λj m a=>by
  rw[Cy]at a;split at a;cases a;exact a
 refine⟨zL C.ow _ C.op σ C.ob,C.op,C.tr.step (r _ σ),QF (Qb C.VY),(C.qK.del b).to λj=>?_,C.ow,λj m a=>⟨zL C.ow _ (C.Jw j m (f j m a)).2 σ (C.Jw j m (f j m a)).1,(C.Jw j m (f j m a)).2⟩,λj m a c=>?_,C.qL.step (r _ σ),C.X3.step (r _ σ),zL C.ow _ C.om σ C.Wi,C.X4,C.om,λj d=>(C.kids j d).step (r _ σ),λj m a=>C.qi j m (f j m a)⟩;dsimp only;rw[Cy];split;rfl;rfl;obtain⟨k,g,e⟩:=C.Xx j m (f j m a) c;exact⟨k,g,e.step (r _ σ)⟩
theorem ZB.QAS(a):ZB own (h.set L.m (QR .i64 L.cm (JV L.em a))) p { L with em:=JV L.em a } { M with ks:=λj=>if j=a then false else M.ks j }:=by
 have r:=MJ (h:=h) C.om (QR .i64 L.cm (JV L.em a));refine⟨zL C.om _ C.op σ C.ob,C.op,C.tr.step (r _ σ),zL C.om _ C.ow σ C.VY,C.qK,C.ow,λj m b=>⟨zL C.om _ (C.Jw j m b).2 σ (C.Jw j m b).1,(C.Jw j m b).2⟩,λj m b d=>?_,C.qL.step (r _ σ),C.X3.step (r _ σ),QF (Qb C.Wi),(C.X4.del a).to λj=>?_,C.om,λj c=>?_,C.qi⟩;obtain⟨k,g,f⟩:=C.Xx j m b d;exact⟨k,g,f.step (r _ σ)⟩;dsimp only;by_cases e:j=a<;>simp[e];dsimp only at c;by_cases e:j=a;rw[Qd e]at c;cases c;rw[Qc e]at c;exact(C.kids j c).step (r _ σ)
theorem ZB.QAT(a){k}(T:WW (λl=>own l=.X2 a) h k []):∃c d,J1 .i64 L.cm L.em a (.ptr k 0 0 0)=QR .i64 c d /\
  ZB own (h.set L.m (J1 .i64 L.cm L.em a (.ptr k 0 0 0))) p { L with cm:=c,em:=d,lk:=λj=>if j=a then k else L.lk j } { M with ks:=λj=>if j=a then true else M.ks j,KT:=λj=>if j=a then [] else M.KT j }:=by
 obtain⟨c,d,f,i⟩:=C.X4.set .i64 L.cm a (.ptr k 0 0 0);refine⟨c,d,f,?_⟩;rw[f];have r:=MJ (h:=h) C.om (QR .i64 c d);refine⟨zL C.om _ C.op σ C.ob,C.op,C.tr.step (r _ σ),zL C.om _ C.ow σ C.VY,C.qK,C.ow,λj m b=>⟨zL C.om _ (C.Jw j m b).2 σ (C.Jw j m b).1,(C.Jw j m b).2⟩,λj m b n=>?_,C.qL.step (r _ σ),C.X3.step (r _ σ),QF (Qb C.Wi),i.to λj=>?_,C.om,λj g=>?_,C.qi⟩;obtain⟨k,f,i⟩:=C.Xx j m b n;exact⟨k,f,i.step (r _ σ)⟩;dsimp only;by_cases e:j=a<;>simp[e];dsimp only at g ⊢;by_cases e:j=a;subst e;rw[Qd rfl,Qd rfl];exact T.step (r _ σ);rw[Qc e]at g;rw[Qc e,Qc e];exact(C.kids j g).step (r _ σ)
theorem ZB.QAU{n:Nd}{e q}(E:Qi M.N n.c.iD=none)(w:h[e]?=some (YN (if n.c.leaf=true then .ptr q 0 0 0 else .raw (.pointer none)) n))(o:own e=.xy n.c.iD)
  (v:n.c.leaf=true->∃k:Nat,n.c.ZK=k/\wo (λl=>own l=.qJ n.c.iD) h q k n.c.bytes n.q) (B:n.Ok):∃c b,J1 .i64 L.cb L.eb n.c.iD (.ptr e 0 0 0)=QR .i64 c b /\
  ZB own (h.set L.b (J1 .i64 L.cb L.eb n.c.iD (.ptr e 0 0 0))) p { L with cb:=c,eb:=b,le:=λj=>if j=n.c.iD then e else L.le j,lq:=λj=>if j=n.c.iD then q else L.lq j } { M with N:=n::M.N }:=by
 obtain⟨c,b,t,y⟩:=C.qK.set .i64 L.cb n.c.iD (.ptr e 0 0 0);refine⟨c,b,t,?_⟩;rw[t];have r:=MJ (h:=h) C.ow (QR .i64 c b);have d:∀j,Qi (n::M.N) j=if j=n.c.iD then some n else Qi M.N j:=λj=>by
  unfold Qi;rw[km];by_cases e:j=n.c.iD;subst e;rw[Qd rfl,NH];rw[Qc e,Vw (λx=>e x.symm)]
 have z:∀j m,Qi M.N j=some m->m.c.iD=j:=λj m a=>QA.id a;have u:∀j m,j≠n.c.iD->Qi M.N j=some m->qD (λj=>if j=n.c.iD then q else L.lq j) m=qD L.lq m:=λj m f a=>by
  unfold qD;simp only[z j m a,Qc f]
 refine⟨zL C.ow _ C.op σ C.ob,C.op,C.tr.step (r _ σ),QF (Qb C.VY),y.to λj=>?_,C.ow,λj m a=>?_,λj m a s=>?_,C.qL.step (r _ σ),C.X3.step (r _ σ),zL C.ow _ C.om σ C.Wi,C.X4,C.om,λj f=>(C.kids j f).step (r _ σ),λj m a=>?_⟩;dsimp only;rw[d];by_cases e:j=n.c.iD;rw[Qd e,Qd e,Qd e];rfl;rw[Qc e,Qc e,Qc e];dsimp only at a ⊢;rw[d]at a;by_cases e:j=n.c.iD;rw[Qd e]at a;cases a;rw[Qd e,e];refine⟨?_,o⟩;rw[zL C.ow _ o σ w];unfold qD;dsimp only;rw[Qd rfl];rw[Qc e]at a;rw[Qc e,u j m e a];exact⟨zL C.ow _ (C.Jw j m a).2 σ (C.Jw j m a).1,(C.Jw j m a).2⟩;dsimp only at a ⊢;rw[d]at a;by_cases e:j=n.c.iD;rw[Qd e]at a;cases a;rw[Qd e,e];obtain⟨k,i,g⟩:=v s;exact⟨k,i,g.step (r _ σ)⟩;rw[Qc e]at a;rw[Qc e];obtain⟨k,i,g⟩:=C.Xx j m a s;exact⟨k,i,g.step (r _ σ)⟩;dsimp only at a;rw[d]at a;by_cases e:j=n.c.iD;rw[Qd e]at a;cases a;exact B;rw[Qc e]at a;exact C.qi j m a
end
def JM(b:List Ql)(M:Qn)(a:Int):Qn:=
 match Qw b a with
 | none=>{ M with N:=jj M.N a,ks:=λj=>if j=a then false else M.ks j }
 | some c=>if c.leaf=true then { M with N:=XO c::jj M.N a,ks:=λj=>if j=a then false else M.ks j }
  else { M with N:=XO c::jj M.N a,ks:=λj=>if j=a then true else M.ks j,KT:=λj=>if j=a then [] else M.KT j }
def VK(M:Qn)(a:List Ql):Qn:=(JX M.T a).foldl (JM a) { M with T:=a }
def zM(M:Qn)(a:List Ql)(b:Bool):Bool:=(JX M.T a).any (xT M) || (iP M.T a&&(!b || decide (0<(VS M).length)))
def Xz(M:Qn)(a:List Ql):List Nd:=a.map λc=>Qy (VK M a) c.iD
def wD(b:List Ql)(A:List Int)(a:Int):List Int:=if 1<QH ((Qw b a).getD default).ls then a::A else A
def ql(M:Qn)(a:List Ql):Qn:={ VK M a with N:=Xz M a,To:=a,A:=[] }
def yU(M:Qn)(a:List Ql):Qn:={ ql M a with A:=(VS (ql M a)).foldl (wD a) [] }
def qm(M:Qn)(b:Bool)(l:List Jc):Int:=
 if Yq M.T M.lk.t l≠0 then Yq M.T M.lk.t l else if zM M (Je M.T l) b=true then 24 else 0
def yV(M:Qn)(l:List Jc):Nat:=if Yq M.T M.lk.t l≠0 then DJ M.T l else 0
def Kt(M:Qn)(b:Bool)(l:List Jc):Qn:=if qm M b l=0 then yU M (Je M.T l) else M
def QAV(h)(c:Ql)(f:c.leaf=true->1<=c.ZK/\c.ZK<=64/\1<=c.bytes/\c.bytes<=1048576):
  W8 prog 75 h [WV c] (λd g=>QjQ h c d (h++g)):=by
 refine QM.mono (QAL (h.map Ob.ro) c f) ?_;rintro d p ⟨rfl,g,e,rfl,m,a,j⟩;refine⟨g,rfl,by rw[Kj],g,e,rfl,m,?_,λb=>?_⟩;rw[Kj]at a;rw[Kc (by rw[Kj];omega),Kj]at a;rw[Kc ω];exact a;obtain⟨k,i,Q⟩:=j b;refine⟨k,i,Q.step λl _ n=>?_⟩;have o:h.length+2<=l:=by
  have:(h.map Ob.ro).length+2<=l:=n;rwa [Kj]at this
 exact⟨o,by rw[Kc ω,Kc (by rw[Kj];omega),Kj]⟩
def QjR{c:Ql}(h:Ql.Ok c):(XO c).Ok:=
 have z:(0:Nat)<18446744073709551616:=π
 ⟨z,⟨⟨Ln.vk,Ln.vk⟩,⟨Ln.vk,Ln.vk⟩,z,Jj _,Jj _⟩,⟨⟨Ln.vk,Ln.vk⟩,z⟩,⟨⟨Ln.vk,Ln.vk⟩,Jj _⟩,h⟩
def QAW(A B:List Ql):(JX A B).length<=A.length+B.length:=by
 have b:=Pu (λi=>(sorted (yL A B)).getD i 0) (sorted (yL A B)).length;have d:(sorted (yL A B)).length=(yL A B).length:=He _;have a:(yL A B).length<=(A.map (·.iD)++B.map (·.iD)).length:=XS _ _;have c:(JX A B).length<=(sorted (yL A B)).length:=by simpa[JX,jf] using b
 simp at a;omega
section
variable {T2:List Ql}(hr:Ws T2)
include hr
theorem QAX(M:Qn)(j a:Int):Qi (JM T2 M j).N a=if a=j then (Qw T2 a).map XO else Qi M.N a:=by
 unfold JM;cases d:Qw T2 j with
 | none=>
  dsimp only;rw[Cy];by_cases e:a=j;subst e;rw[Qd rfl,Qd rfl,d];rfl;rw[Qc e,Qc e]
 | some c=>
  have f:=((VF hr).1 d).2;have b:Qi (XO c::jj M.N j) a=if a=j then (Qw T2 a).map XO else Qi M.N a:=by
   by_cases e:a=j;subst e;rw[Qd rfl,d];unfold Qi;rw[km,show ((XO c).c.iD==a)=true by rw[show (XO c).c.iD=c.iD from rfl,f];exact NH _];rfl;rw[Qc e];have:Qi (XO c::jj M.N j) a=Qi (jj M.N j) a:=by
    unfold Qi;rw[km,show ((XO c).c.iD==a)=false by rw[show (XO c).c.iD=c.iD from rfl,f];exact Vw (λx=>e x.symm)]
   rw[this,Cy,Qc e]
  dsimp only;split;exact b;exact b
theorem FZ(a:Int):∀(l:List Int) (M:Qn),Qi (l.foldl (JM T2) M).N a=if a∈l then (Qw T2 a).map XO else Qi M.N a
 | [],M=>σ
 | j::l,M=>by
  rw[jt,FZ a l,QAX hr];by_cases c:a∈l;rw[Qd c,Qd (J8 _ c)];rw[Qc c];by_cases b:a=j;rw[Qd b,Qd (by rw[b];exact Ky)];rw[Qc b,Qc (by simp[c,b])]
omit hr in
theorem QAY(M:Qn)(j a:Int):(JM T2 M j).ks a=if a=j then (match Qw T2 a with|none=>false|some c=>!c.leaf) else M.ks a:=by
 unfold JM;by_cases e:a=j;subst e;rw[Qd rfl];cases d:Qw T2 a with
 | none=>simp
 | some c=>cases b:c.leaf<;>simp[b]
 rw[Qc e];cases d:Qw T2 j with
 | none=>simp[e]
 | some c=>cases b:c.leaf<;>simp[e,b]
omit hr in
theorem QjS(a):∀(l:List Int) (M:Qn),(l.foldl (JM T2) M).ks a=if a∈l then (match Qw T2 a with|none=>false|some c=>!c.leaf) else M.ks a
 | [],M=>σ
 | j::l,M=>by
  rw[jt,QjS a l,QAY];by_cases d:a∈l;rw[Qd d,Qd (J8 _ d)];rw[Qc d];by_cases b:a=j;rw[Qd b,Qd (by rw[b];exact Ky)];rw[Qc b,Qc (by simp[d,b])]
omit hr in
theorem QAZ(M:Qn)(j a:Int){x}(h:x∈(JM T2 M j).KT a):x∈M.KT a:=by
 unfold JM at h;split at h;exact h;split at h;exact h;dsimp only at h;split at h;cases h;exact h
omit hr in
theorem lK(a){x}:∀(l:List Int) (M:Qn),x∈(l.foldl (JM T2) M).KT a->x∈M.KT a
 | [],M,h=>h
 | j::l,M,h=>QAZ M j a (lK a l (JM T2 M j) h)
omit hr in
theorem QjT(M:Qn)(j:Int):(JM T2 M j).T=M.T/\(JM T2 M j).Lv=M.Lv/\(JM T2 M j).lk=M.lk/\(JM T2 M j).Qe=M.Qe/\(JM T2 M j).acc=M.acc:=by
 unfold JM;split;exact⟨rfl,rfl,rfl,rfl,rfl⟩;split<;>exact⟨rfl,rfl,rfl,rfl,rfl⟩
omit hr in
theorem HL:∀(l:List Int) (M:Qn),(l.foldl (JM T2) M).T=M.T/\(l.foldl (JM T2) M).Lv=M.Lv/\(l.foldl (JM T2) M).lk=M.lk/\(l.foldl (JM T2) M).Qe=M.Qe/\(l.foldl (JM T2) M).acc=M.acc
 | [],M=>⟨rfl,rfl,rfl,rfl,rfl⟩
 | j::l,M=>by
  obtain⟨k,i,h,g,f⟩:=HL l (JM T2 M j);obtain⟨e,d,c,b,a⟩:=QjT (T2:=T2) M j;rw[jt];exact⟨k.trans e,i.trans d,h.trans c,g.trans b,f.trans a⟩
end
section
variable {M:Qn}{T2:List Ql}(I:QA M)(I2:JQ T2)
include I I2
theorem QjU(a:Int):(Qi (VK M T2).N a).map (·.c)=Qw T2 a:=by
 unfold VK;rw[FZ I2.rising];by_cases h:a∈JX M.T T2;rw[Qd h];cases Qw T2 a<;>rfl;rw[Qc h];have:=λe=>h (Mw.2 e);have e:Qw M.T a=Qw T2 a:=wP this;rw[<- e,I.find]
theorem QjV{c:Ql}(d:c∈T2):Qi (VK M T2).N c.iD=some (Qy (VK M T2) c.iD)/\(Qy (VK M T2) c.iD).c=c:=by
 have a:=QjU I I2 c.iD;rw[(VF I2.rising).2 ⟨d,rfl⟩]at a;unfold Qy;cases b:Qi (VK M T2).N c.iD with
 | none=>rw[b]at a;cases a
 | some n=>
  rw[b,KM,Q5]at a;exact⟨rfl,a⟩
theorem QjW:(Xz M T2).map (·.c)=T2:=by
 unfold Xz;rw[Gt]
 conv=>rhs;rw[<- List.map_id T2]
 exact Il λc a=>(QjV I I2 a).2
theorem HM:∀id,Qi (Xz M T2) id=Qi (VK M T2).N id:=λid=>by
 have d:=uy (Xz M T2) id;rw[QjW I I2]at d;have b:=QjU I I2 id;cases a:Qi (Xz M T2) id with
 | none=>
  rw[a]at d;rw[d]at b;cases f:Qi (VK M T2).N id with
  | none=>rfl
  | some m=>rw[f]at b;cases b
 | some n=>
  have j:n∈Xz M T2:=vI a;have e:=QA.id (M:=ql M T2) a;obtain⟨c,g,rfl⟩:=Ji.1 j;obtain⟨i,h⟩:=QjV I I2 g;rw[h]at e;rw[<- e,i]
theorem UN(H:jg T2){b}(g:zM M T2 b=false)(J:∀x∈M.Lv,x.ki∈VS M)(F:∀id,∀x∈M.KT id,∃n∈VS M,x.ki∈up M.T n):QA (ql M T2):=by
 obtain⟨s,r,K,q,p⟩:=HL (T2:=T2) (JX M.T T2) { M with T:=T2 };have d:(ql M T2).T=T2:=s;have m:∀id,xT M id=true->Qw T2 id=Qw M.T id:=λid E=>by
  refine wP λe=>?_;have v:=Mw.2 (λx=>e x.symm:Qw M.T id≠Qw T2 id);unfold zM at g;rw[show (JX M.T T2).any (xT M)=true from vG.2 ⟨id,v,E⟩]at g;cases g
 have o:∀x n,n∈VS M->x∈up M.T n->xT M x=true:=λx n j i=>vG.2 ⟨n,j,by simpa using i⟩;have C:(0:Int) ∉ JX M.T T2:=λh=>by
  have f0:∀T:List Ql,JQ T->Qw T 0=none:=λT I=>by
   rw[Hf];intro c w e;have:=I.ids c w;omega
  exact Mw.1 h (by rw[f0 _ I.tree,f0 _ I2])
 refine⟨by rw[d];exact I2,by rw[d];exact H,d.symm,d.trans (QjW I I2).symm,λa y=>(aX y).elim,λid=>?_,λx hx=>?_,λid x hx=>?_,λid x hx=>?_,?_,?_⟩;show (VK M T2).ks id=true↔id=0\/∃n,Qi (Xz M T2) id=some n/\n.c.leaf=false;rw[HM I I2];unfold VK;rw[QjS,FZ I2.rising];by_cases h:id∈JX M.T T2;rw[Qd h,Qd h];have l:id≠0:=λe=>C (e▸h);cases Qw T2 id with
 | none=>simp[l]
 | some c=>simp[l,XO]
 rw[Qc h,Qc h];exact I.ks id;have f:x∈M.Lv:=by rw[<- r];exact hx
 have k:=J x f;obtain⟨n,u,_,_⟩:=lI I (Jt.1 (show x.ki∈(vz M.T).filter _ from k)).1;have t:x.ki∈up M.T x.ki:=by
  rw[fY I.tree,I.some u];exact Ky
 rw[d,m _ (o _ _ k t)];exact I.AT x f;have f:x∈M.KT id:=lK id (JX M.T T2) { M with T:=T2 } hx;obtain⟨c,j,i⟩:=I.vr id x f;obtain⟨n,B,z⟩:=F id x f;exact⟨c,by rw[d,m _ (o _ _ B z)];exact j,i⟩;exact I.wy id x (lK id (JX M.T T2) { M with T:=T2 } hx);show (VK M T2).Qe<=_;exact q▸I.Qe;show (VK M T2).acc<=_;exact p▸I.acc
end
def QA0{c:Ql}(h:KD c=0):c.leaf=true->1<=c.ZK/\c.ZK<=64/\1<=c.bytes/\c.bytes<=1048576:=by
 intro b;have a:jJ c=true:=by
  cases e:jJ c with
  | true=>rfl
  | false=>
   exfalso;unfold KD at h;rw[b,e]at h;simp only[Gp,Bool.and_true,RD,Vu]at h;split at h;omega;split at h<;>omega
 unfold jJ yr at a;simp only[ZE,Xo]at a;omega
def QA1(b)(M:Qn)(a:Int):(JM b M a).T=M.T:=by
 unfold JM;split;rfl;split<;>rfl
def Qal(a):∀(l:List Int) (M:Qn),(l.foldl (JM a) M).T=M.T
 | [],_=>rfl
 | id::l,M=>by rw[jt,Qal a l,QA1]
def QA2{S}{h}{p}{T}{A}(O:jc S h p T A)(a)(c:Ql)(j:Qw T a=some c)(i:¬ 1<QH c.ls):
  QM prog 76 h [.ptr p 0 0 0,Qa a] (λd k=>d=.tup [.nil,Qa 6]/\k=h):=by
 obtain⟨t,s,r,q,c2,o,u,v,z,m,O⟩:=O;have f:=O.o;have e:=O.m1;have b:=O.f1.at_ a;rw[wi,j]at b;simp only[Qc i]at b;refine Q7 func76 ntmps76 results76 λg w l n=>?_;have y:=Qb f;have x:=Qb e;simp only[go_sem,f,e,b]
def QjX{b}{a}:∀(l A:List Int),a∈l.foldl (wD b) A->a∈l\/a∈A
 | [],A,h=>.inr h
 | id::l,A,h=>by
  rw[jt]at h;rcases QjX l _ h with h|h;exact .inl (J8 _ h);unfold wD at h;split at h;rcases QK.1 h with h|h;exact .inl (h▸Ky);exact .inr h;exact .inr h
def QA3{l:List Int}(h:l.Nodup){k}(a:k<l.length):l.getD k 0 ∉ l.take k:=λb=>by
 rw[<- Bh k l,JK]at h;refine h.2.2 _ b (l.getD k 0) ?_ rfl;rw[QW,QJ a,RE a];exact Ky
def QA4{M:Qn}{a}(h:a∈VS M):a∈vz M.T:=by unfold VS zG at h;exact(Jt.1 h).1
def QA5{T:List Ql}(h:Ws T):(vz T).Nodup:=by
 unfold vz;have c:(T.filter (·.leaf)).Pairwise (λa b=>a.iD<b.iD):=Nw _ h;rw[List.nodup_iff_pairwise_ne,RI];exact c.imp λd=>ω
def QA6{M:Qn}(I:QA M):(VS M).Nodup:=Nw _ (QA5 I.tree.rising)
def QA7{u}{h}{p}{L}{M:Qn}(C:ZB u h p L M)(I:QA M)(K:WZ M.lk)(b)(l:List Jc)(hc:∀c∈l,Jc.Ok c)(s:l.length<1000000)
  (AZ:∀x∈M.Lv,x.ki∈VS M) (PU:∀id,∀x∈M.KT id,∃n∈VS M,x.ki∈up M.T n) :
  QM prog 44 h [.ptr p 0 0 0,QU b,FQ l] (λd h'=>∃y L' M',ZB y h' p L' M'/\QA M'/\Zu u h y h' /\
   d=.tup [Qa (yV M l),Qa (qm M b l)]/\M'=Kt M b l):=by
 have ho:=C.ob;refine Q7 func44 ntmps44 results44 λh6 w pl i=>?_;have Qr:=Qb ho;simp only[go_sem];apply Vx [10] i [0,1,2,3,4,5,6,7,8,9,1010,11,12,13,14,15,16,17] [];simp only[go_sem,ho];have hT:=Qb C.ob;refine kS i Qss (Qzz C.tr I.tree I.AS M.lk.t K.t1 K.t2 l hc s) λd h1 P=>?_;obtain⟨t2,rfl,c3,g,rfl⟩:=P;obtain⟨Jx,MI⟩:∃o,o=Q3 u h .tree:=⟨_,rfl⟩;have C1:ZB Jx (h++g) p L M:=by rw[MI];exact C.step λl s _=>⟨Kp s,QE s⟩
 have D1:Zu u h Jx (h++g):=by rw[MI];exact Zu.app u h g .tree
 apply Zp i;by_cases R:Yq M.T M.lk.t l=0;case neg=>
  have dE:(Yq M.T M.lk.t l != 0)=true:=by simpa using R
  have J:qm M b l=Yq M.T M.lk.t l:=by unfold qm;rw[Qd R]
  have e2:yV M l=DJ M.T l:=by unfold yV;rw[Qd R]
  have e3:Kt M b l=M:=by unfold Kt;rw[J,Qc R]
  simp only[go_sem,dE];exact⟨Jx,L,M,C1,I,D1,by rw[J,e2],e3.symm⟩
 have dE:(Yq M.T M.lk.t l != 0)=false:=by simpa using R
 have KN:DJ M.T l=0\/True:=.inr trivial;have R2:WD (λl=>Jx l=.tree) (h++g) t2 (Je M.T l):=(c3 R).step λl _ h1=>⟨by rw[MI];unfold Q3;rw[Qd h1],rfl⟩;obtain⟨f,DO⟩:∃f,f=Je M.T l:=⟨_,rfl⟩;rw[<- DO]at R2;obtain⟨Z,K2⟩:=Ur I.tree I.AS hc;rw[<- DO]at Z K2;have ZZ:=C1.ob;have MB:=Qb ZZ;have h5:=I.tree.len;have UD:=Z.len;simp only[go_sem,dE,ZZ,Qd R];have R1:=C1.tr.toR;have UP:(JX M.T f).length<1000000:=by have:=QAW M.T f;omega
 apply Zz i Qfc (Qi1 R1 R2.toR ω ω);refine EV Vd i 2 ?_;simp only[go_sem];first|refine qA ?_|skip
 refine iq (λst=>zM M f b=false/\st=⟨[(0,.ptr p 0 0 0),(1,QU b),(6,Qa 0),(7,Qa 0),(8,.ptr t2 0 0 0),(11,ints (JX M.T f))],h++g⟩) ?_ ?_;apply Qg i;refine p9 i SN (Qai (h++g) (JX M.T f) UP (.clo 71 1 [.ptr p 0 0 0]) 71 1 [.ptr p 0 0 0] Qst rfl (xT M) (λh' n hm hx=>?_)) λd P=>?_;have b9:∀(l:Nat) (o:Ob),((h++g).map Ob.ro)[l]?=some o->(h'.map Ob.ro)[l]?=some o:=λl o e=>by
  obtain⟨g2,rfl⟩:=hx;have e2:=Z4 ((QE (Qb e)).trans e:((h++g).map Ob.ro++g2)[l]?=some o);rw[e2];rw[KL]at e;obtain⟨o2,h2,rfl⟩:=VT.1 e;rw[ro_ro]
 exact QAJ (C1.ro.more b9) I n;subst P;rw[fV];apply Qh i;obtain⟨y,j6⟩:∃o,o=Jx:=⟨_,rfl⟩;have a4:zM M f b=true->∃y L' M',ZB y (h++g) p L' M'/\QA M'/\Zu u h y (h++g)/\D.tup [Qa 0,Qa 24]=.tup [Qa (yV M l),Qa (qm M b l)]/\M'=Kt M b l:=λhB=>by
  have J:qm M b l=24:=by unfold qm;rw[Qc (by rw[R];simp),<- DO,Qd hB]
  have e2:yV M l=0:=by unfold yV;rw[Qc (by rw[R];simp)]
  have e3:Kt M b l=M:=by unfold Kt;rw[J];rfl
  exact⟨Jx,L,M,C1,I,D1,by rw[J,e2];rfl,e3.symm⟩
 cases KO:(JX M.T f).any (xT M) with
 | true=>
  simp only[go_sem];exact a4 (by unfold zM;rw[KO];rfl)
 | false=>
  simp only[go_sem,ZZ];cases BK:iP M.T f with
  | false=>
   apply Zz i pn (Qak R1 R2.toR ω ω UP);apply Qh i;simp only[go_sem,BK];refine⟨_,⟨by unfold zM;rw[KO,BK];rfl,rfl⟩,?_⟩;exact QO
  | true=>
   cases b with
   | false=>
    apply Zz i pn (Qak R1 R2.toR ω ω UP);apply Qh i;simp only[go_sem,BK];exact a4 (by unfold zM;rw[BK];simp)
   | true=>
    apply Zz i pn (Qak R1 R2.toR ω ω UP);apply Qh i;simp only[go_sem,BK];apply Zz i po (Qaj C1.ro I);apply Qg i;cases hd:decide ((0:Int)<((VS M).length:Int)) with
    | true=>
     simp only[go_sem];exact a4 (by unfold zM;rw[BK];simp;right;simpa using hd)
    | false=>
     simp only[go_sem];refine⟨_,⟨by unfold zM;rw[KO,BK];simp;simpa using hd,rfl⟩,?_⟩;exact QO
 rintro st ⟨BJ,rfl⟩;have C2:=C1.QAP R2;have D2:=D1.trans (Zu.set (own:=Jx) (h:=h++g) (l:=p) (j4 M.lk t2 L.b L.o L.v L.m M.Qe M.acc) (by rw[C1.op];decide));generalize c5:(h++g).set p (j4 M.lk t2 L.b L.o L.v L.m M.Qe M.acc)=H2 at C2 D2;have g4:(h++g).set p ⟨.one,0,9,1,λ_=>[.raw (.int .i64 M.lk.t),.raw (.int .i64 M.lk.Jb),.ptr t2 0 0 0,.mref L.b 0,.ptr L.o 0 0 0,.ptr L.v 0 0 0,.mref L.m 0,.raw (.int .u64 (M.Qe:Nat)),.raw (.int .u64 (M.acc:Nat))]⟩=H2:=c5;apply Qh i;simp only[go_sem,ZZ,g4];obtain⟨E,a7⟩:∃E,E=JX M.T f:=⟨_,rfl⟩;rw[<- a7]at UP;rw[<- a7];refine ZN (λk st=>∃U H L2,ZB U H p L2 ((E.take k).foldl (JM f) { M with T:=f })/\L2.t=t2/\Zu u h U H/\st=⟨[(0,.ptr p 0 0 0),(6,Qa 0),(7,Qa 0),(8,.ptr t2 0 0 0),(71,ints E),(72,Qa E.length),(73,Qa k)],H⟩) E.length (s0:=⟨[(0,.ptr p 0 0 0),(6,Qa 0),(7,Qa 0),(8,.ptr t2 0 0 0),(71,ints E),(72,Qa E.length),(73,Qa 0)],H2⟩) QO ⟨Jx,H2,_,C2,rfl,D2,rfl⟩ ?_;rintro k st hk ⟨U,H,L2,B,Ds,Dk,rfl⟩;by_cases Qf:k<E.length;have dk:=QS Qf;obtain⟨id,Zi⟩:∃id,id=E.getD k 0:=⟨_,rfl⟩;obtain⟨O,FT⟩:∃O,O=(E.take k).foldl (JM f) { M with T:=f }:=⟨_,rfl⟩;have Ja:(E.take (k+1)).foldl (JM f) { M with T:=f }=JM f O id:=by
  rw[zS,QJ Qf,zQ,<- FT,Zi,QW,QJ Qf];rfl
 have PV:O.T=f:=by rw[FT];exact Qal _ _ _
 rw[<- FT]at B;have QQ:=Jr (show k<4611686018427387904 from ω);have RT:Xu H t2 f:=by have:=B.tr.toR;rwa [Ds,PV]at this
 obtain⟨x,hx⟩:∃x,x=(Qw f id).getD default:=⟨_,rfl⟩;have q8:=OY RT id;rw[<- hx]at q8;have VN:=B.ob;have FV:=Qb VN;have zX:=B.VY;have g3:=Qb zX;have Y6:=B.Wi;have rn:=Qb Y6;have NV:L2.b≠L2.m:=λe=>by have:=B.ow;rw[e,B.om]at this;cases this
 have qC:L2.b≠p:=λe=>by have:=B.ow;rw[e,B.op]at this;cases this
 have i1:L2.m≠p:=λe=>by have:=B.om;rw[e,B.op]at this;cases this
 apply Qh i;simp only[go_sem,Qf,<- Zi];apply Zz i vX q8;apply Qh i;simp only[go_sem,Qj,VN,FV,zX,g3,Y6,rn,Qp NV,Qp qC];have C3:=B.QAR id;have D3:=Dk.trans (Zu.set (own:=U) (h:=H) (l:=L2.b) (QR .i64 L2.cb (JV L2.eb id)) (by rw[B.ow];decide));have C4:=C3.QAS id;have D4:=D3.trans (Zu.set (own:=U) (h:=H.set L2.b (QR .i64 L2.cb (JV L2.eb id))) (l:=L2.m) (QR .i64 L2.cm (JV L2.em id)) (by rw[B.om];decide));have C5:=C4.PC [⟨.one,0,14,1,λ_=>x.cells⟩];have D5:=D4.trans (Zu.app U _ [⟨.one,0,14,1,λ_=>x.cells⟩] .no);have vh:((H.set L2.b (QR .i64 L2.cb (JV L2.eb id))).set L2.m (QR .i64 L2.cm (JV L2.em id))).length=H.length:=σ;generalize b3:(H.set L2.b (QR .i64 L2.cb (JV L2.eb id))).set L2.m (QR .i64 L2.cm (JV L2.em id))++[⟨.one,0,14,1,λ_=>x.cells⟩]=r at C5 D5;have a6:=b3;simp only[go_sem]at a6;have UQ:r[H.length]?=some ⟨.one,0,14,1,λ_=>x.cells⟩:=by rw[<- b3,<- vh,Vc rfl];rfl
 have g1:=Qb UQ;generalize Q3 U ((H.set L2.b (QR .i64 L2.cb (JV L2.eb id))).set L2.m (QR .i64 L2.cm (JV L2.em id))) .no=AV at C5 D5;have DN:=C5.ob;have uQ:=Qb DN;have UG:=C5.VY;have u7:=Qb UG;have c0:=C5.Wi;have j5:=Qb c0;cases hf:Qw f id with
 | none=>
  have J:JM f O id={ O with N:=jj O.N id,ks:=λj=>if j=id then false else O.ks j }:=by unfold JM;rw[hf]
  have h0:ZB AV r p { L2 with eb:=JV L2.eb id,em:=JV L2.em id } (JM f O id):=by rw[J];exact C5
  rw[hf]at q8;simp only[go_sem,Es,a6];exact⟨Qf,_,Qo.frame (by simp only[go_sem,QQ]),AV,r,{ L2 with eb:=JV L2.eb id,em:=JV L2.em id },(by rw[Ja];exact h0),Ds,D5,rfl⟩
 | some c=>
  have fC:x=c:=by rw[hx,hf];rfl
  obtain⟨WC,lJ⟩:=(VF Z.rising).1 hf;subst fC;have TX:=QA0 (Z.right x WC);have Yh:=QAV r x TX;simp only[go_sem,Ab,a6];apply Qv i [0,1,2,3,4,5,1006,1007];simp only[go_sem,DN,UQ];refine SM i Qsu rfl ?_ Yh rfl λd Y P=>?_;simp only[go_sem];obtain⟨rfl,g8,lq,c1,j3,Pn,g0⟩:=P;obtain rfl:Y=g8:=List.append_cancel_left c1;subst lJ;obtain⟨F,a5⟩:∃o:Nat->Tag,o=λl=>if l<r.length then AV l else if l=r.length then .no else if l=r.length+1 then .xy x.iD else .qJ x.iD:=⟨_,rfl⟩;have w7:∀l,l<r.length->F l=AV l:=λl s=>by rw[a5];exact Qd s
  have we:F (r.length+1)=.xy x.iD:=by rw[a5];dsimp only;rw[Qc ω,Qc ω,Qd rfl]
  have wq:∀l,r.length+2<=l->F l=.qJ x.iD:=λl s=>by rw[a5];dsimp only;rw[Qc ω,Qc ω,Qc ω]
  have C7:=C5.step (own':=F) (h':=r++Y) λl s _=>⟨w7 l s,QE s⟩;have D7:Zu u h F (r++Y):=D5.trans ⟨w7,λl s _=>QE s,σ⟩;obtain⟨c8,c7,i2,C8⟩:=C7.QAU (n:=XO x) (e:=r.length+1) (q:=lq) (by dsimp only;rw[Cy];exact Qd rfl) Pn we (λW=>by
   obtain⟨k8,UR,uE⟩:=g0 W;exact⟨k8,UR,uE.step λl _ s=>⟨wq l s,rfl⟩⟩) (QjR (K2 x WC))
  obtain⟨M8,a1⟩:∃M8,M8={ O with N:=XO x::jj O.N x.iD,ks:=λj=>if j=x.iD then false else O.ks j }:=⟨_,rfl⟩;obtain⟨v,a2⟩:∃v:Loc,v={ L2 with em:=JV L2.em x.iD,cb:=c8,eb:=c7,le:=λj=>if j=x.iD then r.length+1 else L2.le j,lq:=λj=>if j=x.iD then lq else L2.lq j }:=⟨_,rfl⟩;have C8:ZB F ((r++Y).set L2.b (J1 .i64 L2.cb (JV L2.eb x.iD) x.iD (.ptr (r.length+1) 0 0 0))) p v M8:=by rw[a2,a1];exact C8
  have b1:v.t=t2:=by rw[a2];exact Ds
  have i0:v.m=L2.m:=by rw[a2]
  have D8:=D7.trans (Zu.set (own:=F) (h:=r++Y) (l:=L2.b) (J1 .i64 L2.cb (JV L2.eb x.iD) x.iD (.ptr (r.length+1) 0 0 0)) (by rw[C7.ow];decide));have eH:(r++Y).set L2.b (J1 .i64 L2.cb (JV L2.eb x.iD) x.iD (.ptr (r.length+1) 0 0 0))=r.set L2.b (J1 .i64 L2.cb (JV L2.eb x.iD) x.iD (.ptr (r.length+1) 0 0 0))++Y:=bc _ _ u7;have e9:L2.b≠H.length:=λe=>by
   have h1:=Qb B.VY;omega
  have US:((r++Y).set L2.b (J1 .i64 L2.cb (JV L2.eb x.iD) x.iD (.ptr (r.length+1) 0 0 0)))[H.length]?=some ⟨.one,0,14,1,λ_=>x.cells⟩:=(Qp e9).trans ((QE g1).trans UQ);rw[eH]at US C8 D8;generalize c4:r.set L2.b (J1 .i64 L2.cb (JV L2.eb x.iD) x.iD (.ptr (r.length+1) 0 0 0))++Y=m at US C8 D8;have j2:=Qb US;have b2:=C8.ob;have j1:=Qb b2;have b8:=C8.Wi;have b7:=Qb b8;apply ZT i;simp only[go_sem,Qj,UG,u7,c4];cases W:x.leaf with
  | true=>
   simp only[go_sem,US,W];have J:JM f O x.iD=M8:=by unfold JM;rw[hf,a1];dsimp only;rw[Qd W]
   exact⟨Qf,_,Qo.frame (by simp only[go_sem,QQ]),F,m,v,(by rw[Ja,J];exact C8),b1,D8,rfl⟩
  | false=>
   simp only[go_sem,US,W];have C9:=C8.step (own':=Q3 F m (.X2 x.iD)) (h':=m++yT m.length) λl s _=>⟨Kp s,QE s⟩;have D9:Zu u h (Q3 F m (.X2 x.iD)) (m++yT m.length):=D8.trans (Zu.app F m (yT m.length) (.X2 x.iD));have un:∀l,m.length<=l->Q3 F m (.X2 x.iD) l=.X2 x.iD:=λl s=>by unfold Q3;rw[Qd s]
   obtain⟨e0,e8,j0,yN⟩:=C9.QAT x.iD (k:=m.length+2) (Qae (S:=λl=>Q3 F m (.X2 x.iD) l=.X2 x.iD) (by rw[Vc rfl];rfl) (by rw[VD (k:=1) rfl];rfl) (by rw[VD (k:=2) rfl];rfl) (un _ ω) (un _ ω) (un _ ω));have HE:=D9.trans (Zu.set (own:=Q3 F m (.X2 x.iD)) (h:=m++yT m.length) (l:=v.m) (J1 .i64 v.cm v.em x.iD (.ptr (m.length+2) 0 0 0)) (by rw[C9.om];decide));have c9:(m++yT m.length).set v.m (J1 .i64 v.cm v.em x.iD (.ptr (m.length+2) 0 0 0))=m.set v.m (J1 .i64 v.cm v.em x.iD (.ptr (m.length+2) 0 0 0))++yT m.length:=bc _ _ b7;rw[c9]at yN HE;generalize e7:m.set v.m (J1 .i64 v.cm v.em x.iD (.ptr (m.length+2) 0 0 0))++yT m.length=g5 at yN HE;apply Qv i [0,1,2,3,4,1005,1006];simp only[go_sem,b2];refine SM i Qe9 rfl ?_ (QjJ m) rfl λd g9 P=>?_;simp only[go_sem];obtain⟨rfl,rfl⟩:=P;apply ZT i;simp only[go_sem,Qj,b8,b7,e7];have J:JM f O x.iD={ M8 with ks:=λj=>if j=x.iD then true else M8.ks j,KT:=λj=>if j=x.iD then [] else M8.KT j }:=by
    unfold JM;rw[hf,a1];dsimp only;rw[Qc (by rw[W];exact CL)];congr 1;funext j;by_cases e:j=x.iD;rw[Qd e,Qd e];rw[Qc e,Qc e,Qc e]
   exact⟨Qf,_,Qo.frame (by simp only[go_sem,QQ]),Q3 F m (.X2 x.iD),g5,{ v with cm:=e0,em:=e8,lk:=λj=>if j=x.iD then m.length+2 else v.lk j },(by rw[Ja,J];exact yN),b1,HE,rfl⟩
 have ZJ:k=E.length:=ω;subst ZJ;have lL:(E.take E.length).foldl (JM f) { M with T:=f }=VK M f:=by rw[Wn,a7];rfl
 rw[lL]at B;have PV:(VK M f).T=f:=Qal _ _ _;have RT:Xu H t2 f:=by have:=B.tr.toR;rwa [Ds,PV]at this
 have dk:decide (E.length<E.length)=false:=QG ω;apply Qh i;simp only[go_sem,dk];apply Qg i;refine ZL i Qfa (QgZ RT Z) λd NN P=>?_;obtain⟨rfl,hO,Q,rfl⟩:=P;have b0:=B.step (own':=Q3 U H .on) (h':=H++Q) λl s _=>⟨Kp s,QE s⟩;have g6:=Dk.trans (Zu.app U H Q .on);have EK:jc (λl=>Q3 U H .on l=.on) (H++Q) (H.length+3) f []:=hO.step λl _ s=>⟨by unfold Q3;rw[Qd s],rfl⟩;have h3:=b0.QAQ EK;have UT:=g6.trans (Zu.set (own:=Q3 U H .on) (h:=H++Q) (l:=p) (j4 (VK M f).lk L2.t L2.b (H.length+3) L2.v L2.m (VK M f).Qe (VK M f).acc) (by rw[b0.op];decide));have PW:ZB _ _ p { L2 with o:=H.length+3 } (ql M f):=h3.congrN (N:=Xz M f) (HM I Z);have PX:QA (ql M f):=UN I Z K2 BJ AZ PU;have UU:=b0.ob;have i8:=Qb UU;generalize zH:(VK M f).lk=a0 at PW UT UU;generalize i3:(VK M f).Qe=b6 at PW UT UU;generalize k0:(VK M f).acc=b5 at PW UT UU;generalize e6:(H++Q).set p (j4 a0 L2.t L2.b (H.length+3) L2.v L2.m b6 b5)=a8 at PW UT;have e5:(H++Q).set p ⟨.one,0,9,1,λ_=>[.raw (.int .i64 a0.t),.raw (.int .i64 a0.Jb),.ptr L2.t 0 0 0,.mref L2.b 0,.ptr (H.length+3) 0 0 0,.ptr L2.v 0 0 0,.mref L2.m 0,.raw (.int .u64 (b6:Nat)),.raw (.int .u64 (b5:Nat))]⟩=a8:=e6;apply Qh i;simp only[go_sem,UU,e5];apply Zz i po (Qaj PW.ro PX);apply Qg i;obtain⟨z,YB⟩:∃z,z=VS (ql M f):=⟨_,rfl⟩;have j7:z.length<=64:=by rw[YB];exact QjN PX
 rw[<- YB];refine ZN (λk st=>∃AW H3,ZB AW H3 p { L2 with o:=H.length+3 } { ql M f with A:=(z.take k).foldl (wD f) [] }/\QA { ql M f with A:=(z.take k).foldl (wD f) [] }/\Zu u h AW H3/\st=⟨[(0,.ptr p 0 0 0),(6,Qa 0),(7,Qa 0),(122,ints z),(123,Qa z.length),(124,Qa k)],H3⟩) z.length (s0:=⟨[(0,.ptr p 0 0 0),(6,Qa 0),(7,Qa 0),(122,ints z),(123,Qa z.length),(124,Qa 0)],a8⟩) QO ⟨_,a8,PW,PX,UT,rfl⟩ ?_;rintro k st hk ⟨AW,H3,HN,MK,a9,rfl⟩;by_cases qH:k<z.length;have b4:=QS qH;obtain⟨id,Zi⟩:∃id,id=z.getD k 0:=⟨_,rfl⟩;have QQ:=Jr (show k<4611686018427387904 from ω);obtain⟨V,a3⟩:∃V,V=(z.take k).foldl (wD f) []:=⟨_,rfl⟩;have Ja:(z.take (k+1)).foldl (wD f) []=wD f V id:=by
  rw[zS,QJ qH,zQ,<- a3,Zi,QW,QJ qH];rfl
 rw[<- a3]at HN MK;have e4:id∈VS (ql M f):=by rw[<- YB,Zi];exact lH qH
 obtain⟨nd,hn,W,oJ⟩:=lI PX (id:=id) (QA4 e4);have Wu:Qw f id=some nd.c:=by have:=PX.some hn;rwa [show (ql M f).T=f from PV]at this
 have zB:wD f V id=if 1<QH nd.c.ls then id::V else V:=by unfold wD;rw[Wu];rfl
 have ZP:Jm f V id=false:=by
  rw[X9];intro h9;have h8:=(lg Z Wu W V).1 h9;rw[a3]at h8;rcases QjX _ _ h8 with h7|h7;have Z9:z.Nodup:=by rw[YB];exact QA6 PX
  rw[Zi]at h7;exact QA3 Z9 qH h7;cases h7
 have Ys:=HN.ob;have ME:=Qb Ys;apply Qh i;simp only[go_sem,qH,<- Zi,Ys];by_cases hs:1<QH nd.c.ls;rw[Qd hs]at zB;refine ZL i pq (QgU HN.qL Z (by have:=MK.Xk;rwa [show ({ ql M f with A:=V }:Qn).T=f from PV]at this) id nd.c Wu W hs ZP) λd h4 P=>?_;obtain⟨d1,rfl,BP,O4,s4⟩:=P;have C4:=HN.act O4 s4;have I4:QA { ql M f with A:=id::V }:=MK.act (λa ha=>by
  rcases QK.1 ha with e|e;exact⟨nd.c,by rw[e,show ({ ql M f with A:=V }:Qn).T=f from PV];exact Wu,W,hs⟩;exact MK.Xk a e)
 have D4:=a9.trans (Zu.of (t:=.on) σ s4);apply Qg i;exact⟨qH,_,Qo.frame (by simp only[go_sem,QQ]),_,h4,by rw[Ja,zB];exact C4,by rw[Ja,zB];exact I4,D4,rfl⟩;rw[Qc hs]at zB;refine ZL i pq (QA2 HN.qL id nd.c Wu hs) λd h4 P=>?_;obtain⟨rfl,rfl⟩:=P;apply Qg i;exact⟨qH,_,Qo.frame (by simp only[go_sem,QQ]),AW,h4,by rw[Ja,zB];exact HN,by rw[Ja,zB];exact MK,a9,rfl⟩;have GU:k=z.length:=ω;subst GU;have b4:decide (z.length<z.length)=false:=QG ω;have J:qm M b l=0:=by unfold qm;rw[Qc (by rw[R];simp),<- DO,Qc (by rw[BJ];exact CL)]
 have e2:yV M l=0:=by unfold yV;rw[Qc (by rw[R];simp)]
 have e3:Kt M b l={ ql M f with A:=z.foldl (wD f) [] }:=by unfold Kt;rw[Qd J,<- DO,YB];rfl
 rw[Wn,<- e3]at HN MK;apply Qh i;simp only[go_sem,b4];apply Qg i;exact⟨AW,_,_,HN,MK,a9,by rw[J,e2];rfl,rfl⟩
section
variable {h:List Ob}{p:Nat}{L:Loc}{M:Qn}(C:wC h p L M)
include C
def UW(L:List It):Nat:=match L.head? with
 | some x=>min x.ka never
 | none=>never
def jk(M:Qn):Nat:=min (UW M.Lv) (B8 (M.KT 0))
theorem Qj7(I:QA M):Zf prog 123 h [.ptr p 0 0 0] (λd=>d=u64 (jk M)):=by
 have b:=C.ob;have c:=C.Wi;have f:M.ks 0=true:=(I.ks 0).2 (.inl rfl);have g:=C.X4.at_ 0;rw[Qd f]at g;have k:=C.kids 0 f;refine ZH func123 ntmps123 results123 λi w l F e n a=>?_;rw[<- e]at b c;have o:=Qb b;have m:=Qb c;simp only[go_sem];apply Qv a [0,1,2,3,5,6,7,8,9,1004,1010,11,12];simp only[go_sem,b,c,g];have j:Zf prog 162 F [.ptr L.v 0 0 0] (λd=>d=u64 (UW M.Lv)):=QvS (C.X3.more (Vz e));apply KQ a Qtn j;apply Zp a;apply KQ a Qfo (Qg4 (k.more (Vz e)) (I.wy 0));apply Zp a;refine⟨[],(JS F).symm,?_⟩;unfold jk;rw[Nat.min_def,Int.min_def];congr 2;split<;>split<;>omega
end
end Go.Fg.X
namespace Go.Fg.X
open Go.Proofs Go.Fg
open Go.Proofs.Tryz
def pks(l:List Pk):D:=.imm 6 l.length (Pk.rows l)
def QJC(n:Nat)(H:List Ob)(d:D)(L:List Pk):Prop:=(d=.nil/\L=[])\/∃b g a,d=.ref b g 0 L.length/\n<=b/\H[b]?=some ⟨.arr,g,6,L.length,a⟩/\∀i,i<L.length->a i=(L.getD i default).cells
end Go.Fg.X
namespace Go.Fg.X
open Go.Proofs Go.Fg
open Go.Proofs.Tryz
def lnI(M:Qn)(a:Int):Nat:=(Qy M a).q.l.length
def byI(M:Qn)(a:Int):Nat:=XZ (Qy M a).q.l
def Qj8(f:Int->Nat)(l:List Int):Nat:=(l.map f).sum
structure QJD (p m c:Nat) (es:List ZC) (M:Qn) (F:List Ob) (n:Nat) (s:St):Prop where
 ex:∃seen out H,yp es seen=n/\VG F H/\out.Perm ((es.filter λe=>seen.contains e.b&&true).map (·.k))/\H[F.length]?=some (Yg m c c seen) /\
  s=⟨[(0,.ptr p 0 0 0),(4,Qa (Qj8 (lnI M) out)),(5,Qa (Qj8 (byI M) out)),(14,.mref F.length 0)],H⟩
structure Good (M:Qn):Prop where
 lv:∀x∈M.Lv,∃n,Qi M.N x.ki=some n/\n.c.leaf=true/\n.q.l≠[]
 kt:∀id,∀x∈M.KT id,Kq M x.ki=true
 act:∀id,id∈M.A↔∃n,Qi M.N id=some n/\n.c.leaf=true/\n.q.l≠[]/\1<QH n.c.ls
section
variable {M:Qn}(I:QA M)(G:Good M)
include I G
theorem Good.Qj9{a}{n:Nd}(b:Qi M.N a=some n)(e:n.c.leaf=true)(d:n.q.l≠[]):a∈VS M:=by
 have f:=I.some b;obtain⟨h,g⟩:=(VF I.tree.rising).1 f;refine Jt.2 ⟨Ji.2 ⟨n.c,Jt.2 ⟨h,e⟩,g⟩,?_⟩;unfold FY Qy;rw[b];cases c:n.q.l with
 | nil=>exact absurd c d
 | cons x l=>simp[c]
theorem Good.hA(a):∀n,Qi M.N a=some n->n.c.leaf=true->n.q.l=[]->a ∉ M.A:=λn d g c e=>by
 obtain⟨m,b,_,f,_⟩:=(G.act a).1 e;rw[d]at b;cases b;exact f c
theorem Good.AZ:∀x∈M.Lv,x.ki∈VS M:=λx hx=>by
 obtain⟨n,c,b,a⟩:=G.lv x hx;exact Good.Qj9 I G c b a
theorem Good.PU:∀id,∀x∈M.KT id,∃n∈VS M,x.ki∈up M.T n:=λid x hx=>by
 obtain⟨a,c,b⟩:=Yj.1 (G.kt id x hx);obtain⟨n,f,e,d,_⟩:=(G.act a).1 c;exact⟨a,Good.Qj9 I G f e d,b⟩
theorem Good.leaf{a}{n:Nd}(b:Qi M.N a=some n)(e:n.c.leaf=true)(f:Kq M a=true):n.q.l≠[]/\a∈M.A:=by
 have d:=(lg I.tree (I.some b) e M.A).1 f;obtain⟨m,c,_,g,_⟩:=(G.act a).1 d;rw[b]at c;cases c;exact⟨g,d⟩
theorem Good.share(a):∀k p id,xP M a k p=some id->∃n,Qi M.N id=some n/\n.c.leaf=true/\Kq M id=true
 | 0,_,_,h=>by cases h
 | k+1,p,id,h=>by
  unfold xP at h;cases d:firstM M a p with
  | none=>rw[d]at h;cases h
  | some x=>
   rw[d]at h;dsimp only at h;have f:x∈M.KT p:=vI d;split at h;rename_i c;cases h;have b:=I.uz p x f;rw[I.find]at b;cases e:Qi M.N x.ki with
   | none=>rw[e]at b;cases b
   | some n=>exact⟨n,rfl,by unfold Qy at c;rw[e]at c;exact c,G.kt p x f⟩
   exact Good.share a k x.ki id h
theorem Good.uV(a):∀o id r,xQ M a o->Vj M a o=some (id,r)->∃n,Qi M.N id=some n/\n.c.leaf=true/\n.q.l≠[]/\(1<QH n.c.ls->id∈M.A):=λo id r g d=>by
 cases o with
 | some x=>
  simp only[Vj,Q5,Q9]at d;obtain⟨rfl,rfl⟩:=d;have hx:x∈M.Lv:=(Jt.1 g.1).1;obtain⟨n,c,b,e⟩:=G.lv x hx;exact⟨n,c,b,e,λf=>(G.act x.ki).2 ⟨n,c,b,e,f⟩⟩
 | none=>
  simp only[Vj,VT]at d;obtain⟨i,h,j⟩:=d;cases j;obtain⟨n,c,b,e⟩:=Good.share I G a 17 0 _ h;obtain⟨f,k⟩:=Good.leaf I G c b e;exact⟨n,c,b,f,λ_=>k⟩
omit I in
end
end Go.Fg.X
namespace Go.Fg.X
open Go.Proofs Go.Fg
open Go.Proofs.Tryz
def qP(M:Qn)(p:Int)(x:It):Prop:=∃n,Qi M.N x.ki=some n/\n.c.parent=p/\Kq M x.ki=true/\x=⟨n.sh.time,x.ki,X5 M x.ki n,x.ki⟩
def Cz(M:Qn)(x:It):Prop:=∃n,Qi M.N x.ki=some n/\n.c.leaf=true/\n.q.l≠[]/\1<QH n.c.rt/\x=⟨n.du.Yp,x.ki,n.du.dead,x.ki⟩
def DU(M:Qn):Prop:=∀x,x∈M.Lv↔Cz M x
def PY(M:Qn):Prop:=∀p x,x∈M.KT p↔qP M p x
def HO(M:Qn):Prop:=∀id,id∈M.A↔∃n,Qi M.N id=some n/\n.c.leaf=true/\n.q.l≠[]/\1<QH n.c.ls
def DV(M:Qn):Prop:=∀id n,Qi M.N id=some n->n.c.leaf=false->n.q=⟨[],0,0,0,0,0,0⟩
def V0(M:Qn):Prop:=∀id n,Qi M.N id=some n->n.Ok
def F0(M:Qn):Prop:=Vm M.Lv/\∀p,Vm (M.KT p)
structure Inv (M:Qn):Prop where
 lv:DU M
 kt:PY M
 act:HO M
 A3:DV M
 qQ:F0 M
 ok:V0 M
def Inv.CA{M}(V:Inv M):Good M:=
 ⟨λx hx=>by
  obtain⟨n,c,b,a,_⟩:=(V.lv x).1 hx;exact⟨n,c,b,a⟩,λp x hx=>by
  obtain⟨n,_,_,h,_⟩:=(V.kt p x).1 hx;exact h,V.act⟩
def Qka(c):Inv (M0 c):=by
 refine⟨λx=>?_,λp x=>?_,λid=>by simp[M0,Qi],λid n h=>by simp[M0,Qi]at h,⟨by simp[M0,Vm],λp=>by simp[M0,Vm]⟩,λid n h=>by simp[M0,Qi]at h⟩;simp[M0,Cz,Qi];simp[M0,qP,Qi]
def QBu{a}{i}{L}(h:∀x∈L,x.ki≠i):YJ a i L=none:=by
 unfold YJ;rw[js];intro x hx b;exact h x hx (xD.1 b).2
def Qay{a}{L}(h:Vm L):Vm (Vn a L):=Nw _ h
def UX{a}{L}{x:It}:x∈Vn a L↔x∈L/\x.ki≠a:=by simp[Vn]
def lM{c}{a b}{L}(h:Vm L):Vm (Ym c a b L):=
 rH (Qay h) (QBu λx hx=>(UX.1 hx).2)
def HP{c}{a b}{L}{x:It}:x∈Ym c a b L↔x=⟨a,c,b,c⟩\/(x∈L/\x.ki≠c):=by
 unfold Ym;rw[Hn,UX]
structure Part (M:Qn) (U:List Int):Prop where
 lv:DU M
 kt:∀p x,x.ki ∉ U->(x∈M.KT p↔qP M p x)
 ka:∀p x,x∈M.KT p->x.ki∈U->Kq M x.ki=true
 act:HO M
 A3:DV M
 qQ:F0 M
 ok:V0 M
def QBv{M}{a j:Int}{m}(h:(Qy M a).c.parent≠j):X5 (VA M a) j m=X5 M j m:=by
 have f:Kq (VA M a) j=Kq M j:=by
  obtain⟨_,c,_,b,_⟩:=PF M a;unfold Kq;rw[c,b]
 unfold X5;rw[f];have d:(VA M a).KT j=M.KT j:=by
  unfold VA;split;dsimp only;rw[Qc (λe=>h e.symm)];rfl
 rw[d]
def Part.step{M:Qn}(I:QA M){a}{n:Nd}(o:Qi M.N a=some n)(V:Part M (a::up M.T n.c.parent)):Part (VA M a) (up M.T n.c.parent):=by
 obtain⟨i,B,P,v,u,O,N,L,K⟩:=PF M a;have w:Qy M a=n:=by unfold Qy;rw[o];rfl
 have s:∀j,Kq (VA M a) j=Kq M j:=λj=>by unfold Kq;rw[B,v]
 have y:=I.some o;have F:a ∉ up M.T n.c.parent:=by
  have:=Fi I.tree a;rw[Vf I.tree y,ZV]at this;exact this.1
 have z:∀j m,Qi M.N j=some m->j ∉ up M.T n.c.parent->X5 (VA M a) j m=X5 M j m:=λj m C E=>QBv λe=>by
  rw[w]at e;refine E ?_;rw[e];exact XJ I.tree (I.some C)
 have t:∀p x,x.ki ∉ up M.T n.c.parent->(qP (VA M a) p x↔qP M p x):=λp x hx=>by
  unfold qP;rw[i];constructor;rintro⟨m,b,f,g,l⟩;exact⟨m,b,f,by rw[<- s];exact g,by rw[<- z _ m b hx];exact l⟩;rintro⟨m,b,f,g,l⟩;exact⟨m,b,f,by rw[s];exact g,by rw[z _ m b hx];exact l⟩
 have H:∀p x,x∈M.KT p->x.ki=a->n.c.parent=p:=λp x hx e=>by
  obtain⟨c,b,f⟩:=I.vr p x hx;rw[e,y]at b;cases b;exact f
 refine⟨?_,λp x hx=>?_,λp x hx q=>?_,?_,?_,?_,by unfold V0;rw[i];exact V.ok⟩;intro x;unfold Cz;rw[i,u];exact V.lv x;rw[t p x hx];by_cases e:x.ki=a;cases k:Kq M a with
 | true=>
  have r:(VA M a).KT=λj=>if j=n.c.parent then Ym a n.sh.time (X5 M a n) (M.KT n.c.parent) else M.KT j:=by
   unfold VA;rw[Qd k,w]
  rw[r];dsimp only;split;rename_i d;subst d;rw[HP];unfold qP;rw[e,o];constructor;rintro (h|h);exact⟨n,rfl,rfl,k,h⟩;exact absurd rfl h.2;rintro⟨m,b,_,_,l⟩;cases b;exact .inl l;rename_i d;constructor;intro h;exact absurd (H p x h e).symm d;rintro⟨m,b,f,_⟩;rw[e,o]at b;cases b;exact absurd f.symm d
 | false=>
  have r:VA M a=M:=by unfold VA;rw[Qc (by rw[k];exact CL)]
  rw[r];constructor;intro h;have:=V.ka p x h (by rw[e];exact Ky);rw[e,k]at this;cases this;rintro⟨m,_,_,g,_⟩;rw[e,k]at g;cases g
 have q:x.ki ∉ a::up M.T n.c.parent:=λh=>(QK.1 h).elim e hx;rw[<- V.kt p x q];unfold VA;split;dsimp only;split;rename_i d;rw[HP,d];constructor;rintro (h|h);exact absurd (congrArg It.ki h) e;exact h.1;intro h;exact .inr ⟨h,e⟩;exact Iff.rfl;exact Iff.rfl;rw[s];have J:x.ki≠a:=λe=>F (e▸q);refine V.ka p x ?_ (J8 _ q);unfold VA at hx;split at hx;dsimp only at hx;split at hx;rename_i d;rcases HP.1 hx with h|h;exact absurd (congrArg It.ki h) J;rw[d];exact h.1;exact hx;exact hx;intro j;rw[i,v];exact V.act j;unfold DV;rw[i];exact V.A3;refine⟨by rw[u];exact V.qQ.1,λp=>?_⟩;unfold VA;split;dsimp only;split;exact lM (V.qQ.2 _);exact V.qQ.2 p;exact V.qQ.2 p
def Part.settle:∀(k:Nat) {M:Qn} (id:Int),QA M->(up M.T id).length=k->Part M (up M.T id)->Inv (Wl M (up M.T id)):=by
 intro k;induction k with
 | zero=>
  intro M id I a V;have e:=El.1 a;rw[e]at V ⊢;exact⟨V.lv,λp x=>V.kt p x σ,V.act,V.A3,V.qQ,V.ok⟩
 | succ k h=>
  intro M id I a V;cases d:Qw M.T id with
  | none=>rw[Dw I.tree d]at a;cases a
  | some c=>
   obtain⟨n,b,rfl⟩:=I.PD d;have e:=Vf I.tree d;rw[e]at a V ⊢;obtain⟨j,f,_⟩:=PF M id;have g:=V.step I b;have i:=uA I b (V.ok _ _ b);show Inv (Wl (VA M id) (up M.T n.c.parent));rw[<- f]at g ⊢;exact h n.c.parent i (by rw[f];simpa using a) g
def DW{d:Type}{a:Nd->d}{N c:List Nd}{b:Int}(e:(Qi c b).map a=(Qi N b).map a){n:Nd}(h:Qi N b=some n):∃m,Qi c b=some m/\a m=a n:=by
 rw[h]at e;exact VT.1 e
def yW(n:Nd):Ql × Nat × Nat:=(n.c,n.sh.time,n.cp.fit)
def HQ(n:Nd):Ql × Bool × Nat × Nat:=(n.c,n.q.l.isEmpty,n.du.Yp,n.du.dead)
def yX(n:Nd):Ql × Bool:=(n.c,n.q.l.isEmpty)
def PZ{l:List Pk}:l≠[]↔l.isEmpty=false:=by cases l<;>simp
def Cz.to{M c:Qn}{x:It}(h:(Qi c.N x.ki).map HQ=(Qi M.N x.ki).map HQ):Cz M x->Cz c x:=λ⟨n,j,i,g,f,e⟩=>by
 obtain⟨m,d,a⟩:=DW h j;simp only[HQ,Q9]at a;obtain⟨b,o,l,k⟩:=a;exact⟨m,d,by rw[b];exact i,PZ.2 (by rw[o];exact PZ.1 g),by rw[b];exact f,by rw[l,k];exact e⟩
def DU.of{M a:Qn}(V:DU M)(c:a.Lv=M.Lv)(b:∀id,(Qi a.N id).map HQ=(Qi M.N id).map HQ):DU a:=λx=>by
 rw[c,V x];exact⟨Cz.to (b _),Cz.to (b _).symm⟩
def DU.at_{M a:Qn}(V:DU M){id}{m}(h:Qi a.N id=some m)(g:∀j,j≠id->(Qi a.N j).map HQ=(Qi M.N j).map HQ)
  (i:∀y:It,y.ki≠id->(y∈a.Lv↔y∈M.Lv)) (k:∀y:It,y.ki=id->(y∈a.Lv↔(m.c.leaf=true/\m.q.l≠[]/\1<QH m.c.rt/\y=⟨m.du.Yp,id,m.du.dead,id⟩))):DU a:=λx=>by
 by_cases e:x.ki=id;rw[k x e];unfold Cz;rw[e,h];constructor;rintro⟨f,d,c,b⟩;exact⟨m,rfl,f,d,c,b⟩;rintro⟨n,l,f,d,c,b⟩;cases l;exact⟨f,d,c,b⟩;rw[i x e,V x];exact⟨Cz.to (g _ e),Cz.to (g _ e).symm⟩
def HO.at_{M d:Qn}(V:HO M){id}{m}(q:Qi d.N id=some m)(k:∀j,j≠id->(Qi d.N j).map yX=(Qi M.N j).map yX)
  (s:∀j,j≠id->(j∈d.A↔j∈M.A)) (r:id∈d.A↔(m.c.leaf=true/\m.q.l≠[]/\1<QH m.c.ls)):HO d:=λj=>by
 by_cases e:j=id;subst e;rw[r,q];constructor;rintro⟨c,b,a⟩;exact⟨m,rfl,c,b,a⟩;rintro⟨g,u,c,b,a⟩;cases u;exact⟨c,b,a⟩;rw[s j e,V j];have l:∀{N f:List Nd},(Qi f j).map yX=(Qi N j).map yX->(∃n,Qi N j=some n/\n.c.leaf=true/\n.q.l≠[]/\1<QH n.c.ls)->∃n,Qi f j=some n/\n.c.leaf=true/\n.q.l≠[]/\1<QH n.c.ls:=λ{N f} h ⟨n,c,b,a,t⟩=>by
  obtain⟨g,p,i⟩:=DW h c;simp only[yX,Q9]at i;obtain⟨o,v⟩:=i;exact⟨g,p,by rw[o];exact b,PZ.2 (by rw[v];exact PZ.1 a),by rw[o];exact t⟩
 exact⟨l (k _ e),l (k _ e).symm⟩
def HO.of{M b:Qn}(V:HO M)(k:b.A=M.A)(d:∀id,(Qi b.N id).map yX=(Qi M.N id).map yX):HO b:=λj=>by
 rw[k,V j];have e:∀{N a:List Nd},(Qi a j).map yX=(Qi N j).map yX->(∃n,Qi N j=some n/\n.c.leaf=true/\n.q.l≠[]/\1<QH n.c.ls)->∃n,Qi a j=some n/\n.c.leaf=true/\n.q.l≠[]/\1<QH n.c.ls:=λ{N a} h ⟨n,p,o,m,l⟩=>by
  obtain⟨g,i,c⟩:=DW h p;simp only[yX,Q9]at c;obtain⟨f,q⟩:=c;exact⟨g,i,by rw[f];exact o,PZ.2 (by rw[q];exact PZ.1 m),by rw[f];exact l⟩
 exact⟨e (d _),e (d _).symm⟩
def QaA{M a:Qn}{j}{n m}(e:yW m=yW n)(b:Kq a j=Kq M j)(c:a.KT j=M.KT j):X5 a j m=X5 M j n:=by
 simp only[yW,Q9]at e;unfold X5;rw[b,c,e.1,e.2.2]
def qP.to{M a:Qn}{p}{x:It}(h:(Qi a.N x.ki).map yW=(Qi M.N x.ki).map yW)(c:Kq a x.ki=Kq M x.ki)(f:a.KT x.ki=M.KT x.ki):qP M p x->qP a p x:=λ⟨n,k,j,i,g⟩=>by
 obtain⟨m,d,b⟩:=DW h k;have e:=QaA b c f;simp only[yW,Q9]at b;obtain⟨o,l,q⟩:=b;exact⟨m,d,by rw[o];exact j,by rw[c];exact i,by rw[e,l];exact g⟩
def PY.part{M a:Qn}(V:PY M){U:List Int}(b:a.KT=M.KT)(c:∀j,j ∉ U->Kq a j=Kq M j)(d:∀j,j ∉ U->(Qi a.N j).map yW=(Qi M.N j).map yW):
  ∀p x,x.ki ∉ U->(x∈a.KT p↔qP a p x):=λp x hx=>by
 rw[b,V p x];exact⟨qP.to (d _ hx) (c _ hx) (by rw[b]),qP.to (d _ hx).symm (c _ hx).symm (by rw[b])⟩
def PY.of{M a:Qn}(V:PY M)(b:a.KT=M.KT)(c:∀j,Kq a j=Kq M j)(d:∀j,(Qi a.N j).map yW=(Qi M.N j).map yW):PY a:=λp x=>by
 rw[b,V p x];exact⟨qP.to (d _) (c _) (by rw[b]),qP.to (d _).symm (c _).symm (by rw[b])⟩
def QaB(n:Nd):Ql × Bool × Du × Sh × Cp:=(n.c,n.q.l.isEmpty,n.du,n.sh,n.cp)
def HS{g d:Type}{a}(f:g->d){N c}{b:Int}(e:(Qi c b).map a=(Qi N b).map a):(Qi c b).map (λn=>f (a n))=(Qi N b).map λn=>f (a n):=by
 have:=congrArg (Option.map f) e;rwa [Iw,Iw]at this
def Inv.num{M a:Qn}(V:Inv M)(c:a.Lv=M.Lv)(d:a.KT=M.KT)(h:a.T=M.T)(e:a.A=M.A)(b:∀id,(Qi a.N id).map QaB=(Qi M.N id).map QaB)(f:DV a)(g:V0 a):Inv a:=
 ⟨V.lv.of c λid=>HS (λk=>(k.1,k.2.1,k.2.2.1.Yp,k.2.2.1.dead)) (b id),V.kt.of d (λj=>by unfold Kq;rw[h,e]) λid=>HS (λk=>(k.1,k.2.2.2.1.time,k.2.2.2.2.fit)) (b id),V.act.of e λid=>HS (λk=>(k.1,k.2.1)) (b id),f,⟨by rw[c];exact V.qQ.1,λp=>by rw[d];exact V.qQ.2 p⟩,g⟩
def Inv.told{M}(V:Inv M)(a):Inv (ZU M a):=by
 unfold ZU;split;exact⟨V.lv,V.kt,V.act,V.A3,V.qQ,V.ok⟩;exact V
def Inv.acc{M}(V:Inv M)(a):Inv (j8 M a):=⟨V.lv,V.kt,V.act,V.A3,V.qQ,V.ok⟩
def xU{b:Type}{key:Nd->b}{step:Qn->Int->Qn}(a:∀M j id,(Qi (step M j).N id).map key=(Qi M.N id).map key):∀(l:List Int) (M:Qn) (id:Int),(Qi (l.foldl step M).N id).map key=(Qi M.N id).map key
 | [],M,id=>rfl
 | j::l,M,id=>(xU a l (step M j) id).trans (a M j id)
def ML{a}(b:∀M j id,id≠j->Qi (a M j).N id=Qi M.N id):∀(l:List Int) (M:Qn) (id:Int),id ∉ l->Qi (l.foldl a M).N id=Qi M.N id
 | [],M,id,_=>rfl
 | j::l,M,id,h=>by
  rw[QK,qx]at h;exact(ML b l (a M j) id h.2).trans (b M j id h.1)
def MM{c:Type}{a:Nd->c}{N:List Nd}{j:Int}{f:Nd->Nd}(e:∀n,(f n).c=n.c)(d:∀n,a (f n)=a n)(b:Int):(Qi (Wj N j f) b).map a=(Qi N b).map a:=by
 rw[zI (λn=>by rw[e])];split;rw[Iw];congr 1;funext n;exact d n;rfl
def lN{N}{j}{f}(b:∀n,(f n).c=n.c)(a)(h:a≠j):Qi (Wj N j f) a=Qi N a:=by
 rw[zI (λn=>by rw[b]),Qc h]
def HT{N}{j}{f}(d:∀n,(f n).c=n.c)(c:∀n,Qi N j=some n->n.Ok->(f n).Ok)(h:∀id n,Qi N id=some n->n.Ok):∀id n,Qi (Wj N j f) id=some n->n.Ok:=λid n a=>by
 rw[zI (λn=>by rw[d])]at a;split at a;rename_i e;subst e;obtain⟨m,b,rfl⟩:=VT.1 a;exact c m b (h _ _ b);exact h _ _ a
def Qkb{M b:Qn}(V:DV M)(e:∀id,(Qi b.N id).map (λn=>(n.c,n.q))=(Qi M.N id).map λn=>(n.c,n.q)):DV b:=λid n c d=>by
 obtain⟨m,f,a⟩:=DW (e id).symm c;have h:m.c=n.c:=congrArg Prod.fst a;have g:m.q=n.q:=congrArg Prod.snd a;rw[<- g];exact V id m f (by rw[h];exact d)
def MN(M:Qn)(a:Int)(x:Pk)(j:Int):Qi (Vr M a x).N j=if j=a then (Qi M.N j).map (λm=>{ m with q:=Xw (Qy M a).c.ZK (Qy M a).c.bytes (Qy M a).q x }) else Qi M.N j:=
 zI (f:=λm:Nd=>{ m with q:=Xw (Qy M a).c.ZK (Qy M a).c.bytes (Qy M a).q x }) (λ_=>rfl) j
def Qkc{p b}{q:Qu}{x:Pk}(h:vm p b q x=false):(Xw p b q x).l=q.l++[x]:=by
 unfold Xw;rw[Qc (by rw[h];exact CL)]
def QaC{M}(V:V0 M)(a)(x):V0 (Vr M a x):=
 HT (f:=λm:Nd=>{ m with q:=Xw (Qy M a).c.ZK (Qy M a).c.bytes (Qy M a).q x }) (λ_=>rfl) (λn _ h=>⟨h.QT,h.du,h.sh,h.cp,h.c⟩) V
def QBw{M:Qn}(V:DV M){c}{n:Nd}(d:Qi M.N c=some n)(f:n.c.leaf=true)(x):DV (Vr M c x):=λj m a b=>by
 rw[MN]at a;split at a;rename_i e;subst e;rw[d]at a;cases a;rw[f]at b;cases b;exact V j m a b
def Inv.push{M:Qn}(V:Inv M){a}{n:Nd}(b:Qi M.N a=some n)(d:n.c.leaf=true)(x)(h:vm n.c.ZK n.c.bytes n.q x=true\/n.q.l≠[]):Inv (Vr M a x):=by
 refine V.num rfl rfl rfl rfl (λj=>?_) (QBw V.A3 b d x) (QaC V.ok a x);have f:Qy M a=n:=by unfold Qy;rw[b];rfl
 rw[MN,f];split;rename_i e;subst e;rw[b];have e:(Xw n.c.ZK n.c.bytes n.q x).l.isEmpty=n.q.l.isEmpty:=by
  unfold Xw;rcases h with h|h;rw[Qd h];split;rfl;cases c:n.q.l with
  | nil=>exact absurd c h
  | cons y l=>simp
 simp only[KM,QaB];rw[e];rfl
def QaD(M:Qn)(c)(b:Int)(a:Int)(j:Int):Qi (VZ M c b a).N j=if j=b/\1<QH (Qy M b).c.rt then (Qi M.N j).map (λn=>{ n with du:=jU (Qy M b).du (Jk (Qy M b).c.rt) c a }) else Qi M.N j:=by
 unfold VZ;by_cases h:1<QH (Qy M b).c.rt;rw[Qd h];dsimp only;rw[zI (f:=λn:Nd=>{ n with du:=jU (Qy M b).du (Jk (Qy M b).c.rt) c a }) (λ_=>rfl)];simp[h];rw[Qc h,Qc (λe=>h e.2)]
def Qkd(b:Nat){d:Type}{a:Nd->d}(e:∀M n,a (yM M b n)=a n)(M:Qn)(j c:Int):(Qi (WG b M j).N c).map a=(Qi M.N c).map a:=
 MM (f:=yM M b) (λ_=>rfl) (e M) c
def Qke(a):∀(l:List Int) (M:Qn),(l.foldl (WG a) M).Lv=M.Lv
 | [],M=>rfl
 | j::l,M=>Qke a l (WG a M j)
def Inv.QaE{M g:Qn}(P:QA g)(V:Inv M){b}{n q:Nd}(L:Qi M.N b=some n)(E:Qi g.N b=some q)(hl:n.c.leaf=true)(tt:n.q.l=[])(hq:q.q.l≠[])(w9:(q.c,q.du,q.sh,q.cp)=(n.c,n.du,n.sh,n.cp))
  (Ai:∀j,j≠b->Qi g.N j=Qi M.N j) (hL:g.Lv=M.Lv) (hK:g.KT=M.KT) (hT:g.T=M.T) (O:g.A=M.A) (Z:V0 g) (c:Nat) (WH:c<18446744073709551616) (o:Int):Inv (YO g c b o):=by
 simp only[Q9]at w9;obtain⟨z,ed,es,ep⟩:=w9;have Z9:Qy g b=q:=by unfold Qy;rw[E];rfl
 have Jp:q.c.leaf=true:=by rw[z];exact hl
 have ZP:b ∉ M.A:=λh=>by
  obtain⟨m,s,_,h3,_⟩:=(V.act b).1 h;rw[L]at s;cases s;exact h3 tt
 have a0:∀y∈M.Lv,y.ki≠b:=λy v e=>by
  obtain⟨m,s,_,h3,_⟩:=(V.lv y).1 v;rw[e,L]at s;cases s;exact h3 tt
 obtain⟨r,H⟩:∃r,r=VZ g c b o:=⟨_,rfl⟩;have I2:QA r:=by rw[H];exact P.VZ E c o
 obtain⟨B,W,K,w4⟩:=MA (M:=g) (now:=c) (id:=b) (head:=o);rw[<- H]at B W K w4;have hF:∀j,Qi r.N j=if j=b/\1<QH q.c.rt then (Qi g.N j).map (λn=>{ n with du:=jU q.du (Jk q.c.rt) c o }) else Qi g.N j:=λj=>by
  rw[H,QaD,Z9]
 have F:∀j,j≠b->Qi r.N j=Qi M.N j:=λj d=>by rw[hF,Qc (λe=>d e.1),Ai j d]
 have UZ:r.Lv=if 1<QH q.c.rt then Ym b (jU q.du (Jk q.c.rt) c o).Yp (jU q.du (Jk q.c.rt) c o).dead M.Lv else M.Lv:=by
  rw[H];unfold VZ;rw[Z9];split;dsimp only;rw[hL];exact hL
 obtain⟨m,N,J,MO,a1,a2,iz⟩:∃m,Qi r.N b=some m/\m.c=n.c/\m.q=q.q/\m.sh=n.sh/\m.cp=n.cp/\(1<QH q.c.rt->m.du=jU q.du (Jk q.c.rt) c o):=by
  rw[hF,E];by_cases h:1<QH q.c.rt;rw[Qd ⟨rfl,h⟩];exact⟨_,rfl,z,rfl,es,ep,λ_=>rfl⟩;rw[Qc (λe=>h e.2)];exact⟨_,rfl,z,rfl,es,ep,λe=>absurd e h⟩
 have AZ:DU r:=V.lv.at_ N (λj d=>by rw[F j d]) (λy v=>by
   rw[UZ];split;rw[HP];exact⟨λh=>h.elim (λe=>absurd (congrArg It.ki e) v) (·.1),λh=>.inr ⟨h,v⟩⟩;exact Iff.rfl) λy v=>by
   rw[UZ,J,MO];by_cases h:1<QH q.c.rt;rw[Qd h,HP,iz h];rw[<- z];exact⟨λe=>e.elim (λe=>⟨Jp,hq,h,e⟩) λe=>absurd v e.2,λe=>.inl e.2.2.2⟩;rw[Qc h];rw[<- z];exact⟨λe=>absurd v (a0 y e),λe=>absurd e.2.2.1 h⟩
 have ZJ:∀j,(Qi r.N j).map yW=(Qi M.N j).map yW:=λj=>by
  by_cases e:j=b;subst e;rw[N,L];simp only[KM,yW,J,a1,a2];rw[F j e]
 have U:DV r:=λj k d DT=>by
  by_cases e:j=b;subst e;rw[N]at d;cases d;rw[J,hl]at DT;cases DT;rw[F j e]at d;exact V.A3 j k d DT
 have T:V0 r:=λj k d=>by
  rw[hF]at d;split at d;obtain⟨k0,s,rfl⟩:=VT.1 d;have h2:=Z j k0 s;exact⟨h2.QT,te (Z b q E).du (Z b q E).c.2.2.2.1.lt WH o,h2.sh,h2.cp,h2.c⟩;exact Z j k d
 have S:Vm r.Lv:=by
  rw[UZ];split;exact lM V.qQ.1;exact V.qQ.1
 unfold YO;rw[Z9,<- H];by_cases C:1<QH q.c.ls;rw[Qd C];obtain⟨t,u⟩:∃t,t=(VH g.T g.A b).foldl (WG c) { r with A:=b::g.A }:=⟨_,rfl⟩;rw[<- u];obtain⟨t1,t2,t3,t4,t5,t6⟩:=HC c (VH g.T g.A b) { r with A:=b::g.A };rw[<- u]at t1 t2 t3 t4 t5 t6;dsimp only at t1 t2 t3;have tL:=Qke c (VH g.T g.A b) { r with A:=b::g.A };rw[<- u]at tL;have Wu:Qw g.T b=some q.c:=P.some E;have Q:g.T=t.T:=by rw[t1,B]
 have I3:QA t:=by
  rw[u];refine QA.Uu _ (I2.act λa w=>?_);rw[B];rcases QK.1 w with rfl|w;exact⟨q.c,Wu,Jp,C⟩;exact P.Xk a w
 rw[Q];have xm:∀j,j ∉ up g.T b->j ∉ VH g.T g.A b:=λj d h=>d (m7 _ h);have Y:∀j,(Qi t.N j).map (λn=>(n.c,n.q,n.du))=(Qi r.N j).map λn=>(n.c,n.q,n.du):=λj=>by
  rw[u];exact xU (key:=λn:Nd=>(n.c,n.q,n.du)) (λM j b=>Qkd c (λ_ _=>rfl) M j b) _ _ j
 have U0:∀j,j ∉ up g.T b->Qi t.N j=Qi M.N j:=λj d=>by
  have s:Qi t.N j=Qi r.N j:=by
   rw[u];exact ML (λM i b h=>lN (f:=yM M c) (λ_=>rfl) b h) _ _ j (xm j d)
  rw[s];exact F j λe=>d (by rw[e];exact XJ P.tree Wu)
 have R:∀j,Kq t j=true↔j∈up g.T b\/Kq M j=true:=λj=>by
  unfold Kq;rw[t1,t2,B,O,hT,Yj,Yj];simp
 refine Part.settle _ b I3 rfl ?_;rw[<- Q];refine⟨?_,?_,λp x hx F1=>(R _).2 (.inl F1),?_,?_,⟨by rw[tL];exact S,λp=>by rw[t3,K,hK];exact V.qQ.2 p⟩,?_⟩;exact AZ.of tL λj=>HS (λk=>(k.1,k.2.1.l.isEmpty,k.2.2.Yp,k.2.2.dead)) (Y j);refine V.kt.part (by rw[t3,K,hK]) (λj d=>?_) λj d=>by rw[U0 j d]
 rw[vF,R];exact⟨λh=>h.resolve_left d,.inr⟩;obtain⟨m3,g1,g2⟩:=DW (Y b) N;simp only[Q9]at g2;obtain⟨g3,g4,g5⟩:=g2;refine V.act.at_ g1 (λj d=>?_) (λj d=>?_) ?_;rw[<- F j d];exact HS (λk=>(k.1,k.2.1.l.isEmpty)) (Y j);rw[t2,O];simp[d];rw[t2,g3,g4,J,MO,<- z];exact⟨λ_=>⟨Jp,hq,C⟩,λ_=>Ky⟩;exact Qkb U λj=>HS (λk=>(k.1,k.2.1)) (Y j);rw[u];have:∀(l:List Int) (M:Qn),QA M->V0 M->V0 (l.foldl (WG c) M):=by
  intro l;induction l with
  | nil=>intro M _ h;exact h
  | cons j l ih=>
   intro M I h;refine ih _ (I.WG c j) ?_;exact HT (f:=yM M c) (λ_=>rfl) (λn _ L=>uG I WH L) h
 refine this _ _ (I2.act λa w=>?_) T;rw[B];rcases QK.1 w with rfl|w;exact⟨q.c,Wu,Jp,C⟩;exact P.Xk a w;rw[Qc C];refine⟨AZ,V.kt.of (by rw[K,hK]) (λj=>by unfold Kq;rw[B,W,hT,O]) ZJ,?_,U,⟨S,λp=>by rw[K,hK];exact V.qQ.2 p⟩,T⟩;refine V.act.at_ N (λj d=>by rw[F j d]) (λj d=>by rw[W,O]) ?_;rw[W,O,J,MO,<- z];exact⟨λh=>absurd h ZP,λh=>absurd h.2.2 C⟩
def Qkk{M:Qn}{a}{x:Pk}{n:Nd}(b:Qi M.N a=some n):VQ M a x=if n.c.leaf=false then 29 else if x.len<1\/M.lk.Jb<x.len then 26 else if 1099511627776<M.acc+x.len.toNat then 28
   else if vm n.c.ZK n.c.bytes n.q x=true then 30 else 0:=by unfold VQ;rw[b]
def Qkl{M:Qn}{a}{x}{n:Nd}(b:Qi M.N a=some n)(h:VQ M a x=30):n.c.leaf=true/\vm n.c.ZK n.c.bytes n.q x=true:=by
 rw[Qkk b]at h;split at h;cases h;rename_i d;split at h;cases h;split at h;cases h;split at h;rename_i c;exact⟨by simpa using d,c⟩;cases h
def QaF{M:Qn}{a}{x:Pk}{n:Nd}(b:Qi M.N a=some n)(h:VQ M a x=0):n.c.leaf=true/\vm n.c.ZK n.c.bytes n.q x=false/\1<=x.len/\x.len<=M.lk.Jb/\M.acc+x.len.toNat<=1099511627776:=by
 rw[Qkk b]at h;split at h;cases h;rename_i d;split at h;cases h;rename_i f;split at h;cases h;rename_i e;split at h;cases h;rename_i c;exact⟨by simpa using d,by simpa using c,ω,ω,ω⟩
def Inv.put{M}(I:QA M)(V:Inv M)(c)(o:c<18446744073709551616)(a)(x):Inv (VR M c a x):=by
 unfold VR;cases b:Qi M.N a with
 | none=>
  have e:VQ M a x=23:=by unfold VQ;rw[b]
  rw[e,Qc π,Qc π];exact V
 | some n=>
  have k:Qy M a=n:=by unfold Qy;rw[b];rfl
  by_cases i:VQ M a x=30;rw[Qd i];obtain⟨f,g⟩:=Qkl b i;exact V.push b f x (.inl g);rw[Qc i];by_cases h:VQ M a x=0;rw[Qd h,k];obtain⟨f,g,s,r,m⟩:=QaF b h;by_cases d:n.q.l=[];rw[Qd d];have p:Qi (j8 (Vr M a x) (M.acc+x.len.toNat)).N a=some { n with q:=Xw n.c.ZK n.c.bytes n.q x }:=by
   show Qi (Vr M a x).N a=_;rw[MN,Qd rfl,b,k];rfl
  refine Inv.QaE ((I.Vr a x).j8 m) V b p f d ?_ rfl (λj l=>?_) rfl rfl rfl rfl (QaC V.ok a x) c o x.len;dsimp only;rw[Qkc g];simp;show Qi (Vr M a x).N j=_;rw[MN,Qc l];rw[Qc d];exact(V.push b f x (.inr d)).acc _;rw[Qc h];exact V
def Inv.JD{M}(I:QA M)(V:Inv M)(a)(c:a<18446744073709551616)(b)(x):Inv (JD M a b x):=by
 unfold X.JD;split;exact Inv.put (wB I a) (V.told a) a c b x;exact V
end Go.Fg.X
