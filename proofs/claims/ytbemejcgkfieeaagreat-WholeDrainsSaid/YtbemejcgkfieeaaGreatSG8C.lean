/- Contracts and laws on the way to the statement. No conditions. -/
import Derived.Test.YtbemejcgkfieeaaGreatCA2C
import Derived.Test.YtbemejcgkfieeaaGreatPR4C
import Derived.Test.YtbemejcgkfieeaaGreatNA3C
set_option maxRecDepth 100000
set_option maxHeartbeats 16000000
set_option linter.unusedVariables false
set_option linter.unusedSimpArgs false
set_option linter.unusedSectionVars false
set_option linter.defProp false
namespace Go.Fg.X
open Go.Proofs Go.Fg
open Go.Proofs.Tryz
@[go_sem] def jI(n:Int):D:=.raw (.int .i64 n)
def MH(d:Array Int):Nat->List D:=λi=>[jI d[i]!]
@[go_sem] theorem QyC(d:Array Int)(i):MH d i=[jI d[i]!]:=rfl
@[go_sem] def CL(g:Nat)(d:Array Int):Ob:=⟨.arr,g,1,d.size,MH d⟩
def QyD{h:List Ob}{a g}{d}(b:a<h.length):(h.set a (CL g d))[a]? = some (CL g d):=Qt b
def QyE(g)(d:Array Int)(i n)(x)(c:d.size=n)(e:i<n):
  (⟨.arr,g,1,n,λk=>bif k==i then [.raw (.int .i64 x)] else [.raw (.int .i64 d[k]!)]⟩:Ob)=CL g (d.setIfInBounds i x):=by
 subst c;unfold CL;congr 1
 .simp
 .funext k;unfold MH jI;by_cases a:k=i
  .subst a;simp[e]
  .have f:(k==i)=false:=beq_eq_false_iff_ne.mpr a;rw[f];by_cases b:k<d.size
   .simp[a,b,Q9 a,mI]
   .simp[a,b]
def QyF{h:List Ob}{a g}{d:Array Int}(b:h[a]? = some (CL g d))(hz:d.size<1000000000):
  QM prog 101 h [.ref a g 0 d.size] (λdd h'=>dd=.ref a g 0 (cN (λi=>d[i]!) d.size).length/\∃r,h'=h.set a ⟨.arr,g,1,d.size,r⟩/\(∀i,i<(cN (λi=>d[i]!) d.size).length->r i=[jI ((cN (λi=>d[i]!) d.size).getD i 0)])/\∀i,∃x,r i=[jI x]):=by
 by_cases c2:d.size<2
 .have K:decide ((d.size:Int)<2)=true:=QT ω;have p:(cN (λi=>d[i]!) d.size).length=d.size:=by
   have:d.size=0\/d.size=1:=ω;rcases this with h0|h0<;>rw[h0]<;>rfl
  rw[p];refine Q8 func101 ntmps101 results101 λt w pl c=>?_;have o:=Qc b;simp only[go_sem,Qa,b,o,K];exact⟨MH d,(wO b).symm,λi f=>by rw[MA _ _ p i f];rfl,λi=>⟨_,rfl⟩⟩
 .have K:decide ((d.size:Int)<2)=false:=QH ω;refine Q8 func101 ntmps101 results101 λt w pl c=>?_;have o:=Qc b;simp only[go_sem,Qa,b,o,K];refine ZW (λk E=>k+1<=d.size/\(cN (λi=>d[i]!) (k+1)).length=k+1/\E=⟨[(0,.ref a g 0 d.size),(3,Qb (k+1:Nat))],h⟩) d.size (s0:=⟨[(0,.ref a g 0 d.size),(3,Qb (0+1:Nat))],h⟩) QQ ⟨ω,rfl,rfl⟩ ?_;rintro k _ hk ⟨Qi,s,rfl⟩;by_cases L:k+1<d.size
  .have J:decide (k+1<d.size)=true:=QT L;have v1:IntKind.i64.wrap (((k+1:Nat):Int) - 1)=((k:Nat):Int):=ZB;have v2:IntKind.i64.wrap (((k+1:Nat):Int)+1)=((k+1+1:Nat):Int):=ZB;have p0:k<d.size:=ω;apply Qf c;simp only[go_sem,Qa,b,o,J];apply Qx c Eq;simp only[go_sem,Qa,b,o,v1,L,p0];by_cases zK:d[k+1]! = d[k]!
   .have O:(d[k+1]! == d[k]!)=true:=beq_iff_eq.mpr zK;have V:(cN (λi=>d[i]!) (k+1+1)).length=k+1:=by
     rw[cN,Qe ⟨ω,by simpa using zK⟩,s]
    have q0:k+1<=d.size:=ω;generalize hN:d.size - (k+1)=N;have v3:((d.size:Int) - ((k+1:Nat):Int)).toNat=N:=ω;simp only[go_sem,O,q0,hN,Qa,b,o,v3];refine ZW (λm E=>∃(d1:Array Int),d1.size=d.size/\m+1<=N/\(cN (λi=>d[i]!) (k+1+(m+1))).length<=k+1+m/\(∀i,i<(cN (λi=>d[i]!) (k+1+(m+1))).length->d1[i]! = (cN (λi=>d[i]!) (k+1+(m+1))).getD i 0)/\(∀j,(cN (λi=>d[i]!) (k+1+(m+1))).length<=j->d1[j]! = d[j]!)/\E=⟨[(0,.ref a g 0 d.size),(3,Qb (cN (λi=>d[i]!) (k+1+(m+1))).length),(4,.ref a g (k+1) N),(5,Qb (m+1:Nat))],h.set a (CL g d1)⟩) N (s0:=⟨[(0,.ref a g 0 d.size),(3,Qb (cN (λi=>d[i]!) (k+1+(0+1))).length),(4,.ref a g (k+1) N),(5,Qb (0+1:Nat))],h.set a (CL g d)⟩) ?_ ⟨d,rfl,ω,Nat.le_of_eq V,λi f=>?_,λj S=>rfl,rfl⟩ ?_
    .rw[wO b,V];exact QQ
    .rw[cN,Qe ⟨ω,by simpa using zK⟩]at f ⊢;exact(MA _ _ s i ω).symm
    rintro m _ hm ⟨d1,l,a0,O1,M,z,rfl⟩;have n:=QyD (g:=g) (d:=d1) o;have y:cN (λi=>d[i]!) (k+1+(m+1+1))=if d[k+1+(m+1)]! = d[k+1+m]! then cN (λi=>d[i]!) (k+1+(m+1)) else cN (λi=>d[i]!) (k+1+(m+1))++[d[k+1+(m+1)]!]:=by
     rw[show k+1+(m+1+1)=(k+1+(m+1))+1 by omega,cN];simp
    generalize T:cN (λi=>d[i]!) (k+1+(m+1))=C at *;generalize I:h.set a (CL g d1)=H at n;have q:=Qc n;by_cases v:m+1<N
    .have em:decide (m+1<N)=true:=QT v;have R:=z (k+1+(m+1)) ω;have r2:=z (k+1+m) ω;have Q:k+1+(m+1)<d.size:=ω;have u2:k+1+m<d.size:=ω;have Z:m<N:=ω;have Y:IntKind.i64.wrap (((m+1:Nat):Int) - 1)=(m:Int):=ZB;have P:IntKind.i64.wrap (((m+1:Nat):Int)+1)=((m+1+1:Nat):Int):=ZB;have W:IntKind.i64.wrap ((C.length:Int)+1)=((C.length+1:Nat):Int):=ZB;apply Qf c;simp only[go_sem,Qa,n,q,em];apply Qx c Eq;simp only[go_sem,Qa,n,q,l,Y,v,Q,u2,Z,R,r2];by_cases u:d[k+1+(m+1)]! = d[k+1+m]!
     .have F:(d[k+1+(m+1)]! != d[k+1+m]!)=false:=by rw[u];exact bne_self_eq_false _
      rw[Qe u]at y;simp only[go_sem,F,P];rw[y];refine⟨ω,_,?_,d1,l,ω,ω,M,z,rfl⟩;rw[<- I];exact QQ
     .have F:(d[k+1+(m+1)]! != d[k+1+m]!)=true:=bne_iff_ne.mpr u;have B:C.length<d.size:=ω;rw[Qd u]at y;simp only[go_sem,F,P,W,Qa,n,q,l,Q,v,B,R];rw[QyE g d1 _ _ _ l B,y];refine⟨ω,_,?_,d1.setIfInBounds C.length d[k+1+(m+1)]!,by simp;exact l,ω,ξ,λi f=>?_,λj S=>?_,rfl⟩
      .rw[<- I,JE,Zo,Kc];exact QQ
      .simp only[Zo,Kc]at f;by_cases e:i=C.length
       .subst e;rw[QY,Kh (QB _),Df];simp[l,B]
       .rw[QY,JO ω,<- QY,<- M i ω];simp[Q9 e,Nu,yh,Al]
      .simp only[Zo,Kc]at S;rw[<- z j ω];simp[show C.length≠j by omega,Nu,yh,Al]
    .have em:decide (m+1<N)=false:=QH v;have tu:k+1+(m+1)=d.size:=ω;rw[tu]at T;rw[T];have U:C.length<=d.size:=ω;have g2:((d.size:Int) - (C.length:Int)).toNat=d.size - C.length:=ω;apply Qf c;simp only[go_sem,Qa,n,q,em];apply Qf c;simp only[go_sem,Qa,n,q,l,U,g2];refine pG Ca c rfl n rfl rfl rfl rfl (by dsimp only[CL];omega) rfl rfl rfl rfl ?_;apply Qf c;simp only[go_sem,Qa,Qt q,q,l,U];refine⟨σ,qZ C.length (d.size - C.length) [D.raw (.int .i64 0)] (MH d1),?_,λi f=>?_,λi=>?_⟩
     .rw[<- I,JE]
     .rw[pE f];show [jI d1[i]!]=_;rw[M i f];rfl
     .unfold qZ;cases Nat.ble C.length i&&Nat.blt i (C.length+(d.size - C.length))
      .exact⟨d1[i]!,rfl⟩
      .exact⟨0,rfl⟩
   .have O:(d[k+1]! == d[k]!)=false:=beq_eq_false_iff_ne.mpr zK;simp only[go_sem,O,v2];refine⟨ω,_,?_,ω,?_,rfl⟩
    .exact QQ
    .rw[cN,Qd (by simpa using zK)];simp[s]
  .have J:decide (k+1<d.size)=false:=QH L;obtain JL:k+1=d.size:=ω;rw[JL]at s;apply Qf c;simp only[go_sem,Qa,b,o,J];apply QV c;rw[s];exact⟨rfl,MH d,(wO b).symm,λi f=>by rw[MA _ _ s i f];rfl,λi=>⟨_,rfl⟩⟩
def QyG(n:Nat)(c:0<n)(j:n<=1048576):QI prog 137 [.nil,Qb n] (λd h=>∃b,d=.ref 0 0 0 0/\h=[⟨.arr,0,1,0,b⟩]):=by
 have i:¬ ((n:Int)<0):=ω;have g:((n:Int) > 0):=ω;have f:IntKind.i64.wrap (n:Int)=n:=by rw[IntKind.wrap_i64];omega
 refine QM.cut (R:=λd h=>d=.ref 0 0 0 0/\h=[⟨.arr,0,1,n,λ_=>[Qb 0]⟩]) ?_ (by rintro d h ⟨rfl,rfl⟩;exact⟨0,_,0,rfl,rfl,Jj _,_,rfl,rfl⟩);show QI _ _ _ _;refine QZ 1 func137 ntmps137 results137 λe w a=>?_;simp only[go_sem];simp only[QH i,go_sem];refine pI Ca rfl rfl rfl ?_;apply Qf a;simp only[go_sem,Ea,Int.sub_zero,f,QT g,c];refine pI Ca rfl rfl rfl ?_;apply QV a;refine Qt5 Ca a rfl rfl rfl rfl rfl rfl π c ω π rfl ?_;exact Yc a
def QyH:QI prog 137 [.nil,Qb 0] (QO .nil):=by
 refine QZ 0 func137 ntmps137 results137 λa w b=>?_;simp only[go_sem];refine pI Ca rfl rfl rfl ?_;apply Qf b;simp only[go_sem,Ea,Int.sub_zero]
def QyI(h:List Ob)(f)(y)(a b:List Int)(Z:a.length+b.length<1000000)(e:(h.map Ob.ro)[f]? = some ⟨.As,0,1,2,y⟩)(p:y 0=[ints a])(n:y 1=[ints b]):
  Xf prog 99 h [.ref f 0 0 2] (λd g=>Kp h.length (h++g) d (a++b)):=by
 have L:IntKind.i64.wrap (a.length:Int)=(a.length:Int):=by rw[IntKind.wrap_i64];omega
 have K:IntKind.i64.wrap ((a.length:Int)+(b.length:Int))=((a.length+b.length:Nat):Int):=by rw[IntKind.wrap_i64];omega
 have N:decide ((a.length:Int)<0)=false:=QH ω;have M:decide (((a.length+b.length:Nat):Int)<0)=false:=QH ω;refine B9 KS 200 func99 rfl ntmps99 results99 rfl λI w Y F R S j=>?_;rw[<- R]at e;have l:=Qc e;simp only[go_sem,Qa,e,l];obtain⟨q,E,C,B⟩:∃q:Nat->Int,q 0=0/\q 1=a.length/\q 2=(a.length+b.length:Nat):=⟨λi=>if i=0 then 0 else if i=1 then a.length else (a.length+b.length:Nat),rfl,rfl,rfl⟩;refine ZW (λi s=>s=⟨[(0,.ref f 0 0 2),(3,.raw (.int .i64 (q i))),(9,.ref f 0 0 2),(10,Qb 2),(11,Qb i)],F⟩) 2 (Qr.frame (by simp only[go_sem,E])) rfl ?_;rintro i s t rfl;have x:i=0\/i=1\/i=2:=ω;rcases x with rfl|rfl|rfl
 .apply Qf j;simp only[go_sem,Qa,e,l,p,n,Ea,FY,E,Int.zero_add,L,N];exact⟨_,Qr.frame (fr':=[(0,.ref f 0 0 2),(3,.raw (.int .i64 (q 1))),(9,.ref f 0 0 2),(10,Qb 2),(11,.raw (.int .i64 1))]) (by simp only[go_sem,C]),rfl⟩
 .apply Qf j;simp only[go_sem,Qa,e,l,p,n,Ea,FY,C,K,M];exact⟨_,Qr.frame (fr':=[(0,.ref f 0 0 2),(3,.raw (.int .i64 (q 2))),(9,.ref f 0 0 2),(10,Qb 2),(11,.raw (.int .i64 2))]) (by simp only[go_sem,B,Qiv]),rfl⟩
 .apply Qf j;simp only[go_sem,Qa,e,l,p,n,Ea,FY,B];apply Qf j;simp only[go_sem,Qa,e,l,p,n,Ea,FY,B];by_cases hz:a.length+b.length=0
  case' pos=>
   refine ZO j Qe6 ?_ QyH ?_
   .simp only[go_sem,Qa,e,l,hz]
   apply Qf j;simp only[go_sem,Qa,e,l,hz];refine E0 (Qr.kP 6 1 (λ_=>[]) (by simp only[go_sem])) ?_;simp only[go_sem,Qa];generalize (λ_:Nat=>([]:List D))=v
  case' neg=>
   refine Yw j Qe6 rfl ?_ (QyG (a.length+b.length) ω ω) (λd h ⟨c,u,e⟩=>⟨by rw[u];rfl,λo z=>by rw[e]at z;simp at z;subst z;exact λi t=>absurd t (X2 i)⟩) rfl λd h' Q=>?_
   .simp only[go_sem,Qa]
   obtain⟨c,rfl,rfl⟩:=Q;apply Qf j;simp only[go_sem,Qa,e,l];generalize (λi=>yx F.length (c i))=v
  all_goals
   refine ZW (λi s=>∃r m c,(i=0->m=0)/\(i=1->m=a.length/\∀k,k<a.length->c k=[Qb (a.getD k 0)])/\(i=2->m=a.length+b.length/\∀k,k<a.length+b.length->c k=[Qb ((a++b).getD k 0)])/\s=⟨[(6,.ref F.length r 0 m),(25,.ref f 0 0 2),(26,Qb 2),(27,Qb i)],F++[⟨.arr,r,1,m,c⟩]⟩) 2
    (s0:=⟨[(6,.ref F.length 0 0 0),(25,.ref f 0 0 2),(26,Qb 2),(27,Qb 0)],F++[⟨.arr,0,1,0,v⟩]⟩) QQ ⟨0,0,_,λ_=>rfl,λh=>absurd h π,λh=>absurd h π,rfl⟩ ?_
   rintro i s t ⟨r,m,c,W,V,U,rfl⟩;have x:i=0\/i=1\/i=2:=ω;have H:a.length<=4294967295:=ω;have J:a.length+b.length<=4294967295:=ω;rcases x with rfl|rfl|rfl
   .obtain rfl:m=0:=W rfl;apply Qf j;simp only[go_sem,Qa,e,l,p,n,Ea,FY,H];refine⟨ω,_,Qr.frame (fr':=[(6,.ref F.length (r+1) 0 a.length),(25,.ref f 0 0 2),(26,Qb 2),(27,.raw (.int .i64 1))]) (by simp only[go_sem,FY]),_,_,_,⟨rfl,λk P=>?_⟩,rfl⟩;rw[kS (Jj k)];rfl
   .obtain⟨rfl,O⟩:=V rfl;apply Qf j;simp only[go_sem,Qa,e,l,p,n,Ea,FY,H,J];refine⟨ω,_,Qr.frame (fr':=[(6,.ref F.length (r+1) 0 (a.length+b.length)),(25,.ref f 0 0 2),(26,Qb 2),(27,.raw (.int .i64 2))]) (by simp only[go_sem,Qiv]),_,_,_,⟨rfl,λk P=>?_⟩,rfl⟩;by_cases u:k<a.length
    .rw[AD u,JR,O k u,QY,QY,JO u];rfl
    .rw[kS ω,QY,Kh ω,<- QY];rfl
   .obtain⟨rfl,T⟩:=U rfl;apply Qf j;simp only[go_sem,Qa,e,l,p,n,Ea,FY];apply Qf j;simp only[go_sem,Qa,e,l,p,n,Ea,FY];refine⟨_,rfl,.inr ⟨h.length,r,0,c,by rw[S,Zo],⟨QB _,rfl⟩,?_,λi t=>by rw[JR];exact T i (by simpa using t)⟩⟩;rw[Vj rfl,Zo,JR];rfl
def QyJ(h:List Ob)(e)(c)(a b:List Int)(f:a.length+b.length<1000000)(g:(h.map Ob.ro)[e]? = some ⟨.As,0,1,2,c⟩)(j:c 0=[ints a])(i:c 1=[ints b]):
  Zi prog 99 h [.ref e 0 0 2] (λd=>d=ints (a++b)):=Kp.closed (QyI h e c a b f g j i)
deriving instance DecidableEq for Cv
deriving instance DecidableEq for Qm
def W3(A B:List Qm)(a:Int):Bool:=decide (Qy A a≠Qy B a)
def yX(A B:List Qm):List Int:=(A.map (·.iD)++B.map (·.iD)).filter (W3 A B)
def jA(L:List Int):List Int:=cN (λi=>L.getD i 0) L.length
def Kb(A B:List Qm):List Int:=jA (sorted (yX A B))
def QyK{L}{x}:x∈jA L↔x∈L:=by
 unfold jA;rw[tt];constructor
 .rintro⟨i,a,rfl⟩;rw[QY,QG a];exact X0 a
 .intro h;obtain⟨i,a,rfl⟩:=xl h;exact⟨i,a,by rw[QY,QG a];rfl⟩
def QyL{L}{x}:x∈sorted L↔x∈L:=(List.mergeSort_perm _ _).mem_iff
def MI{A B}{a}:a∈Kb A B↔Qy A a≠Qy B a:=by
 unfold Kb;rw[QyK,QyL];unfold yX;rw[JH];unfold W3;rw[X4];constructor
 .exact λh=>h.2
 .intro h;refine⟨?_,h⟩;rw[Q3];cases d:Qy A a with
  | some c=>
   refine .inl (Jl.2 ⟨c,wc d,?_⟩);have:=yj d;simpa using this
  | none=>
   cases b:Qy B a with
   | some c=>
    refine .inr (Jl.2 ⟨c,wc b,?_⟩);have:=yj b;simpa using this
   | none=>rw[d,b]at h;exact absurd rfl h
def QiK(x y:Qm):(x.iD==y.iD&&(x.parent==y.parent&&(x.leaf==y.leaf&&(x.rt.m1==y.rt.m1&&(x.rt.d==y.rt.d&&(x.rt.m2==y.rt.m2&&(x.ls.m1==y.ls.m1&&(x.ls.d==y.ls.d&&(x.ls.m2==y.ls.m2&&(x.ul.m1==y.ul.m1&&(x.ul.d==y.ul.d&&(x.ul.m2==y.ul.m2&&(x.ZR==y.ZR&&x.bytes==y.bytes)))))))))))))=decide (x=y):=by
 rw[vX];simp only[ZL,zF,X4];constructor
 .rintro⟨l,k,j,i,h,g,f,e,d,c,N,O,b,a⟩;obtain⟨M,L,K,⟨J,I,H⟩,⟨F,E,C⟩,⟨B,z,w⟩,v,u⟩:=x;obtain⟨t,s,r,⟨q,p,c6⟩,⟨o,n,m⟩,⟨d1,d2,d3⟩,d4,d5⟩:=y
  simp_all
 .rintro rfl;simp
theorem PH:(true==false)=false:=rfl
theorem PI:(false==true)=false:=rfl
def QyM:QI prog 101 [.nil] (QO .nil):=by
 refine QZ 0 func101 ntmps101 results101 λa w b=>?_;simp only[go_sem]
def QyN{h:List Ob}{lo g}{Z:List Int}(f:h[lo]? = some (CL g Z.toArray))(k:Z.length<1000000000):
  QM prog 101 h [.ref lo g 0 Z.length] (λc b=>c=.ref lo g 0 (jA Z).length/\∃a,b=h.set lo ⟨.arr,g,1,(jA Z).length,a⟩/\∀i,i<(jA Z).length->a i=[Qb ((jA Z).getD i 0)]):=by
 have e:cN (λi=>Z.toArray[i]!) Z.toArray.size=jA Z:=by
  unfold jA;congr 1;funext i;simp
 have j:=QyF f (by simpa using k);rw[e]at j;have l:=Qc f;refine QM.cut (R:=λc b=>c=.ref lo g 0 (jA Z).length/\∃a,b=h.set lo ⟨.arr,g,1,Z.toArray.size,a⟩/\(∀i,i<(jA Z).length->a i=[jI ((jA Z).getD i 0)])/\∀i,∃x,a i=[jI x]) (by simpa using j) ?_;rintro d b ⟨rfl,a,rfl,m,_⟩;refine⟨lo,_,(jA Z).length,Qt l,rfl,?_,rfl,a,by rw[JE],m⟩;have:=PA (λi=>Z.getD i 0) Z.length;show (jA Z).length<=Z.toArray.size;simpa[jA] using this
structure CM (F:List Ob) (A B:List Qm) (t1 t2:Nat) (L:List Int) (k:Nat) (s:St):Prop where
 ex:∃d H,Kp F.length H d ((L.take k).filter (W3 A B))/\VQ F H/\s=⟨[(0,.ptr t1 0 0 0),(1,.ptr t2 0 0 0),(5,d),(17,ints L),(18,Qb L.length),(19,Qb k)],H⟩
def CM.of{F:List Ob}{A B}{b a}{L:List Int}{k:Nat}{d}{H}(e:Kp F.length H d ((L.take k).filter (W3 A B)))(c:VQ F H):CM F A B b a L k ⟨[(0,.ptr b 0 0 0),(1,.ptr a 0 0 0),(5,d),(17,ints L),(18,Qb L.length),(19,Qb k)],H⟩:=⟨⟨d,H,e,c,rfl⟩⟩
def QyP{h}{f n}{A B:List Qm}(RA:XE h f A)(RB:XE h n B)(hA:A.length<100000)(hB:B.length<100000):
  Xf prog 69 h [.ptr f 0 0 0,.ptr n 0 0 0] (λd g=>Kp h.length (h++g) d (Kb A B)):=by
 refine B9 KS 200 func69 rfl ntmps69 results69 rfl λa1 w pl F hF Zm a=>?_;simp only[go_sem,Qa];have Uq:XE F f A:=RA.more (VI hF);have Ur:XE F n B:=RB.more (VI hF);apply Ju a oX (rA Uq ω);apply QP a;apply Ju a oX (rA Ur ω);apply QP a;obtain⟨L,U⟩:∃L,L=A.map (·.iD)++B.map (·.iD):=⟨_,rfl⟩;have a2:L.length<200000:=by rw[U];simp;omega
 have KI:∀J:Nat->List D,J 0=[ints (A.map (·.iD))]->J 1=[ints (B.map (·.iD))]->Zi prog 99 (F++[⟨.arr,0,1,2,J⟩]) [.ref F.length 0 0 2] (λd=>d=ints L):=λJ e0 e1=>by
  rw[U];exact QyJ _ F.length J _ _ ξ (Z3 (show (F++[⟨.arr,0,1,2,J⟩])[F.length]? = some ⟨.arr,0,1,2,J⟩ by rw[Vj rfl];rfl)) e0 e1
 apply Ju a Qsj (KI _ (by exact rfl) (by exact rfl));apply QP a;refine ZW (CM F A B f n L) L.length (s0:=⟨[(0,.ptr f 0 0 0),(1,.ptr n 0 0 0),(5,.nil),(17,ints L),(18,Qb L.length),(19,Qb 0)],_⟩) QQ ⟨⟨_,_,.inl ⟨rfl,σ⟩,⟨_,rfl⟩,rfl⟩⟩ ?_;rintro k _ hk ⟨d,H,C,hx,rfl⟩;have a0:∀g,XE (H++g) f A:=λg=>by
  obtain⟨x,rfl⟩:=hx;exact Uq.more λl o e=>by rw[W9];exact Hz l o e
 have W:∀g,XE (H++g) n B:=λg=>by
  obtain⟨x,rfl⟩:=hx;exact Ur.more λl o e=>by rw[W9];exact Hz l o e
 have Y:XE H f A:=by have:=a0 [];rwa [JZ]at this
 by_cases j:k<L.length
 .have N:=QT j;obtain⟨id,Q⟩:∃id,id=L.getD k 0:=⟨_,rfl⟩;have c:(L.take (k+1)).filter (W3 A B)=(L.take k).filter (W3 A B)++(if W3 A B id then [id] else []):=by
   rw[getD_take L 0 k j,IE,<- Q];cases b:W3 A B id<;>simp[b]
  have E:=O5 Y id;have t:=λg=>O5 (W g) id;have I:=JT (show k<4611686018427387904 from ω);cases M:Qy A id with
  | some x=>
   rw[M]at E;simp only[Ky,wh,Vp]at E;cases v:Qy B id with
   | some y=>
    rw[v]at t;simp only[Ky,wh,Vp]at t;apply Qf a;simp only[go_sem,Qa,N,j,<- Q];apply Ju a wz E;apply QP a;refine Xr a wz ?_ (t _) ?_
    .simp only[go_sem,Qa,bne,QiK]
    apply Qf a;simp only[go_sem,Qa,bne,QiK];by_cases e:x=y
    .have b:W3 A B id=false:=by unfold W3;rw[M,v,e];simp
     have R:=QT e;simp only[go_sem,Qa,R];refine⟨j,_,Qr.frame (fr':=[(0,.ptr f 0 0 0),(1,.ptr n 0 0 0),(5,d),(17,ints L),(18,Qb L.length),(19,Qb (k+1:Nat))]) (by simp only[go_sem,I]),CM.of (by rw[c,b,Qd π,JZ];exact C.app _) (hx.app _)⟩
    .have b:W3 A B id=true:=by unfold W3;rw[M,v];simpa using e
     have R:=QH e;rcases C with ⟨rfl,r⟩|⟨q,g,O,s,rfl,⟨u,rfl⟩,p,K⟩
     .simp only[go_sem,Qa,R,Go.undef];refine⟨j,_,Qr.frame (fr':=[(0,.ptr f 0 0 0),(1,.ptr n 0 0 0),(5,.ref (H.length+3) 0 0 1),(17,ints L),(18,Qb L.length),(19,Qb (k+1:Nat))]) (by simp only[go_sem,I]),CM.of (.inr ⟨H.length+3,0,0,λ_=>[Qb id],?_,⟨by have:=hx.len;omega,rfl⟩,?_,?_⟩) (hx.app _)⟩
      .rw[c,r,b];rfl
      .rw[c,r,b,VP rfl];rfl
      .rw[c,r,b];intro i z;obtain rfl:i=0:=by simp at z;omega
       rfl
     .have m:=Qc p;rw[JR]at p;simp only[go_sem,Qa,R,Go.undef,p,m];refine⟨by have:=Yr (W3 A B) (L.take k);simp at this;omega,j,_,Qr.frame (fr':=[(0,.ptr f 0 0 0),(1,.ptr n 0 0 0),(5,.ref q (g+1) 0 (((L.take k).filter (W3 A B)).length+1)),(17,ints L),(18,Qb L.length),(19,Qb (k+1:Nat))]) (by simp only[go_sem,I]),CM.of (.inr ⟨q,g+1,0,JC ((L.take k).filter (W3 A B)).length 0 s (λ_=>[Qb id]),?_,⟨u,rfl⟩,?_,?_⟩) ((hx.set u _).app _)⟩
      .rw[c,b];simp
      .rw[c,b,QE (by simpa using m),Qt m];simp[Qb]
      .rw[c,b];exact LR K
   | none=>
    rw[v]at t;simp only[xp,XZ,YF]at t;have b:W3 A B id=true:=by unfold W3;rw[M,v];simp
    apply Qf a;simp only[go_sem,Qa,N,j,<- Q];apply Ju a wz E;apply QP a;refine Xr a wz ?_ (t _) ?_
    .simp only[go_sem,Qa,bne,Go.undef,PH,PI]
    apply Qf a;simp only[go_sem,Qa,bne,Go.undef,PH,PI];rcases C with ⟨rfl,r⟩|⟨q,g,O,s,rfl,⟨u,rfl⟩,p,K⟩
    ·(try simp only[go_sem,Qa,Go.undef])
     refine⟨j,_,Qr.frame (fr':=[(0,.ptr f 0 0 0),(1,.ptr n 0 0 0),(5,.ref (H.length+3) 0 0 1),(17,ints L),(18,Qb L.length),(19,Qb (k+1:Nat))]) (by simp only[go_sem,I]),CM.of (.inr ⟨H.length+3,0,0,λ_=>[Qb id],?_,⟨by have:=hx.len;omega,rfl⟩,?_,?_⟩) (hx.app _)⟩
     .rw[c,r,b];rfl
     .rw[c,r,b,VP rfl];rfl
     .rw[c,r,b];intro i z;obtain rfl:i=0:=by simp at z;omega
      rfl
    .have m:=Qc p;rw[JR]at p;simp only[go_sem,Qa,Go.undef,p,m];refine⟨by have:=Yr (W3 A B) (L.take k);simp at this;omega,j,_,Qr.frame (fr':=[(0,.ptr f 0 0 0),(1,.ptr n 0 0 0),(5,.ref q (g+1) 0 (((L.take k).filter (W3 A B)).length+1)),(17,ints L),(18,Qb L.length),(19,Qb (k+1:Nat))]) (by simp only[go_sem,I]),CM.of (.inr ⟨q,g+1,0,JC ((L.take k).filter (W3 A B)).length 0 s (λ_=>[Qb id]),?_,⟨u,rfl⟩,?_,?_⟩) ((hx.set u _).app _)⟩
     .rw[c,b];simp
     .rw[c,b,QE (by simpa using m),Qt m];simp[Qb]
     .rw[c,b];exact LR K
  | none=>
   rw[M]at E;simp only[xp,XZ,YF]at E;cases v:Qy B id with
   | some y=>
    rw[v]at t;simp only[Ky,wh,Vp]at t;have b:W3 A B id=true:=by unfold W3;rw[M,v];simp
    apply Qf a;simp only[go_sem,Qa,N,j,<- Q];apply Ju a wz E;apply QP a;refine Xr a wz ?_ (t _) ?_
    .simp only[go_sem,Qa,bne,Go.undef,PH,PI]
    apply Qf a;simp only[go_sem,Qa,bne,Go.undef,PH,PI];rcases C with ⟨rfl,r⟩|⟨q,g,O,s,rfl,⟨u,rfl⟩,p,K⟩
    ·(try simp only[go_sem,Qa,Go.undef])
     refine⟨j,_,Qr.frame (fr':=[(0,.ptr f 0 0 0),(1,.ptr n 0 0 0),(5,.ref (H.length+3) 0 0 1),(17,ints L),(18,Qb L.length),(19,Qb (k+1:Nat))]) (by simp only[go_sem,I]),CM.of (.inr ⟨H.length+3,0,0,λ_=>[Qb id],?_,⟨by have:=hx.len;omega,rfl⟩,?_,?_⟩) (hx.app _)⟩
     .rw[c,r,b];rfl
     .rw[c,r,b,VP rfl];rfl
     .rw[c,r,b];intro i z;obtain rfl:i=0:=by simp at z;omega
      rfl
    .have m:=Qc p;rw[JR]at p;simp only[go_sem,Qa,Go.undef,p,m];refine⟨by have:=Yr (W3 A B) (L.take k);simp at this;omega,j,_,Qr.frame (fr':=[(0,.ptr f 0 0 0),(1,.ptr n 0 0 0),(5,.ref q (g+1) 0 (((L.take k).filter (W3 A B)).length+1)),(17,ints L),(18,Qb L.length),(19,Qb (k+1:Nat))]) (by simp only[go_sem,I]),CM.of (.inr ⟨q,g+1,0,JC ((L.take k).filter (W3 A B)).length 0 s (λ_=>[Qb id]),?_,⟨u,rfl⟩,?_,?_⟩) ((hx.set u _).app _)⟩
     .rw[c,b];simp
     .rw[c,b,QE (by simpa using m),Qt m];simp[Qb]
     .rw[c,b];exact LR K
   | none=>
    rw[v]at t;simp only[xp,XZ,YF]at t;have b:W3 A B id=false:=by unfold W3;rw[M,v];simp
    apply Qf a;simp only[go_sem,Qa,N,j,<- Q];apply Ju a wz E;apply QP a;refine Xr a wz ?_ (t _) ?_
    .simp only[go_sem,Qa,bne,Go.undef,PH,PI]
    apply Qf a;simp only[go_sem,Qa,bne,Go.undef,PH,PI];refine⟨j,_,Qr.frame (fr':=[(0,.ptr f 0 0 0),(1,.ptr n 0 0 0),(5,d),(17,ints L),(18,Qb L.length),(19,Qb (k+1:Nat))]) (by simp only[go_sem,I]),CM.of (by rw[c,b,Qd π,JZ];exact C.app _) (hx.app _)⟩
 .have ZG:k=L.length:=ω;have N:=QH j;rw[ZG,Wc]at C;have Ch:yX A B=L.filter (W3 A B):=by rw[U];rfl
  rw[<- Ch]at C;have a3:(yX A B).length<200000:=by have:=Yr (W3 A B) L;rw[Ch];omega
  rcases C with ⟨rfl,r⟩|⟨q,g,O,s,rfl,⟨u,rfl⟩,p,K⟩
  .apply Qf a;simp only[go_sem,Qa,N];apply QP a;refine JG a fc (QfW H) λd h P=>?_;obtain⟨rfl,rfl⟩:=P;apply QV a;have S:Kb A B=[]:=by unfold Kb;rw[r];simp[sorted,jA,cN]
   apply Yy a Qe2 QyM;apply QP a;exact Kp.done Zm hx (.inl ⟨rfl,S⟩)
  .have m:=Qc p;apply Qf a;simp only[go_sem,Qa,N];apply QP a;refine JG a fc (QfV p ω K ω) λd h P=>?_;obtain⟨rfl,rfl⟩:=P;apply QV a;obtain⟨Z,T⟩:∃Z,Z=sorted (yX A B):=⟨_,rfl⟩;have V:Z.length=(yX A B).length:=by rw[T,Ho]
   rw[<- T,<- V];refine DD (Qr.rows q (MH Z.toArray) (Qt m) (λi z=>?_)) ?_
   .dsimp only at z ⊢;unfold wF;rw[Qe ⟨Jj _,ω⟩,EJ,QyC];simp[jI]
   rw[JE];dsimp only;have S:jA Z=Kb A B:=by rw[T];rfl
   have hc:=QyN (h:=H.set q (CL g Z.toArray)) (lo:=q) (g:=g) (Z:=Z) (Qt m) ω;rw[S]at hc;have JA:Z.toArray.size=Z.length:=σ;rw[<- JA];refine JG a Qe2 (JA▸hc) λd h P=>?_;obtain⟨rfl,KJ,rfl,Us⟩:=P;apply QV a;rw[JE];refine Kp.done Zm (hx.set u _) (.inr ⟨q,g,0,KJ,rfl,⟨u,rfl⟩,by rw[Qt m,JR],λi z=>by rw[JR];exact Us i z⟩)
def QiL{h}{b a}{A B:List Qm}(g:XE h b A)(f:XE h a B)(e:A.length<100000)(c:B.length<100000):
  Zi prog 69 h [.ptr b 0 0 0,.ptr a 0 0 0] (λd=>d=ints (Kb A B)):=Kp.closed (QyP g f e c)
def vM(T:List Qm):Prop:=∀c∈T,Qm.Ok c
def Cv.Ok.nn{c:Cv}(h:Cv.Ok c):c.Nn:=⟨(wf_u64 h.1).1,(wf_u64 h.2.1).1,(wf_u64 h.2.2.1).1⟩
def Qm.Ok.nn{c:Qm}(h:Qm.Ok c):c.Nn:=⟨h.2.2.2.1.nn,h.2.2.2.2.1.nn,h.2.2.2.2.2.1.nn⟩
def Cv.Ok.lt{c:Cv}(h:Cv.Ok c):(Ka c).Lt:=by
 have e:=wf_u64 h.1;have b:=wf_u64 h.2.1;have a:=wf_u64 h.2.2.1;refine⟨?_,?_,?_⟩<;>(simp only[Ka];omega)
def vM.QiM{T}(h:vM T):∀c∈VV T,c.Lt:=λc a=>by
 obtain⟨x,hx,rfl⟩:=Jl.1 a;exact(h x (JH.1 hx).1).2.2.2.1.lt
def vM.one{T}(h:vM T)(b:Wv T){c}(e:Z4.Ok c):vM (xX T c):=by
 unfold xX;split
 .split
  .exact λd a=>h d (JH.1 a).1
  .intro d a;rcases yI b c.cls a with rfl|a
   .exact e.2.1
   .exact h d a
 .exact h
def VA:List Qm->List Z4->Nat->Int × Nat × List Qm
 | T,[],_=>(0,0,T)
 | T,c::l,i=>if qG T c≠0 then (qG T c,i,T) else VA (xX T c) l (i+1)
def YD(T:List Qm)(t:Int)(l:List Z4):Int:=
 if 32<l.length then 2 else if (VA T l 0).1≠0 then (VA T l 0).1 else vL t (VV (VA T l 0).2.2)
def Ed(T:List Qm)(l:List Z4):Nat:=if 32<l.length then 0 else if (VA T l 0).1≠0 then (VA T l 0).2.1 else 0
def Jm(T:List Qm)(l:List Z4):List Qm:=(VA T l 0).2.2
def QiN:∀(l:List Z4) (T:List Qm) (i:Nat),KF T->vM T->(∀c∈l,Z4.Ok c)->KF (VA T l i).2.2/\vM (VA T l i).2.2
 | [],T,i,I,K,_=>⟨I,K⟩
 | c::l,T,i,I,K,a=>by
  rw[VA];split
  .exact⟨I,K⟩
  .exact QiN l _ _ (I.one c) (K.one I.rising (a c σ)) λd b=>a d (by simp[b])
def QiO{b T}{l:List Z4}{k}(a:k<l.length)(h:VA b l 0=VA T (l.drop k) k):VA b l 0=if qG T (l.getD k default)≠0 then (qG T (l.getD k default),k,T) else VA (xX T (l.getD k default)) (l.drop (k+1)) (k+1):=by
 rw[h,RI a,VA,QY,QG a];rfl
@[go_sem] def F4(l:List Z4):D:=.imm 15 l.length (Z4.rows l)
def QyU{S}{h}{t}{T}(R:WG S h t T)(I:KF T)(K:vM T)(n)(KN:1<=n)(VG:n<=65536)(l:List Z4)(Y:∀c∈l,Z4.Ok c)(hl:l.length<1000000):
  QM prog 68 h [.ptr t 0 0 0,Qb n,F4 l] (λd o=>∃p,d=.tup [if YD T n l=0 then .ptr p 0 0 0 else .raw (.pointer none),Qb (Ed T l),Qb (YD T n l)]/\(YD T n l=0->WG (λl=>h.length<=l) o p (Jm T l))/\∃g,o=h++g):=by
 have d1:decide (n<1)=false:=QH ω;have d2:decide (65536<n)=false:=QH ω;by_cases v:32<l.length
 .have d3:decide ((32:Int)<(l.length:Int))=true:=QT ω;have e1:YD T n l=2:=Qe v;have e2:Ed T l=0:=Qe v;refine Q8 func68 ntmps68 results68 λs w V e=>?_;simp only[go_sem,Qa,d1,d2,d3];rw[e1,e2];exact⟨0,rfl,(λh=>absurd h π),[],(JZ _).symm⟩
 .have d3:decide ((32:Int)<(l.length:Int))=false:=QH ω;refine Q8 func68 ntmps68 results68 λs w V e=>?_;simp only[go_sem,Qa,d1,d2,d3];refine JG e Qsf (QwF R) λd h C=>?_;obtain⟨rfl,R2,g,rfl,hg⟩:=C;apply QV e;have B:Ed T l=if (VA T l 0).1≠0 then (VA T l 0).2.1 else 0:=Qd v;have z:YD T n l=if (VA T l 0).1≠0 then (VA T l 0).1 else vL n (VV (VA T l 0).2.2):=Qd v;refine ZW (λk Q=>∃a H,WG (λl=>h.length<=l) H (h.length+1) a/\KF a/\vM a/\VA T l 0=VA a (l.drop k) k/\(∃g,H=h++g)/\Q=⟨[(1,Qb n),(9,.ptr (h.length+1) 0 0 0),(30,F4 l),(31,Qb l.length),(32,Qb k)],H⟩) l.length (s0:=⟨[(1,Qb n),(9,.ptr (h.length+1) 0 0 0),(30,F4 l),(31,Qb l.length),(32,Qb 0)],h++g⟩) QQ ⟨T,_,R2,I,K,rfl,⟨_,rfl⟩,rfl⟩ ?_;rintro k _ hk ⟨a,H,J,y,L,u,⟨f,rfl⟩,rfl⟩;by_cases j:k<l.length
  .have F:=QT j;have q:=QiO j u;have N:Z4.Ok (l.getD k default):=Y _ (Yx l default k j);obtain⟨x,hx⟩:∃x,x=l.getD k default:=⟨_,rfl⟩;rw[<- hx]at q N;have Lc:=λg=>(show QM prog 96 (h++(f++g)) [.ptr (h.length+1) 0 0 0,.agg x.cells] (λd o=>d=Qb (qG a x)/\WG (λl=>h.length<=l/\l<(h++f).length) o (h.length+1) (xX a x)/\Step (λl=>h.length<=l/\l<(h++f).length) (h++(f++g)) o) by rw[<- W9];exact QwO (J.app g) y x);have QU:=JT (show k<4611686018427387904 from ω);apply Qf e;simp only[go_sem,Qa,F,j,Z4.j4,<- hx];refine JG e Qsg (Lc _) λd E C=>?_;obtain⟨rfl,R6,U⟩:=C;have r:∃g,E=h++g:=by
    refine⟨E.drop h.length,?_⟩;apply Am;intro i;by_cases M:i<h.length
    .rw[QE M,U.keep i ξ (λh=>by have:=h.1;omega),QE M]
    .rw[Kh ω,Gy];congr 1;omega
   have R7:WG (λl=>h.length<=l) E (h.length+1) (xX a x):=R6.step λl _ W=>⟨W.1,rfl⟩;apply QV e;by_cases b:qG a x=0
   .rw[Qd (by simpa using b)]at q;have d0:(qG a x != 0)=false:=by simpa using b
    simp only[go_sem,d0];exact⟨j,_,Qr.frame (by simp only[go_sem,QU]),xX a x,_,R7,y.one x,L.one y.rising N,q,r,rfl⟩
   .rw[Qe (by simpa using b)]at q;have d0:(qG a x != 0)=true:=by simpa using b
    simp only[go_sem,d0];rw[B,z,q];simp only[Qe (show qG a x≠0 from b),Qd b];exact⟨0,trivial,(λh=>absurd h b),r⟩
  .have ZG:k=l.length:=ω;have F:=QH j;rw[ZG,List.drop_length,VA]at u;rw[u]at B z;simp only[ne_eq,not_true_eq_false,YF]at B z;have Z:Jm T l=a:=by unfold Jm;rw[u]
   have O:=y.len;have P:Zi prog 98 (h++f) [.ptr (h.length+1) 0 0 0] (λd=>d=KO (VV a)):=by
    obtain⟨m,c,es,h1,h2,h3⟩:=J.toR;exact QyB _ _ m c h3 ω h1 h2 (λx hx=>(L x hx).nn)
   have JS:=tN a;apply Qf e;simp only[go_sem,Qa,F];apply QP e;apply Ju e Qsi P;apply QP e;apply Yy e Qsh (QxW n (VV a) ω L.QiM);apply QP e;rw[B,z,Z];by_cases b:vL n (VV a)=0
   .have d0:(vL n (VV a) != 0)=false:=by simpa using b
    simp only[go_sem,Qa,d0];rw[b];exact⟨h.length+1,σ,λ_=>J,f,rfl⟩
   .have d0:(vL n (VV a) != 0)=true:=by simpa using b
    simp only[go_sem,Qa,d0];exact⟨0,by simp[b],λh=>absurd h b,f,rfl⟩
def PJ{T}(I:KF T)(K:vM T){l}(a:∀c∈l,Z4.Ok c):KF (Jm T l)/\vM (Jm T l):=QiN l T 0 I K a
def HO(T:List Qm)(a:Int):Bool:=decide (1<QJ ((Qy T a).getD default).rt)
def iw(A B:List Qm):Bool:=(Kb A B).any λid=>HO A id || HO B id
structure Nd where
 c:Qm
 Z7:Nat
 du:Du
 sh:Sh
 cp:Cp
 q:Qu
instance:Inhabited Nd:=⟨⟨default,0,default,default,default,default⟩⟩
def KW(d:D)(n:Nd):List D:=d::(n.c.cells++(u64 n.Z7::(n.du.cells++(n.sh.cells++n.cp.cells))))
section
variable (d:D)(n:Nd)
@[go_sem] theorem QHx:(KW d n).getD 0 D.undef=d:=rfl
@[go_sem] theorem QHy:(List.drop 1 (KW d n)).getD 0 D.undef=Qb n.c.iD:=rfl
@[go_sem] theorem QHz:(List.drop 2 (KW d n)).getD 0 D.undef=Qb n.c.parent:=rfl
@[go_sem] theorem QHA:(List.drop 3 (KW d n)).getD 0 D.undef=QX n.c.leaf:=rfl
@[go_sem] theorem QHB:(List.drop 15 (KW d n)).getD 0 D.undef=u64 n.Z7:=rfl
@[go_sem] theorem QHC:(List.drop 36 (KW d n)).getD 0 D.undef=u64 n.du.YC:=rfl
@[go_sem] theorem QHD:(List.drop 37 (KW d n)).getD 0 D.undef=u64 n.du.dead:=rfl
@[go_sem] theorem QHE:(List.drop 48 (KW d n)).getD 0 D.undef=u64 n.sh.time:=rfl
@[go_sem] theorem QHF:(List.drop 59 (KW d n)).getD 0 D.undef=u64 n.cp.fit:=rfl
@[go_sem] theorem QHG:List.take 14 (List.drop 1 (KW d n))=n.c.cells:=rfl
@[go_sem] theorem QHH:List.take 3 (List.drop 4 (KW d n))=n.c.rt.cells:=rfl
@[go_sem] theorem QHI:List.take 3 (List.drop 7 (KW d n))=n.c.ls.cells:=rfl
@[go_sem] theorem QHJ:List.take 3 (List.drop 10 (KW d n))=n.c.ul.cells:=rfl
@[go_sem] theorem QHK:List.take 22 (List.drop 16 (KW d n))=n.du.cells:=rfl
@[go_sem] theorem QHL:List.take 11 (List.drop 38 (KW d n))=n.sh.cells:=rfl
@[go_sem] theorem QHM:List.take 11 (List.drop 49 (KW d n))=n.cp.cells:=rfl
@[go_sem] theorem QHN(v):List.take 15 (KW d n)++(.raw (.int .u64 ((v:Nat):Int))::List.drop 16 (KW d n))=KW d { n with Z7:=v }:=rfl
@[go_sem] theorem QHO(x:Du):List.take 16 (KW d n)++(.raw (.bool x.has)::.raw (.int .u64 ((x.dl.f.x:Nat):Int))::.raw (.int .u64 ((x.dl.f.y / 18446744073709551616:Nat):Int))::.raw (.int .u64 ((x.dl.f.y % 18446744073709551616:Nat):Int))::.raw (.int .u64 ((x.dl.f.m:Nat):Int))::.raw (.int .u64 ((x.dl.t.x:Nat):Int))::.raw (.int .u64 ((x.dl.t.y / 18446744073709551616:Nat):Int))::.raw (.int .u64 ((x.dl.t.y % 18446744073709551616:Nat):Int))::.raw (.int .u64 ((x.dl.t.m:Nat):Int))::.raw (.bool x.dl.b)::.raw (.int .u64 ((x.rd.f.x:Nat):Int))::.raw (.int .u64 ((x.rd.f.y / 18446744073709551616:Nat):Int))::.raw (.int .u64 ((x.rd.f.y % 18446744073709551616:Nat):Int))::.raw (.int .u64 ((x.rd.f.m:Nat):Int))::.raw (.int .u64 ((x.rd.t.x:Nat):Int))::.raw (.int .u64 ((x.rd.t.y / 18446744073709551616:Nat):Int))::.raw (.int .u64 ((x.rd.t.y % 18446744073709551616:Nat):Int))::.raw (.int .u64 ((x.rd.t.m:Nat):Int))::.raw (.bool x.rd.b)::.raw (.int .u64 ((x.JU:Nat):Int))::.raw (.int .u64 ((x.YC:Nat):Int))::.raw (.int .u64 ((x.dead:Nat):Int))::List.drop 38 (KW d n))=KW d { n with du:=x }:=rfl
@[go_sem] theorem QyV(x:Sh):List.take 38 (KW d n)++(.raw (.bool x.has)::.raw (.int .u64 ((x.run.f.x:Nat):Int))::.raw (.int .u64 ((x.run.f.y / 18446744073709551616:Nat):Int))::.raw (.int .u64 ((x.run.f.y % 18446744073709551616:Nat):Int))::.raw (.int .u64 ((x.run.f.m:Nat):Int))::.raw (.int .u64 ((x.run.t.x:Nat):Int))::.raw (.int .u64 ((x.run.t.y / 18446744073709551616:Nat):Int))::.raw (.int .u64 ((x.run.t.y % 18446744073709551616:Nat):Int))::.raw (.int .u64 ((x.run.t.m:Nat):Int))::.raw (.bool x.run.b)::.raw (.int .u64 ((x.time:Nat):Int))::List.drop 49 (KW d n))=KW d { n with sh:=x }:=rfl
@[go_sem] theorem QHP(x:Cp):List.take 49 (KW d n)++(.raw (.bool x.has)::.raw (.int .u64 ((x.run.f.x:Nat):Int))::.raw (.int .u64 ((x.run.f.y / 18446744073709551616:Nat):Int))::.raw (.int .u64 ((x.run.f.y % 18446744073709551616:Nat):Int))::.raw (.int .u64 ((x.run.f.m:Nat):Int))::.raw (.int .u64 ((x.run.t.x:Nat):Int))::.raw (.int .u64 ((x.run.t.y / 18446744073709551616:Nat):Int))::.raw (.int .u64 ((x.run.t.y % 18446744073709551616:Nat):Int))::.raw (.int .u64 ((x.run.t.m:Nat):Int))::.raw (.bool x.run.b)::.raw (.int .u64 ((x.fit:Nat):Int))::List.drop 60 (KW d n))=KW d { n with cp:=x }:=rfl
end
inductive Tag where
 | no|sc|tree|tU|xK (id:Int)|zf (id:Int)|on|lv|mk|Yj (id:Int)|QyW
deriving DecidableEq
def Q4(a:Nat->Tag)(h:List Ob)(t:Tag):Nat->Tag:=λl=>if h.length<=l then t else a l
def iz{a}{h}{t}(l):more (λl=>a l=t) h l->Q4 a h t l=t:=λb=>by
 unfold Q4;split
 .rfl
 .rcases b with b|b
  .exact b
  .omega
def Ku{a}{h:List Ob}{t}{l}(b:l<h.length):Q4 a h t l=a l:=by unfold Q4;rw[Qd ω]
structure Qo where
 lk:Cf
 T:List Qm
 To:List Qm
 N:List Nd
 A:List Int
 Lv:List It
 ks:Int->Bool
 KT:Int->List It
 Qh:Nat
 acc:Nat
structure Loc where
 t:Nat
 b:Nat
 o:Nat
 v:Nat
 m:Nat
 cb:Nat
 cm:Nat
 eb:List ZF
 em:List ZF
 le:Int->Nat
 lq:Int->Nat
 lk:Int->Nat
def Qk(N:List Nd)(a:Int):Option Nd:=N.find? λn=>n.c.iD==a
@[go_sem] def kz(c:Cf)(t b o v m d a:Nat):Ob:=⟨.one,0,9,1,λ_=>[Qb c.t,Qb c.JI,.ptr t 0 0 0,.mref b 0,.ptr o 0 0 0,.ptr v 0 0 0,.mref m 0,u64 d,u64 a]⟩
@[go_sem] def YZ(d:D)(n:Nd):Ob:=⟨.one,0,60,1,λ_=>KW d n⟩
def qD(a:Int->Nat)(n:Nd):D:=if n.c.leaf=true then .ptr (a n.c.iD) 0 0 0 else .raw (.pointer none)
structure Nd.Ok (n:Nd):Prop where
 Z7:n.Z7<18446744073709551616
 du:n.du.Ok
 sh:n.sh.Ok
 cp:n.cp.Ok
 c:Qm.Ok n.c
structure ZD (own:Nat->Tag) (h:List Ob) (p:Nat) (L:Loc) (M:Qo):Prop where
 ob:h[p]? = some (kz M.lk L.t L.b L.o L.v L.m M.Qh M.acc)
 op:own p=.sc
 tr:WG (λl=>own l=.tree) h L.t M.T
 V9:h[L.b]? = some (QS .i64 L.cb L.eb)
 zg:Vc L.eb (λid=>(Qk M.N id).map λ_=>.ptr (L.le id) 0 0 0)
 ow:own L.b=.tU
 Jy:∀id n,Qk M.N id=some n->h[L.le id]? = some (YZ (qD L.lq n) n)/\own (L.le id)=.xK id
 XG:∀id n,Qk M.N id=some n->n.c.leaf=true->∃k:Nat,n.c.ZR=k/\wL (λl=>own l=.zf id) h (L.lq id) k n.c.bytes n.q
 zj:jw (λl=>own l=.on) h L.o M.To M.A
 Yk:WX (λl=>own l=.lv) h L.v M.Lv
 Wm:h[L.m]? = some (QS .i64 L.cm L.em)
 Yl:Vc L.em (λid=>if M.ks id=true then some (.ptr (L.lk id) 0 0 0) else none)
 om:own L.m=.mk
 kids:∀id,M.ks id=true->WX (λl=>own l=.Yj id) h (L.lk id) (M.KT id)
 qH:∀id n,Qk M.N id=some n->n.Ok
def WX.step{S S'}{h h':List Ob}{p}{L}(e:∀l,l<h.length->S l->S' l/\h'[l]? = h[l]?):WX S h p L->WX S' h' p L:=λ⟨a,m,t,c,g,T⟩=>
 have k:∀l o,S l->h[l]? = some o->h'[l]? = some o:=λl o f d=>(e l (Qc d) f).2.trans d
 ⟨a,m,t,c,g,k _ _ T.sp T.o,⟨k _ _ T.sa T.av.o,T.av.is.frame λl b=>(e l (T.av.is.lt l b) (T.st l b)).2,T.av.list,T.av.nd,T.av.out,T.av.sorted⟩,k _ _ T.sm T.mo,T.mp,T.vi,T.pa,T.pm,T.am,T.pt,T.mt,(e _ (Qc T.o) T.sp).1,(e _ (Qc T.av.o) T.sa).1,(e _ (Qc T.mo) T.sm).1,λl b=>(e l (T.av.is.lt l b) (T.st l b)).1⟩
def Live(t:Tag):Prop:=t≠.no/\t≠.QyW
def ZD.step{c own'}{h h':List Ob}{p}{L}{M}(C:ZD c h p L M)(e:∀l,l<h.length->Live (c l)->own' l=c l/\h'[l]? = h[l]?):ZD own' h' p L M:=by
 have k:∀l o t,c l=t->Live t->h[l]? = some o->h'[l]? = some o:=λl o t d f i=>(e l (Qc i) (by rw[d];exact f)).2.trans i;have g:∀l o t,c l=t->Live t->h[l]? = some o->own' l=t:=λl o t d f i=>by rw[(e l (Qc i) (by rw[d];exact f)).1,d]
 have s:∀t,Live t->∀l,l<h.length->c l=t->own' l=t/\h'[l]? = h[l]? := λt f l m d=>by
  obtain⟨a,b⟩:=e l m (by rw[d];exact f);exact⟨by rw[a,d],b⟩
 refine⟨k _ _ _ C.op (by simp[Live]) C.ob,g _ _ _ C.op (by simp[Live]) C.ob,C.tr.step (s _ (by simp[Live])),k _ _ _ C.ow (by simp[Live]) C.V9,C.zg,g _ _ _ C.ow (by simp[Live]) C.V9,λid n j=>?_,λid n j m=>?_,C.zj.step (s _ (by simp[Live])),C.Yk.step (s _ (by simp[Live])),k _ _ _ C.om (by simp[Live]) C.Wm,C.Yl,g _ _ _ C.om (by simp[Live]) C.Wm,λid r=>(C.kids id r).step (s _ (by simp[Live])),C.qH⟩
 .obtain⟨d,f⟩:=C.Jy id n j;exact⟨k _ _ _ f (by simp[Live]) d,g _ _ _ f (by simp[Live]) d⟩
 .obtain⟨q,d,f⟩:=C.XG id n j m;exact⟨q,d,f.step (s _ (by simp[Live]))⟩
structure Zv (own:Nat->Tag) (h:List Ob) (own':Nat->Tag) (h':List Ob):Prop where
 same:∀l,l<h.length->own' l=own l
 keep:∀l,l<h.length->own l=Tag.no->h'[l]? = h[l]?
 len:h.length<=h'.length
def Zv.refl(a)(h):Zv a h a h:=⟨λ_ _=>rfl,λ_ _ _=>rfl,QB _⟩
def Zv.trans{e c i}{h h' f}(a:Zv e h c h')(b:Zv c h' i f):Zv e h i f:=
 ⟨λl d=>(b.same l (wg d a.len)).trans (a.same l d),λl d g=>(b.keep l (wg d a.len) ((a.same l d).trans g)).trans (a.keep l d g),Kv a.len b.len⟩
def Zv.app(a)(h g)(t):Zv a h (Q4 a h t) (h++g):=⟨λl b=>Ku b,λl b _=>QE b,σ⟩
def Zv.of{own}{h b}{t}(c:t≠.no)(s:Step (λl=>own l=t) h b):Zv own h (Q4 own h t) b:=
 ⟨λl a=>Ku a,λl a d=>s.keep l a (by rw[d];exact λe=>c e.symm),s.len⟩
def Zv.set{own}{h:List Ob}{l}(o)(b:own l≠.no):Zv own h own (h.set l o):=⟨λ_ _=>rfl,λj c a=>Ql (λe=>b (e▸a)),σ⟩
section
variable {own:Nat->Tag}{h h':List Ob}{p:Nat}{L:Loc}{M:Qo}(C:ZD own h p L M)
include C
theorem ZD.PK(g):ZD (Q4 own h .no) (h++g) p L M:=C.step λl a _=>⟨Ku a,QE a⟩
theorem ZD.loc{l}(a:own l=.no)(o):ZD own (h.set l o) p L M:=C.step λj _ b=>⟨rfl,Ql (λe=>b.1 (by rw[<- e,a]))⟩
theorem ZD.rest{t}(s:Step (λl=>own l=t) h h'):∀u,u≠t->∀l,l<h.length->own l=u->Q4 own h t l=u/\h'[l]? = h[l]? := λu c l a b=>
 ⟨by rw[Ku a,b],s.keep l a (by rw[b];exact c)⟩
theorem ZD.Yj(c)(x:M.ks c=true){B}(w:WX (more (λl=>own l=.Yj c) h) h' (L.lk c) B)(s:Step (λl=>own l=.Yj c) h h'):ZD (Q4 own h (.Yj c)) h' p L { M with KT:=λj=>if j=c then B else M.KT j }:=by
 have r:=C.rest s;have k:∀l o t,own l=t->t≠.Yj c->h[l]? = some o->h'[l]? = some o/\Q4 own h (.Yj c) l=t:=λl o t f d q=>by
  obtain⟨a,b⟩:=r t d l (Qc q) f;exact⟨b.trans q,a⟩
 refine⟨(k _ _ _ C.op σ C.ob).1,(k _ _ _ C.op σ C.ob).2,C.tr.step (r _ σ),(k _ _ _ C.ow σ C.V9).1,C.zg,(k _ _ _ C.ow σ C.V9).2,λi n g=>?_,λi n g m=>?_,C.zj.step (r _ σ),C.Yk.step (r _ σ),(k _ _ _ C.om σ C.Wm).1,C.Yl,(k _ _ _ C.om σ C.Wm).2,λi v=>?_,C.qH⟩
 .obtain⟨f,d⟩:=C.Jy i n g;exact k _ _ _ d σ f
 .obtain⟨u,f,d⟩:=C.XG i n g m;exact⟨u,f,d.step (r _ σ)⟩
 .by_cases e:i=c
  .subst e;dsimp only;rw[Qe rfl];exact w.mono λl m=>iz l m
  .dsimp only;rw[Qd e];exact(C.kids i v).step (r _ (by simpa using e))
theorem ZD.lv{B}(q:WX (more (λl=>own l=.lv) h) h' L.v B)(s:Step (λl=>own l=.lv) h h'):ZD (Q4 own h .lv) h' p L { M with Lv:=B }:=by
 have r:=C.rest s;have k:∀l o t,own l=t->t≠.lv->h[l]? = some o->h'[l]? = some o/\Q4 own h .lv l=t:=λl o t d c g=>by
  obtain⟨a,b⟩:=r t c l (Qc g) d;exact⟨b.trans g,a⟩
 refine⟨(k _ _ _ C.op σ C.ob).1,(k _ _ _ C.op σ C.ob).2,C.tr.step (r _ σ),(k _ _ _ C.ow σ C.V9).1,C.zg,(k _ _ _ C.ow σ C.V9).2,λi n e=>?_,λi n e f=>?_,C.zj.step (r _ σ),q.mono λl f=>iz l f,(k _ _ _ C.om σ C.Wm).1,C.Yl,(k _ _ _ C.om σ C.Wm).2,λi m=>(C.kids i m).step (r _ σ),C.qH⟩
 .obtain⟨d,c⟩:=C.Jy i n e;exact k _ _ _ c σ d
 .obtain⟨j,d,c⟩:=C.XG i n e f;exact⟨j,d,c.step (r _ σ)⟩
theorem ZD.act{j}(u:jw (more (λl=>own l=.on) h) h' L.o M.To j)(s:Step (λl=>own l=.on) h h'):ZD (Q4 own h .on) h' p L { M with A:=j }:=by
 have r:=C.rest s;have k:∀l o t,own l=t->t≠.on->h[l]? = some o->h'[l]? = some o/\Q4 own h .on l=t:=λl o t d c g=>by
  obtain⟨a,b⟩:=r t c l (Qc g) d;exact⟨b.trans g,a⟩
 refine⟨(k _ _ _ C.op σ C.ob).1,(k _ _ _ C.op σ C.ob).2,C.tr.step (r _ σ),(k _ _ _ C.ow σ C.V9).1,C.zg,(k _ _ _ C.ow σ C.V9).2,λi n e=>?_,λi n e f=>?_,u.step λl _ f=>⟨iz l f,rfl⟩,C.Yk.step (r _ σ),(k _ _ _ C.om σ C.Wm).1,C.Yl,(k _ _ _ C.om σ C.Wm).2,λi q=>(C.kids i q).step (r _ σ),C.qH⟩
 .obtain⟨d,c⟩:=C.Jy i n e;exact k _ _ _ c σ d
 .obtain⟨m,d,c⟩:=C.XG i n e f;exact⟨m,d,c.step (r _ σ)⟩
end
def Zv.Ef{b}{h:List Ob}{a}{H:List Ob}(D:Zv b h a H){l}(e:h.length<=l)(o):Zv b h a (H.set l o):=⟨D.same,λj d c=>by rw[Ql ω];exact D.keep j d c,by simpa using D.len⟩
def Ve(N:List Nd)(a:Int)(f:Nd->Nd):List Nd:=N.map λn=>if n.c.iD=a then f n else n
def kB{N}{id}{f}(c:∀n,(f n).c.iD=n.c.iD)(j:Int):Qk (Ve N id f) j=if j=id then (Qk N j).map f else Qk N j:=by
 unfold Qk Ve;rw[List.find?_map];have e:((λn:Nd=>n.c.iD==j) ∘ λn=>if n.c.iD=id then f n else n)=λn=>n.c.iD==j:=by
  funext n;simp only[Function.comp_apply];split<;>simp[c]
 rw[e];by_cases b:j=id
 .subst b;rw[Qe rfl];cases a:N.find? λn=>n.c.iD==j with
  | none=>rfl
  | some n=>
   have:=yj a;simp only[zF]at this;simp[this]
 .rw[Qd b];cases a:N.find? λn=>n.c.iD==j with
  | none=>rfl
  | some n=>
   have:=yj a;simp only[zF]at this;simp only[K6];rw[Qd (by rw[this];exact b)]
section
variable {own:Nat->Tag}{h:List Ob}{p:Nat}{L:Loc}{M:Qo}(C:ZD own h p L M)
include C
theorem ZD.xK{b}{n:Nd}(g:Qk M.N b=some n)(f)(w:∀n,(f n).c=n.c)(z:∀n,(f n).q=n.q)(I:(f n).Ok):ZD own (h.set (L.le b) (YZ (qD L.lq n) (f n))) p L { M with N:=Ve M.N b f }:=by
 obtain⟨F,x⟩:=C.Jy b n g;have s:∀l o t,own l=t->t≠.xK b->h[l]? = some o->(h.set (L.le b) (YZ (qD L.lq n) (f n)))[l]? = some o:=λl o t q E B=>by
  rw[Ql (λe=>E (by rw[<- q,<- e,x]))];exact B
 have r:∀t,t≠.xK b->∀l,l<h.length->own l=t->own l=t/\(h.set (L.le b) (YZ (qD L.lq n) (f n)))[l]? = h[l]? := λt y l k q=>⟨q,Ql (λe=>y (by rw[<- q,<- e,x]))⟩;have H:∀n,(f n).c.iD=n.c.iD:=λn=>by rw[w]
 have u:=kB (N:=M.N) (id:=b) H;refine⟨s _ _ _ C.op σ C.ob,C.op,C.tr.step (r _ σ),s _ _ _ C.ow σ C.V9,C.zg.to λj=>?_,C.ow,λj m a=>?_,λj m a k=>?_,C.zj.step (r _ σ),C.Yk.step (r _ σ),s _ _ _ C.om σ C.Wm,C.Yl,C.om,λj c=>(C.kids j c).step (r _ σ),λj m a=>?_⟩
 .dsimp only;rw[u];split
  .cases Qk M.N j<;>rfl
  .rfl
 .dsimp only at a;rw[u]at a;by_cases c:j=b
  .subst c;rw[Qe rfl,g,K6]at a;cases a;refine⟨?_,x⟩;rw[Qt (Qc F)];unfold qD;rw[w]
  .rw[Qd c]at a;obtain⟨i,d⟩:=C.Jy j m a;exact⟨s _ _ _ d (by simpa using c) i,d⟩
 .dsimp only at a;rw[u]at a;by_cases c:j=b
  .subst c;rw[Qe rfl,g,K6]at a;cases a;rw[w]at k ⊢;rw[z];obtain⟨v,i,d⟩:=C.XG j n g k;exact⟨v,i,d.step (r _ σ)⟩
  .rw[Qd c]at a;obtain⟨v,i,d⟩:=C.XG j m a k;exact⟨v,i,d.step (r _ σ)⟩
 .dsimp only at a;rw[u]at a;by_cases c:j=b
  .subst c;rw[Qe rfl,g,K6]at a;cases a;exact I
  .rw[Qd c]at a;exact C.qH j m a
theorem ZD.zf{w:List Ob}{d:Int}{n:Nd}(i:Qk M.N d=some n)(J:n.c.leaf=true){k:Nat}(F:n.c.ZR=k){y:Qu}(Q:wL (λl=>own l=.zf d) w (L.lq d) k n.c.bytes y)(s:Step (λl=>own l=.zf d) h w):ZD (Q4 own h (.zf d)) w p L { M with N:=Ve M.N d λn=>{ n with q:=y } }:=by
 have r:=C.rest s;have g:∀l o t,own l=t->t≠.zf d->h[l]? = some o->w[l]? = some o/\Q4 own h (.zf d) l=t:=λl o t z H E=>by
  obtain⟨a,b⟩:=r t H l (Qc E) z;exact⟨b.trans E,a⟩
 have x:=kB (N:=M.N) (id:=d) (f:=λn=>{ n with q:=y }) (λ_=>rfl);refine⟨(g _ _ _ C.op σ C.ob).1,(g _ _ _ C.op σ C.ob).2,C.tr.step (r _ σ),(g _ _ _ C.ow σ C.V9).1,C.zg.to λj=>?_,(g _ _ _ C.ow σ C.V9).2,λj m c=>?_,λj m c I=>?_,C.zj.step (r _ σ),C.Yk.step (r _ σ),(g _ _ _ C.om σ C.Wm).1,C.Yl,(g _ _ _ C.om σ C.Wm).2,λj e=>(C.kids j e).step (r _ σ),λj m c=>?_⟩
 .dsimp only;rw[x];split
  .cases Qk M.N j<;>rfl
  .rfl
 .dsimp only at c;rw[x]at c;by_cases e:j=d
  .subst e;rw[Qe rfl,i,K6]at c;cases c;obtain⟨v,u⟩:=C.Jy j n i;exact g _ _ _ u σ v
  .rw[Qd e]at c;obtain⟨v,u⟩:=C.Jy j m c;exact g _ _ _ u σ v
 .dsimp only at c;rw[x]at c;by_cases e:j=d
  .subst e;rw[Qe rfl,i,K6]at c;cases c;exact⟨k,F,Q.step λl _ z=>⟨iz l (.inl z),rfl⟩⟩
  .rw[Qd e]at c;obtain⟨B,v,u⟩:=C.XG j m c I;exact⟨B,v,u.step (r _ (by simpa using e))⟩
 .dsimp only at c;rw[x]at c;by_cases e:j=d
  .subst e;rw[Qe rfl,i,K6]at c;cases c;have:=C.qH j n i;exact⟨this.Z7,this.du,this.sh,this.cp,this.c⟩
  .rw[Qd e]at c;exact C.qH j m c
theorem ZD.Qh(c a):ZD own (h.set p (kz M.lk L.t L.b L.o L.v L.m c a)) p L { M with Qh:=c,acc:=a }:=by
 have i:∀l o t,own l=t->t≠.sc->h[l]? = some o->(h.set p (kz M.lk L.t L.b L.o L.v L.m c a))[l]? = some o:=λl o t b v u=>by
  rw[Ql (λe=>v (by rw[<- b,<- e,C.op]))];exact u
 have r:∀t,t≠.sc->∀l,l<h.length->own l=t->own l=t/\(h.set p (kz M.lk L.t L.b L.o L.v L.m c a))[l]? = h[l]? := λt q l k b=>⟨b,Ql (λe=>q (by rw[<- b,<- e,C.op]))⟩;refine⟨Qt (Qc C.ob),C.op,C.tr.step (r _ σ),i _ _ _ C.ow σ C.V9,C.zg,C.ow,λj m f=>?_,λj m f k=>?_,C.zj.step (r _ σ),C.Yk.step (r _ σ),i _ _ _ C.om σ C.Wm,C.Yl,C.om,λj s=>(C.kids j s).step (r _ σ),C.qH⟩
 .obtain⟨g,d⟩:=C.Jy j m f;exact⟨i _ _ _ d σ g,d⟩
 .obtain⟨n,g,d⟩:=C.XG j m f k;exact⟨n,g,d.step (r _ σ)⟩
end
structure Qz (M:Qo):Prop where
 tree:KF M.T
 yY:vM M.T
 to:M.To=M.T
 nodes:M.T=M.N.map (·.c)
 Y0:yK M.T M.A
 ks:∀id,M.ks id=true↔id=0\/∃n,Qk M.N id=some n/\n.c.leaf=false
 Bn:∀x∈M.Lv,(Qy M.T x.ki).isSome=true
 vN:∀id,∀x∈M.KT id,∃c,Qy M.T x.ki=some c/\c.parent=id
 wS:∀id,∀x∈M.KT id,x.ka<=18446744073709551615
 Qh:M.Qh<=4611686018427387904
 acc:M.acc<=1099511627776
def tV(N:List Nd)(a:Int):Qy (N.map (·.c)) a=(Qk N a).map (·.c):=by
 unfold Qy Qk;rw[List.find?_map];rfl
section
variable {M:Qo}(I:Qz M)
include I
theorem Qz.find(a:Int):Qy M.T a=(Qk M.N a).map (·.c):=by rw[I.nodes,tV]
theorem Qz.tW(a):∀x∈M.KT a,(Qy M.T x.ki).isSome=true:=λx hx=>by
 obtain⟨c,b,_⟩:=I.vN a x hx;rw[b];rfl
theorem Qz.some{a}{n:Nd}(h:Qk M.N a=some n):Qy M.T a=Option.some n.c:=by rw[I.find,h];rfl
omit I in
theorem Qz.id{a}{n:Nd}(h:Qk M.N a=Option.some n):n.c.iD=a:=by
 have:=yj h;simpa using this
theorem Qz.iA{a}{n}(h:Qk M.N a=Option.some n):a≠0:=λe=>by
 have:=I.some h;rw[e,LW I.tree]at this;cases this
theorem Qz.Uu{a}{c}(h:Qy M.T a=Option.some c):∃n,Qk M.N a=Option.some n/\n.c=c:=by
 rw[I.find]at h;cases b:Qk M.N a with
 | none=>rw[b]at h;cases h
 | some n=>rw[b]at h;exact⟨n,rfl,NL h⟩
end
def WX.nd{S}{h}{p}{L:List It}:WX S h p L->(L.map It.ki).Nodup:=λ⟨a,m,t,c,b,T⟩=>T.ids
def Uv{T}(I:KF T){L:List It}(d:(L.map It.ki).Nodup)(b:∀x∈L,(Qy T x.ki).isSome=true):L.length<=64:=by
 have f:(L.map It.ki).length<=(T.map (·.iD)).length:=by
  refine List.Nodup.length_le_of_subset d λi e=>?_;obtain⟨x,hx,rfl⟩:=Jl.1 e;obtain⟨c,a⟩:=EK.1 (b x hx);exact Jl.2 ⟨c,yJ I a,Quy I a⟩
 have:=I.len;simp only[KK]at f;omega
def Kg(M:Qo)(a:Int):Bool:=Jq M.T M.A a
def W5(M:Qo)(a:Int)(n:Nd):Nat:=if n.c.leaf=true\/Kg M a=false then n.cp.fit else max n.cp.fit (xT (M.KT a))
section
variable {own:Nat->Tag}{h:List Ob}{p:Nat}{L:Loc}{M:Qo}(C:ZD own h p L M)(I:Qz M)
include C I
omit I in
theorem ZD.look{a}{n}(b:Qk M.N a=some n):ZZ L.eb a=some (.ptr (L.le a) 0 0 0):=by
 have:=C.zg.at_ a;rw[b]at this;exact this
theorem ZD.iB:Mc h L.o M.T M.A:=by
 have:=C.zj.toR;rwa [I.to]at this
theorem QyY{a}{n}(l:Qk M.N a=some n):Zi prog 206 h [.ptr p 0 0 0,.ptr (L.le a) 0 0 0] (λd=>d=u64 (W5 M a n)):=by
 have b:=Z3 C.ob;have c:=Z3 (C.Jy a n l).1;have m:=Z3 C.Wm;have o:=Qz.id l;have t:=O6 (C.iB I) I.tree I.Y0 a (I.iA l);unfold W5;cases i:n.c.leaf with
 | true=>
  rw[Qe (.inl rfl)];refine ZJ func206 ntmps206 results206 λk w u F j y e=>?_;rw[<- j]at b c;have f:=Qc b;have g:=Qc c;simp only[go_sem,Qa,b,f,c,g];apply Qx e o08;simp only[go_sem,Qa,b,f,c,g,i,Go.undef];all_goals exact Xg
 | false=>
  have v:M.ks a=true:=(I.ks a).2 (.inr ⟨n,l,i⟩);have x:=C.Yl.at_ a;rw[Qe v]at x;have B:=(C.kids a v).toR;have z:Jq M.T M.A a=Kg M a:=rfl;rw[z]at t;cases r:Kg M a with
  | false=>
   rw[r]at t;rw[Qe (.inr rfl)];refine ZJ func206 ntmps206 results206 λk w u F j y e=>?_;rw[<- j]at b c;have f:=Qc b;have g:=Qc c;simp only[go_sem,Qa,b,f,c,g];apply Qx e o08;simp only[go_sem,Qa,b,f,c,g,i,Go.undef];have q:Jq M.T M.A a=false:=r;refine js e SU ?_ (O6 ((C.iB I).more (VI j)) I.tree I.Y0 a (I.iA l)) ?_
   .simp only[go_sem,Qa,b,f,c,g,i,Go.undef,o,q]
   apply Zk e;simp only[go_sem,Qa,b,f,c,g,i,Go.undef,o,q];all_goals exact Xg
  | true=>
   rw[r]at t;rw[Qd σ];have q:Jq M.T M.A a=true:=r;refine ZJ func206 ntmps206 results206 λk w u F j y e=>?_;rw[<- j]at b c m;have f:=Qc b;have g:=Qc c;have s:=Qc m;simp only[go_sem,Qa,b,f,c,g,m,s];apply Qx e o08;simp only[go_sem,Qa,b,f,c,g,i,Go.undef];refine js e SU ?_ (O6 ((C.iB I).more (VI j)) I.tree I.Y0 a (I.iA l)) ?_
   .simp only[go_sem,Qa,b,f,c,g,i,Go.undef,o,q]
   apply Zk e;simp only[go_sem,Qa,b,f,c,g,i,Go.undef,o,q];apply Qx e [0,1,2,3,4,5,6,7,8,9,10,11,12,13,14,1015,1016,17];simp only[go_sem,Qa,b,f,c,g,m,s,x,o];apply XB e Qe9 (QgL (B.more (VI j)) (I.wS a));apply Zk e;simp only[go_sem,Qa,b,f,c,g,m,s];apply S3 e Qts (QwC n.cp.fit (xT (M.KT a)));apply YQ e;all_goals exact Xg
end
def QD(M:Qo)(a:Int):Nd:=(Qk M.N a).getD default
def VJ(M:Qo)(a:Int):Qo:=
 if Kg M a=true then { M with KT:=λj=>if j=(QD M a).c.parent then YB a (QD M a).sh.time (W5 M a (QD M a)) (M.KT (QD M a).c.parent) else M.KT j } else M
def Wg(M:Qo):List Int->Qo
 | []=>M
 | id::r=>Wg (VJ M id) r
def QiQ(M):∀(l r:List Int),Wg M (l++r)=Wg (Wg M l) r
 | [],r=>rfl
 | id::l,r=>QiQ (VJ M id) l r
def PL(M:Qo)(a:Int):(VJ M a).N=M.N/\(VJ M a).T=M.T/\(VJ M a).To=M.To/\(VJ M a).A=M.A/\(VJ M a).Lv=M.Lv/\(VJ M a).ks=M.ks/\(VJ M a).Qh=M.Qh/\(VJ M a).acc=M.acc/\(VJ M a).lk=M.lk:=by
 unfold VJ;split<;>exact⟨rfl,rfl,rfl,rfl,rfl,rfl,rfl,rfl,rfl⟩
def F6:∀(l:List Int) (M:Qo),(Wg M l).N=M.N/\(Wg M l).T=M.T/\(Wg M l).To=M.To/\(Wg M l).A=M.A/\(Wg M l).Lv=M.Lv/\(Wg M l).ks=M.ks/\(Wg M l).Qh=M.Qh/\(Wg M l).acc=M.acc/\(Wg M l).lk=M.lk
 | [],M=>⟨rfl,rfl,rfl,rfl,rfl,rfl,rfl,rfl,rfl⟩
 | id::l,M=>by
  obtain⟨s,r,q,p,o,n,m,k,j⟩:=F6 l (VJ M id);obtain⟨i,h,g,f,e,d,c,b,a⟩:=PL M id;exact⟨s.trans i,r.trans h,q.trans g,p.trans f,o.trans e,n.trans d,m.trans c,k.trans b,j.trans a⟩
def tX{M:Qo}(I:Qz M){b}{n:Nd}(c:Qk M.N b=some n)(o:n.Ok):Qz (VJ M b):=by
 obtain⟨d,a,m,l,k,i,h,g,p⟩:=PL M b;have e:QD M b=n:=by unfold QD;rw[c];rfl
 refine⟨by rw[a];exact I.tree,by rw[a];exact I.yY,by rw[a,m];exact I.to,by rw[a,d];exact I.nodes,by rw[a,l];exact I.Y0,by rw[i,d];exact I.ks,by rw[k,a];exact I.Bn,λj x hx=>?_,λj x hx=>?_,by rw[h];exact I.Qh,by rw[g];exact I.acc⟩
 .rw[a];unfold VJ at hx;split at hx
  .dsimp only at hx;split at hx
   .rename_i f;subst f;rcases Hy.1 hx with rfl|hx
    .exact⟨n.c,I.some c,by rw[e]⟩
    .exact I.vN _ x (JH.1 hx).1
   .exact I.vN _ x hx
  .exact I.vN _ x hx
 .unfold VJ at hx;split at hx
  .dsimp only at hx;split at hx
   .rcases Hy.1 hx with rfl|hx
    .rw[e];have:=o.sh.time;show n.sh.time<=_;omega
    .exact I.wS _ x (JH.1 hx).1
   .exact I.wS _ x hx
  .exact I.wS _ x hx
structure PM (own:Nat->Tag) (h:List Ob) (p:Nat) (L:Loc) (M:Qo) (U:List Int) (k:Nat) (s:St):Prop where
 ex:∃own' H,ZD own' H p L (Wg M (U.take k))/\Qz (Wg M (U.take k))/\Zv own h own' H/\s=⟨[(0,.ptr p 0 0 0),(12,ints U),(13,Qb U.length),(14,Qb k)],H⟩
def PM.of{own}{h}{p}{L}{M}{U:List Int}{k}{a}{H}(C:ZD a H p L (Wg M (U.take k)))(I:Qz (Wg M (U.take k)))(D:Zv own h a H):PM own h p L M U k ⟨[(0,.ptr p 0 0 0),(12,ints U),(13,Qb U.length),(14,Qb k)],H⟩:=⟨⟨a,H,C,I,D,rfl⟩⟩
def tY{M:Qo}(I:Qz M){b}{n:Nd}(c:Qk M.N b=some n):M.ks n.c.parent=true:=by
 rw[I.ks];by_cases a:n.c.parent=0
 .exact .inl a
 .obtain⟨d,g,f⟩:=I.tree.J9 n.c (yJ I.tree (I.some c)) a;obtain⟨m,e,rfl⟩:=I.Uu g;exact .inr ⟨m,e,f⟩
def tZ{m}{h}{p}{L}{M:Qo}(C:ZD m h p L M)(I:Qz M)(a):QM prog 150 h [.ptr p 0 0 0,Qb a] (λd P=>∃f,ZD f P p L (Wg M (up M.T a))/\Qz (Wg M (up M.T a))/\Zv m h f P):=by
 have i:=C.ob;have Y:(up M.T a).length<=16:=A7;refine Q8 func150 ntmps150 results150 λT w pl g=>?_;have q:=Qc i;simp only[go_sem,Qa,i,q];apply Ju g fe (rB C.tr.toR I.tree.toTreeInv a);apply Qf g;simp only[go_sem,Qa,i,q];obtain⟨U,t⟩:∃U,U=up M.T a:=⟨_,rfl⟩;rw[show ZT M.T 16 a=U from t.symm];rw[<- t]at Y ⊢;refine ZW (PM m h p L M U) U.length QQ (PM.of (k:=0) C I (Zv.refl m h)) ?_;rintro k _ hk ⟨f,H,c,e,y,rfl⟩;by_cases o:k<U.length
 .have u:=QT o;obtain⟨id,v⟩:∃id,id=U.getD k 0:=⟨_,rfl⟩;have z:id∈up M.T a:=by rw[v,<- t];exact Yx U 0 k o
  obtain⟨e1,Q,e3,e4,e5,e6,e7,e8,e9⟩:=F6 (U.take k) M;have x:=Ht z;have r:Wg M (U.take (k+1))=VJ (Wg M (U.take k)) id:=by
   rw[getD_take U 0 k o,QiQ,<- v];rfl
  obtain⟨b,F7⟩:∃b,b=Wg M (U.take k):=⟨_,rfl⟩;rw[<- F7]at c e e1 Q e3 e4 e5 e6 e7 e8 e9 r;obtain⟨n,l⟩:∃n,Qk b.N id=some n:=by
   rw[<- Q,e.find]at x;cases Z:Qk b.N id with
   | none=>rw[Z]at x;cases x
   | some n=>exact⟨n,rfl⟩
  have Jb:QD b id=n:=by unfold QD;rw[l];rfl
  have V:=c.look l;have i:=c.ob;have q:=Qc i;have R:=c.V9;have W:=Qc R;obtain⟨K,_⟩:=c.Jy id n l;have Jr:=Qc K;have J:=c.Wm;have QR:=Qc J;have s:=tY e l;have F:=c.Yl.at_ n.c.parent;rw[Qe s]at F;have S:=JT (show k<4611686018427387904 from ω);apply Qf g;simp only[go_sem,Qa,u,o,<- v,i,q,R,W,V];apply Ju g SU (O6 (c.iB e) e.tree e.Y0 id (e.iA l));apply Qf g;simp only[go_sem,Qa,i,q];cases N:Jq b.T b.A id with
  | false=>
   have Um:VJ b id=b:=by unfold VJ;rw[Qd (by unfold Kg;rw[N];decide)]
   rw[Um]at r;simp only[go_sem,Qa];exact⟨o,_,Qr.frame (by simp only[go_sem,S]),PM.of (by rw[r];exact c) (by rw[r];exact e) y⟩
  | true=>
   have E:VJ b id={ b with KT:=λj=>if j=n.c.parent then YB id n.sh.time (W5 b id n) (b.KT n.c.parent) else b.KT j }:=by
    unfold VJ;rw[Qe (show Kg b id=true from N),Jb]
   have O:=c.kids _ s;have PN:=Qz.id l;have Fy:=Uv e.tree O.nd (e.tW _);simp only[go_sem,Qa];apply VE [19] g [0,1,2,3,4,5,6,7,8,9,10,11,12,13,14,15,16,17,1018,1019] [];simp only[go_sem,Qa,i,q,K,Jr,J,QR,F];apply XB g Qta (QyY c e l);apply Zk g;simp only[go_sem,Qa,i,q];refine wC g Qs9 (Qvo O id n.sh.time (W5 b id n) ω) λd h8 hR=>?_;obtain⟨T8,B⟩:=hR;have C8:=c.Yj _ s T8 B;apply YQ g;rw[E]at r;exact⟨o,_,Qr.frame (by simp only[go_sem,S]),PM.of (by rw[r];exact C8) (by rw[r,<- E];exact tX e l (c.qH id n l)) (y.trans (Zv.of σ B))⟩
 .have ZG:k=U.length:=ω;have u:=QH o;rw[ZG,Wc]at c e;apply Qf g;simp only[go_sem,Qa,u];exact⟨f,c,e,y⟩
def wT(M:Qo)(a:Nat):Bool:=!(decide (a<M.Qh) || decide (4611686018427387904<a))
def ZV(M:Qo)(a:Nat):Qo:=if wT M a=true then { M with Qh:=a } else M
section
variable {own:Nat->Tag}{h:List Ob}{p:Nat}{L:Loc}{M:Qo}(C:ZD own h p L M)
include C
theorem QiR(a):QM prog 115 h [.ptr p 0 0 0,u64 a] (λd k=>d=QX (wT M a)/\ZD own k p L (ZV M a)/\Zv own h own k):=by
 have c:=C.ob;unfold ZV wT;by_cases j:a<M.Qh
 .have d1:=QT j;refine Q8 func115 ntmps115 results115 λb w f g=>?_;have e:=Qc c;simp only[go_sem,Qa,c,e,d1,Go.undef];exact⟨by simpa using C,Zv.refl own h⟩
 .have d1:=QH j;by_cases i:4611686018427387904<a
  .have d2:decide ((4611686018427387904:Int)<(a:Int))=true:=QT ω;have d3:=QT i;refine Q8 func115 ntmps115 results115 λb w f g=>?_;have e:=Qc c;simp only[go_sem,Qa,c,e,d1,d2,d3,Go.undef];exact⟨by simpa using C,Zv.refl own h⟩
  .have d2:decide ((4611686018427387904:Int)<(a:Int))=false:=QH ω;have d3:=QH i;refine Q8 func115 ntmps115 results115 λb w f g=>?_;have e:=Qc c;simp only[go_sem,Qa,c,e,d1,d2,d3,Go.undef];exact⟨C.Qh a M.acc,Zv.set _ (by rw[C.op];decide)⟩
end
def zk(n:Nd)(b:Int)(a:Bool):Du:=if a then gM n.du b (Bi n.q) else CC n.du (Bi n.q)
def VS(M:Qo)(a:Int)(c:Int)(b:Bool):Qo:=
 if 1<QJ (QD M a).c.rt then { M with
   N:=Ve M.N a λn=>{ n with du:=zk (QD M a) c b }
   Lv:=if (QD M a).q.l=[] then Vy a (YB a (zk (QD M a) c b).YC (zk (QD M a) c b).dead M.Lv) else YB a (zk (QD M a) c b).YC (zk (QD M a) c b).dead M.Lv }
 else M
def ua{n:Nd}(h:n.Ok)(a)(b:Bool):(zk n a b).Ok:=by
 unfold zk;split
 .exact sj (l:={ n.du with JU:=Xt (n.du.JU+a.toNat) }) h.du.dl h.du.rd (Mt _) _
 .exact sj h.du.dl h.du.rd h.du.JU _
section
variable {own:Nat->Tag}{h:List Ob}{p:Nat}{L:Loc}{M:Qo}(C:ZD own h p L M)(I:Qz M)
include C I
theorem Qy0{c}{n:Nd}(k:Qk M.N c=some n)(P:n.c.leaf=true)(j)(YW:0<=j)(ZX:j<9223372036854775808)(J):
  QM prog 155 h [.ptr p 0 0 0,.ptr (L.le c) 0 0 0,Qb j,QX J] (λd h'=>∃o,ZD o h' p L (VS M c j J)/\Zv own h o h'):=by
 have e:=C.ob;have a:=(C.Jy c n k).1;have T:=Qz.id k;have Jb:QD M c=n:=by unfold QD;rw[k];rfl
 have Jf:=C.qH c n k;have v:=Jf.du;obtain⟨kq,MK,S⟩:=C.XG c n k P;have V:qD L.lq n=.ptr (L.lq c) 0 0 0:=by unfold qD;rw[Qe P,T]
 rw[V]at a;have B:Bi n.q<9223372036854775808:=by
  obtain⟨r,Q⟩:=S;unfold Bi;cases N:n.q.l with
  | nil=>decide
  | cons x l=>
   have:=(Q.lens x (by rw[N];simp)).2;show x.len<_;omega
 unfold VS;rw[Jb];by_cases K:1<QJ n.c.rt
 .rw[Qe K];have q:=QT K;refine Q8 func155 ntmps155 results155 λF w pl b=>?_;have g:=Qc e;have i:=Qc a;simp only[go_sem,Qa,e,g,a,i];refine ZO b DG ?_ (Fv n.c) ?_
  .simp only[go_sem,Qa,q]
  apply Qf b;simp only[go_sem,Qa,q];have z:=ua Jf j J;cases J
  case' true=>
   have hx:zk n j true=gM n.du j (Bi n.q):=rfl;rw[hx]at z ⊢;simp only[go_sem,Qa,q];apply Qx b [0,1,2,3,4,5,6,7,8,9,1010,1011,12,13,1014];simp only[go_sem,Qa,e,g,a,i];apply XB b Qfh (Qhz S.toR);apply Zk b;simp only[go_sem,Qa,e,g,a,i];refine Vb b Qte ?_ (Qwi n.du v.dl v.rd v.JU j (Bi n.q) YW ZX B) ?_
   .simp only[go_sem,Qa,e,g,a,i]
   apply Zk b;simp only[go_sem,Qa,e,g,a,i];generalize gM n.du j (Bi n.q)=x at z ⊢
  case' false=>
   have hx:zk n j false=CC n.du (Bi n.q):=rfl;rw[hx]at z ⊢;simp only[go_sem,Qa,q];apply Qx b [0,1,2,3,4,5,6,7,8,1009,1010,11,12,1013];simp only[go_sem,Qa,e,g,a,i];apply XB b Qfh (Qhz S.toR);apply Zk b;simp only[go_sem,Qa,e,g,a,i];refine Vb b Qtf ?_ (Qwj n.du v.dl v.rd v.JU (Bi n.q) B) ?_
   .simp only[go_sem,Qa,e,g,a,i]
   apply Zk b;simp only[go_sem,Qa,e,g,a,i];generalize CC n.du (Bi n.q)=x at z ⊢
  all_goals
   have u:=C.xK k (λm=>{ m with du:=x }) (λ_=>rfl) (λ_=>rfl) ⟨Jf.Z7,z,Jf.sh,Jf.cp,Jf.c⟩;have W:=Zv.set (own:=own) (h:=h) (YZ (qD L.lq n) { n with du:=x }) (l:=L.le c) (by rw[(C.Jy c n k).2];simp);rw[V]at u W;generalize hH:h.set (L.le c) (YZ (.ptr (L.lq c) 0 0 0) { n with du:=x })=H at u W;have Hr:h.set (L.le c) ⟨.one,0,60,1,λ_=>KW (.ptr (L.lq c) 0 0 0) { n with du:=x }⟩=H:=hH;have U:Qk (Ve M.N c λm=>{ m with du:=x }) c=some { n with du:=x }:=by
    rw[kB (f:=λm=>{ m with du:=x }) (λ_=>rfl),Qe rfl,k];rfl
   have e:=u.ob;have g:=Qc e;have a:=(u.Jy c _ U).1;have E:qD L.lq { n with du:=x }=.ptr (L.lq c) 0 0 0:=V;rw[E]at a;have i:=Qc a;have Fy:=Uv I.tree u.Yk.nd I.Bn;simp only[Hr];apply VE [19] b [0,1,2,3,4,5,6,7,8,9,10,11,12,13,14,15,16,17,18,1019] [];simp only[go_sem,Qa,e,g,a,i];refine yE b Qe8 rfl ?_ (QgQ u.Yk c x.YC x.dead ω) rfl λd h8 R=>?_
   .simp only[go_sem,T]
   obtain⟨T8,Z⟩:=R;have s:=u.lv T8 Z;have D8:=W.trans (Zv.of (own:=own) (t:=.lv) σ Z);have e:=s.ob;have g:=Qc e;have a:=(s.Jy c _ U).1;rw[E]at a;have i:=Qc a;obtain⟨a0,a1,ub⟩:=s.XG c _ U P;apply Zk b;simp only[go_sem,Qa,e,g,a,i];apply Ju b OF (Pq ub.toR);apply Qf b;simp only[go_sem,Qa,e,g,a,i];cases N:n.q.l with
   | cons y l=>
    have dq:(((l.length+1:Nat):Int)==0)=false:=VU ω;rw[Qd σ];simp only[go_sem,Qa,N,dq];exact⟨_,s,D8⟩
   | nil=>
    rw[Qe rfl];have Fy:=Uv I.tree s.Yk.nd (λy O=>by
     rcases Hy.1 O with rfl|O
     .rw[I.some k];rfl
     .exact I.Bn y (JH.1 O).1)
    simp only[go_sem,Qa,N];apply VE [9] b [0,1,2,3,4,5,6,7,8,1009] [];simp only[go_sem,Qa,e,g,a,i];refine yE b Qff rfl ?_ (QgO s.Yk c ω) rfl λd h9 R=>?_
    .simp only[go_sem,T]
    obtain⟨rfl,T9,Y⟩:=R;apply YQ b;exact⟨_,s.lv T9 Y,D8.trans (Zv.of σ Y)⟩
 .rw[Qd K];have q:=QH K;refine Q8 func155 ntmps155 results155 λF w pl b=>?_;have g:=Qc e;have i:=Qc a;simp only[go_sem,Qa,e,g,a,i];refine ZO b DG ?_ (Fv n.c) ?_
  .simp only[go_sem,Qa,q]
  apply Qf b;simp only[go_sem,Qa,q];exact⟨own,C,Zv.refl own h⟩
end
def ML(L:List It):Nat:=(L.head?.getD default).ka
def CN(M:Qo)(a:Nat)(n:Nd):Nd:={ n with sh:=Mx n.sh (Ka n.c.ls) (ML (M.KT n.c.parent)) n.Z7,cp:=Bk n.cp (Ka n.c.ul) a n.Z7 }
def W6(a:Nat)(M:Qo)(j:Int):Qo:={ M with N:=Ve M.N j (CN M a) }
def VW(M:Qo)(c:Nat)(b:Int)(a:Int):Qo:=
 if 1<QJ (QD M b).c.rt then { M with
   N:=Ve M.N b λn=>{ n with du:=kh (QD M b).du (Ka (QD M b).c.rt) c a }
   Lv:=YB b (kh (QD M b).du (Ka (QD M b).c.rt) c a).YC (kh (QD M b).du (Ka (QD M b).c.rt) c a).dead M.Lv }
 else M
def Ym(M:Qo)(b:Nat)(c:Int)(a:Int):Qo:=
 if 1<QJ (QD M c).c.ls then Wg ((Xs M.T M.A c).foldl (W6 b) { VW M b c a with A:=c::M.A }) (up M.T c)
 else VW M b c a
def Qy1(N:List Nd)(a)(f:Nd->Nd)(b:∀n,(f n).c=n.c):(Ve N a f).map (·.c)=N.map (·.c):=by
 unfold Ve;rw[GB];congr 1;funext n;simp only[Function.comp_apply];split
 .exact b n
 .rfl
def Qz.Ve{M:Qo}(I:Qz M)(d)(f)(b:∀n,(f n).c=n.c):Qz { M with N:=X.Ve M.N d f }:=by
 refine⟨I.tree,I.yY,I.to,by dsimp only;rw[Qy1 _ _ _ b];exact I.nodes,I.Y0,λj=>?_,I.Bn,I.vN,I.wS,I.Qh,I.acc⟩;dsimp only;rw[I.ks,kB (λn=>by rw[b])];by_cases g:j=d
 .subst g;rw[Qe rfl];constructor
  .rintro (h|⟨n,a,c⟩)
   .exact .inl h
   .exact .inr ⟨f n,by rw[a];rfl,by rw[b];exact c⟩
  .rintro (h|⟨n,a,c⟩)
   .exact .inl h
   .cases e:Qk M.N j with
    | none=>rw[e]at a;cases a
    | some m=>
     rw[e]at a;cases a;exact .inr ⟨m,rfl,by rw[<- b];exact c⟩
 .rw[Qd g]
def Qz.lv{M:Qo}(I:Qz M){B}(h:∀x∈B,(Qy M.T x.ki).isSome=true):Qz { M with Lv:=B }:=
 ⟨I.tree,I.yY,I.to,I.nodes,I.Y0,I.ks,h,I.vN,I.wS,I.Qh,I.acc⟩
def Qz.act{M:Qo}(I:Qz M){B}(h:yK M.T B):Qz { M with A:=B }:=
 ⟨I.tree,I.yY,I.to,I.nodes,h,I.ks,I.Bn,I.vN,I.wS,I.Qh,I.acc⟩
def uc{c}{a b}{L}{x:It}(h:x∈YB c a b L):x.ki=c\/x∈L:=by
 rcases Hy.1 h with rfl|h
 .exact .inl rfl
 .exact .inr (JH.1 h).1
def ud{M}(I:Qz M){a}(c:a<18446744073709551616){n:Nd}(h:n.Ok):(CN M a n).Ok:=by
 have d:ML (M.KT n.c.parent)<18446744073709551616:=by
  unfold ML;cases b:M.KT n.c.parent with
  | nil=>decide
  | cons x l=>
   have:=I.wS n.c.parent x (by rw[b];simp);show x.ka<_;omega
 exact⟨h.Z7,h.du,Qwu h.sh h.c.2.2.2.2.1.lt d h.Z7,QwA h.cp h.c.2.2.2.2.2.1.lt c h.Z7,h.c⟩
def Qz.W6{M}(I:Qz M)(a)(j):Qz (W6 a M j):=I.Ve j (CN M a) λ_=>rfl
def HQ(a):∀(l:List Int) (M:Qo),(l.foldl (W6 a) M).T=M.T/\(l.foldl (W6 a) M).A=M.A/\(l.foldl (W6 a) M).KT=M.KT/\(l.foldl (W6 a) M).lk=M.lk/\(l.foldl (W6 a) M).Qh=M.Qh/\(l.foldl (W6 a) M).acc=M.acc
 | [],M=>⟨rfl,rfl,rfl,rfl,rfl,rfl⟩
 | j::l,M=>HQ a l (X.W6 a M j)
def Qz.Uw{now}:∀(l:List Int) {M:Qo},Qz M->Qz (l.foldl (X.W6 now) M)
 | [],M,I=>I
 | j::l,M,I=>Qz.Uw l (I.W6 now j)
def MM{M:Qo}{now}{id}{head:Int}:(VW M now id head).T=M.T/\(VW M now id head).A=M.A/\(VW M now id head).KT=M.KT/\(VW M now id head).lk=M.lk:=by
 unfold VW;split<;>exact⟨rfl,rfl,rfl,rfl⟩
def Qz.VW{M:Qo}(I:Qz M){b}{n}(d:Qk M.N b=Option.some n)(c)(a):Qz (VW M c b a):=by
 unfold X.VW;split
 .refine(I.Ve b (λn=>{ n with du:=kh (QD M b).du (Ka (QD M b).c.rt) c a }) λ_=>rfl).lv λx hx=>?_;rcases uc hx with h|h
  .rw[h];show (Qy M.T b).isSome=true;rw[I.some d];rfl
  .exact I.Bn x h
 .exact I
def Qy2{M:Qo}{b}{c}{a:Int}(j){n:Nd}(d:Qk M.N j=some n):∃m,Qk (VW M b c a).N j=some m/\m.c=n.c:=by
 unfold VW;split
 .dsimp only;rw[kB (f:=λn=>{ n with du:=kh (QD M c).du (Ka (QD M c).c.rt) b a }) (λ_=>rfl)];split
  .rw[d];exact⟨_,rfl,rfl⟩
  .exact⟨n,d,rfl⟩
 .exact⟨n,d,rfl⟩
def ue{c:Cv}(h:Cv.Ok c):(((Ka c).a:Nat):Int)=c.m1/\(((Ka c).d:Nat):Int)=c.d/\(((Ka c).b:Nat):Int)=c.m2:=by
 have d:=wf_u64 h.1;have b:=wf_u64 h.2.1;have a:=wf_u64 h.2.2.1;refine⟨?_,?_,?_⟩
 .show ((c.m1.toNat:Nat):Int)=_;omega
 .show ((c.d.toNat:Nat):Int)=_;omega
 .show ((c.m2.toNat:Nat):Int)=_;omega
structure Ux (own:Nat->Tag) (h:List Ob) (p:Nat) (L:Loc) (M:Qo) (now:Nat) (id:Int) (lo g:Nat) (row:Nat->List D) (U:List Int) (k:Nat) (s:St):Prop where
 ex:∃own' H,ZD own' H p L ((U.take k).foldl (W6 now) M)/\Zv own h own' H/\own' lo=.on/\H[lo]? = some ⟨.arr,g,1,U.length,row⟩ /\
  s=⟨[(0,.ptr p 0 0 0),(1,u64 now),(8,Qb id),(72,.ref lo g 0 U.length),(73,Qb U.length),(74,Qb k)],H⟩
def Ux.of{own}{h}{p}{L}{M}{b}{e}{d g}{c}{U:List Int}{k:Nat}{a}{H:List Ob}(C:ZD a H p L ((U.take k).foldl (W6 b) M))(D:Zv own h a H)(i:a d=.on)(f:H[d]? = some ⟨.arr,g,1,U.length,c⟩):
  Ux own h p L M b e d g c U k ⟨[(0,.ptr p 0 0 0),(1,u64 b),(8,Qb e),(72,.ref d g 0 U.length),(73,Qb U.length),(74,Qb k)],H⟩:=⟨⟨a,H,C,D,i,f,rfl⟩⟩
def Qy3{r}{h}{p}{L}{M:Qo}(C:ZD r h p L M)(I:Qz M){i}{n:Nd}(z:Qk M.N i=some n)(hl:n.c.leaf=true)(b)(WI:b<18446744073709551616)(c)(hh:c<9223372036854775808)(Jc:Kg M i=false):
  QM prog 117 h [.ptr p 0 0 0,u64 b,.ptr (L.le i) 0 0 0,Qb c] (λd h'=>∃v,ZD v h' p L (Ym M b i c)/\Qz (Ym M b i c)/\Zv r h v h'):=by
 have Q:=C.ob;have R:=(C.Jy i n z).1;have Zp:=Qz.id z;have Jb:QD M i=n:=by unfold QD;rw[z];rfl
 have Jf:=C.qH i n z;obtain⟨r1,r2,r3⟩:=ue Jf.c.2.2.2.1;have O:=Qz.VW I z b c;have a8:L.le i≠p:=λe=>by have h1:=(C.Jy i n z).2;rw[e,C.op]at h1;cases h1
 obtain⟨q,Z⟩:∃q,q=VW M b i c:=⟨_,rfl⟩;have uf:Ym M b i c=if 1<QJ n.c.ls then Wg ((Xs M.T M.A i).foldl (W6 b) { q with A:=i::M.A }) (up M.T i) else q:=by unfold Ym;rw[Jb,Z]
 by_cases hr:1<QJ n.c.rt
 case' pos=>
  have dr:=QT hr;have vO:=sx Jf.du Jf.c.2.2.2.1.lt WI c;refine Q8 func117 ntmps117 results117 λa2 w pl o=>?_;have Y:=Qc Q;have Jr:=Qc R;simp only[go_sem,Qa,Q,Y,R,Jr];refine ZO o DG ?_ (Fv n.c) ?_
  .simp only[go_sem,Qa,dr]
  apply Qf o;simp only[go_sem,Qa,dr];apply Qx o [0,1,2,3,4,5,6,7,8,9,10,11,1012,13,14,1015];simp only[go_sem,Qa,Q,Y,R,Jr];refine Vb o QsK ?_ (Qwr n.du Jf.du (Ka n.c.rt) Jf.c.2.2.2.1.lt b WI c hh) ?_
  .simp only[go_sem,Qa,Q,Y,R,Jr,r1,r2,r3]
  apply Zk o;simp only[go_sem,Qa,Q,Y,R,Jr,r1,r2,r3];have iE:q={ M with N:=Ve M.N i λm=>{ m with du:=kh n.du (Ka n.c.rt) b c },Lv:=YB i (kh n.du (Ka n.c.rt) b c).YC (kh n.du (Ka n.c.rt) b c).dead M.Lv }:=by
   rw[Z];unfold VW;rw[Jb,Qe hr]
  generalize kh n.du (Ka n.c.rt) b c=x at vO iE ⊢;have C1:=C.xK z (λm=>{ m with du:=x }) (λ_=>rfl) (λ_=>rfl) ⟨Jf.Z7,vO,Jf.sh,Jf.cp,Jf.c⟩;have D1:=Zv.set (own:=r) (h:=h) (YZ (qD L.lq n) { n with du:=x }) (l:=L.le i) (by rw[(C.Jy i n z).2];simp);generalize hH:h.set (L.le i) (YZ (qD L.lq n) { n with du:=x })=H at C1 D1;have Hr:h.set (L.le i) ⟨.one,0,60,1,λ_=>KW (qD L.lq n) { n with du:=x }⟩=H:=hH;have KN:Qk (Ve M.N i λm=>{ m with du:=x }) i=some { n with du:=x }:=by
   rw[kB (f:=λm=>{ m with du:=x }) (λ_=>rfl),Qe rfl,z];rfl
  have Zz:=C1.ob;have KX:=Qc Zz;have CO:=(C1.Jy i _ KN).1;have PR:=Qc CO;have Fy:=Uv I.tree C1.Yk.nd I.Bn;simp only[Hr];apply VE [15] o [0,1,2,3,4,5,6,7,8,9,10,11,12,13,14,1015] [];simp only[go_sem,Qa,Zz,KX,CO,PR];refine yE o Qe8 rfl ?_ (QgQ C1.Yk i x.YC x.dead ω) rfl λd h8 hR=>?_
  .simp only[go_sem,Zp]
  obtain⟨T8,s8⟩:=hR;have E:=C1.lv T8 s8;have DR:=D1.trans (Zv.of (own:=r) (t:=.lv) σ s8);rw[<- iE]at E;apply YQ o;generalize Q4 r H .lv=a7 at E DR;generalize h8=HR at E DR ⊢
 case' neg=>
  have dr:=QH hr;refine Q8 func117 ntmps117 results117 λa2 w pl o=>?_;have Y:=Qc Q;have Jr:=Qc R;simp only[go_sem,Qa,Q,Y,R,Jr];refine ZO o DG ?_ (Fv n.c) ?_
  .simp only[go_sem,Qa,dr]
  apply Qf o;simp only[go_sem,Qa,dr];have iE:q=M:=by rw[Z];unfold VW;rw[Jb,Qd hr]
  have E:=C;rw[<- iE]at E;have DR:=Zv.refl r h
 all_goals
  rw[<- Z]at O;obtain⟨kT,kA,kK,kl⟩:=MM (M:=M) (now:=b) (id:=i) (head:=c);rw[<- Z]at kT kA kK kl;obtain⟨m,hm,yR⟩:∃m,Qk q.N i=some m/\m.c=n.c:=by rw[Z];exact Qy2 i z
  have PS:=(E.Jy i m hm).1;have a4:=Qc PS;have VN:=E.ob;have z8:=Qc VN;simp only[go_sem,Qa,PS,a4,yR];apply Yy o wB (wD n.c);apply QP o;by_cases V:1<QJ n.c.ls;case neg=>
   have ds:=QH V;simp only[go_sem,Qa,ds];rw[uf,Qd V];exact⟨_,E,O,DR⟩
  have ds:=QT V;rw[Qe V,<- kA,<- kT]at uf;rw[uf];have WZ:Qy q.T i=some n.c:=by rw[kT];exact I.some z
  have hO:=E.zj;rw[O.to]at hO;have a1:Jq q.T q.A i=false:=by rw[kT,kA];exact Jc
  simp only[go_sem,Qa,ds,VN,z8];refine V5 o oU rfl ?_ (QgB hO O.tree O.Y0 i n.c WZ hl V a1) rfl λd h9 hR=>?_
  .simp only[go_sem,Zp]
  obtain⟨d1,rfl,B7,O9,s9⟩:=hR;rw[<- O.to]at O9;have C9:=E.act O9 s9;have D9:=DR.trans (Zv.of (t:=.on) σ s9);have I9:Qz { q with A:=i::q.A }:=O.act (λa ha=>by
   rcases QF.1 ha with rfl|ha
   .exact⟨n.c,WZ,hl,V⟩
   .exact O.Y0 a ha)
  obtain⟨U,hU⟩:∃U,U=Xs q.T q.A i:=⟨_,rfl⟩;rw[<- hU]at B7 ⊢;have iC:U.length<=16:=by
   rw[hU];exact Kv (bt _).length_le A7
  have ug:∀j∈U,j∈up q.T i:=λj W=>by rw[hU]at W;exact(bt _).subset W
  obtain⟨K,Uy⟩:∃K,K={ q with A:=i::q.A }:=⟨_,rfl⟩;have iF:K.T=q.T:=by rw[Uy]
  rw[<- Uy]at C9 I9 ⊢;rcases B7 with ⟨rfl,Uz⟩|⟨lo,g,a5,a0,rfl,⟨ZQ,rfl⟩,MN,ZU⟩
  .exfalso;rw[hU,Xs,Vu O.tree WZ,br,a1]at Uz;cases Uz
  have a6:=Qc MN;rw[JR]at MN;apply QP o;refine ZW (Ux r h p L K b i lo g a0 U) U.length (Qr.frame (by simp only[go_sem,Zp])) (Ux.of (k:=0) C9 D9 (by unfold Q4;rw[Qe ZQ]) MN) ?_;rintro k _ hk ⟨v,H,u,Dk,Fk,JS,rfl⟩;have UA:=Qc JS;by_cases S:k<U.length;case neg=>
   have ZG:k=U.length:=ω;have dk:=QH S;rw[ZG,Wc]at u;have T:=Qz.Uw (now:=b) U I9;have MO:=(HQ b U K).1;have Za:=tZ u T i;rw[MO,iF]at Za;apply Qf o;simp only[go_sem,Qa,dk];apply QP o;refine JG o oY Za λd zG hR=>?_;obtain⟨iG,yZ,iH,HS⟩:=hR;apply QP o;exact⟨iG,yZ,iH,Dk.trans HS⟩
  have dk:=QT S;obtain⟨j,W⟩:∃j,j=U.getD k 0:=⟨_,rfl⟩;have F9:j∈up q.T i:=ug j (by rw[W];exact Yx U 0 k S);have UB:a0 k=[Qb j]:=by have:=ZU k S;rw[JR]at this;rw[this,W]
  have Ja:(U.take (k+1)).foldl (W6 b) K=W6 b ((U.take k).foldl (W6 b) K) j:=by
   rw[getD_take U 0 k S,qd,<- W];rfl
  have T:=Qz.Uw (now:=b) (U.take k) I9;have MO:=(HQ b (U.take k) K).1;obtain⟨B,F7⟩:∃B,B=(U.take k).foldl (W6 b) K:=⟨_,rfl⟩;rw[<- F7]at u T MO Ja;obtain⟨y,P⟩:∃y,Qk B.N j=some y:=by
   have X6:=Ht F9;rw[<- iF,<- MO,T.find]at X6;cases hq:Qk B.N j with
   | none=>rw[hq]at X6;cases X6
   | some y=>exact⟨y,rfl⟩
  have F:=u.qH j y P;obtain⟨l1,l2,l3⟩:=ue F.c.2.2.2.2.1;obtain⟨u1,u2,u3⟩:=ue F.c.2.2.2.2.2.1;have z7:=u.look P;have Xw:=u.ob;have jC:=Qc Xw;have zl:=u.V9;have CP:=Qc zl;have x6:=(u.Jy j y P).1;have J:=Qc x6;have Fx:=u.Wm;have fK:=Qc Fx;have kC:=tY T P;have jB:=u.Yl.at_ y.c.parent;rw[Qe kC]at jB;have kD:=(u.kids _ kC).toR;have QU:=JT (show k<4611686018427387904 from ω);have Oj:ML (B.KT y.c.parent)<18446744073709551616:=by
   unfold ML;cases hq:B.KT y.c.parent with
   | nil=>decide
   | cons x l=>
    have:=T.wS y.c.parent x (by rw[hq];simp);show x.ka<_;omega
  have QA:L.le j≠lo:=λe=>by have h1:=(u.Jy j y P).2;rw[e,Fk]at h1;cases h1
  apply Qf o;simp only[go_sem,Qa,dk,S,UB,Xw,jC,zl,CP,JS,UA,z7];apply Qx o [0,1,2,3,4,5,6,7,8,9,1010,11,12,13,14,15];simp only[go_sem,Qa,Xw,jC,x6,J,Fx,fK,jB];apply XB o QsL (Qvs kD);apply Zk o;simp only[go_sem,Qa,Xw,jC];have a3:(((B.KT y.c.parent).head?.getD default).ka:Int)=((ML (B.KT y.c.parent):Nat):Int):=rfl;simp only[a3];apply Qx o o11;simp only[go_sem,Qa,x6,J];refine Vb o QsM ?_ (Qww y.sh F.sh (Ka y.c.ls) F.c.2.2.2.2.1.lt (ML (B.KT y.c.parent)) y.Z7 Oj F.Z7) ?_
  .simp only[go_sem,Qa,x6,J,l1,l2,l3]
  apply Zk o;simp only[go_sem,Qa,x6,J,l1,l2,l3];have uh:∀s,(H.set (L.le j) ⟨.one,0,60,1,λ_=>KW (qD L.lq y) s⟩)[L.le j]? = some ⟨.one,0,60,1,λ_=>KW (qD L.lq y) s⟩:=λs=>Qt J;have ui:∀s,L.le j<(H.set (L.le j) s).length:=λs=>by simpa using J
  apply Qx o o11;simp only[go_sem,Qa,uh,ui,J];refine Vb o QsN ?_ (QwB y.cp F.cp (Ka y.c.ul) F.c.2.2.2.2.2.1.lt b y.Z7 WI F.Z7) ?_
  .simp only[go_sem,Qa,uh,ui,u1,u2,u3,J]
  apply Zk o;simp only[go_sem,Qa,uh,ui,u1,u2,u3,J];have C4:=u.xK P (CN B b) (λ_=>rfl) (λ_=>rfl) (ud T WI F);have D4:=Zv.set (own:=v) (h:=H) (YZ (qD L.lq y) (CN B b y)) (l:=L.le j) (by rw[(u.Jy j y P).2];simp);refine⟨S,_,Qr.frame (by simp only[go_sem,QU,Zp]),Ux.of (by rw[Ja];exact C4) (Dk.trans D4) Fk (by rw[Ql QA];exact JS)⟩
def Qy7{S}{h}{p}{T}{A}(O:jw S h p T A)(a)(c:Qm)(k:Qy T a=some c)(i:¬ 1<QJ c.ls):
  QM prog 214 h [.ptr p 0 0 0,Qb a] (λd l=>d=.tup [.nil,Qb 6]/\l=h):=by
 obtain⟨x,v,u,t,s,r,y,z,B,o,O⟩:=O;have f:=O.o;have e:=O.m1;have b:=O.f1.at_ a;rw[wJ,k]at b;simp only[Qd i]at b;refine Q8 func214 ntmps214 results214 λg w n q=>?_;have m:=Qc f;have j:=Qc e;simp only[go_sem,Qa,f,m,e,j,b,Go.undef]
def y5:Sh:=⟨false,⟨⟨0,0,0⟩,⟨0,0,0⟩,false⟩,0⟩
def QiV:y5.Ok:=⟨⟨Ln.vH,Ln.vH⟩,π⟩
def XX(M:Qo)(c:Int):Qo:={ M with N:=Ve M.N c λn=>{ n with sh:=y5 } }
def Wy(M:Qo)(j:Int):Qo:={ M with KT:=λi=>if i=(QD M j).c.parent then Vy j (M.KT (QD M j).c.parent) else M.KT i }
def JV(M:Qo)(j:Int):Qo:=
 if Vy j (M.KT (QD M j).c.parent)=[] then (KE M.T (QD M j).c.parent).foldl XX (Wy M j) else Wy M j
def W7(M:Qo)(a:Int):Qo:=
 if 1<QJ (QD M a).c.ls then (Xs M.T (Kf M.A a) a).foldl JV { M with A:=Kf M.A a } else M
def Qz.XX{M}(I:Qz M)(c):Qz (XX M c):=I.Ve c (λn=>{ n with sh:=y5 }) λ_=>rfl
def iI:∀(l:List Int) (M:Qo),(l.foldl XX M).T=M.T/\(l.foldl XX M).A=M.A/\(l.foldl XX M).KT=M.KT/\(l.foldl XX M).lk=M.lk/\(l.foldl XX M).Qh=M.Qh/\(l.foldl XX M).acc=M.acc/\(l.foldl XX M).Lv=M.Lv
 | [],M=>⟨rfl,rfl,rfl,rfl,rfl,rfl,rfl⟩
 | j::l,M=>iI l (XX M j)
def Qz.uj:∀(l:List Int) {M:Qo},Qz M->Qz (l.foldl X.XX M)
 | [],M,I=>I
 | j::l,M,I=>Qz.uj l (I.XX j)
def Qz.Wy{M}(I:Qz M)(j):Qz (Wy M j):=by
 refine⟨I.tree,I.yY,I.to,I.nodes,I.Y0,I.ks,I.Bn,λi x hx=>?_,λi x hx=>?_,I.Qh,I.acc⟩
 .unfold X.Wy at hx;dsimp only at hx;split at hx
  .rename_i a;subst a;exact I.vN _ x (JH.1 hx).1
  .exact I.vN _ x hx
 .unfold X.Wy at hx;dsimp only at hx;split at hx
  .exact I.wS _ x (JH.1 hx).1
  .exact I.wS _ x hx
def Qz.JV{M}(I:Qz M)(j):Qz (JV M j):=by
 unfold X.JV;split
 .exact Qz.uj _ (I.Wy j)
 .exact I.Wy j
def Qz.UC:∀(l:List Int) {M:Qo},Qz M->Qz (l.foldl X.JV M)
 | [],M,I=>I
 | j::l,M,I=>Qz.UC l (I.JV j)
def QiW(M:Qo)(j:Int):(JV M j).T=M.T/\(JV M j).A=M.A/\(JV M j).lk=M.lk/\(JV M j).Qh=M.Qh/\(JV M j).acc=M.acc/\(JV M j).Lv=M.Lv:=by
 unfold JV;split
 .obtain⟨f,e,g,d,c,b,a⟩:=iI (KE M.T (QD M j).c.parent) (Wy M j);exact⟨f,e,d,c,b,a⟩
 .exact⟨rfl,rfl,rfl,rfl,rfl,rfl⟩
def HT:∀(l:List Int) (M:Qo),(l.foldl JV M).T=M.T/\(l.foldl JV M).A=M.A/\(l.foldl JV M).lk=M.lk/\(l.foldl JV M).Qh=M.Qh/\(l.foldl JV M).acc=M.acc/\(l.foldl JV M).Lv=M.Lv
 | [],M=>⟨rfl,rfl,rfl,rfl,rfl,rfl⟩
 | j::l,M=>by
  obtain⟨n,m,k,i,h,g⟩:=HT l (JV M j);obtain⟨f,e,d,c,b,a⟩:=QiW M j;exact⟨n.trans f,m.trans e,k.trans d,i.trans c,h.trans b,g.trans a⟩
def Qz.W7{M}(I:Qz M)(a):Qz (W7 M a):=by
 unfold X.W7;split
 .exact Qz.UC _ (I.act (I.Y0.off a))
 .exact I
structure PT (own:Nat->Tag) (h:List Ob) (p:Nat) (L:Loc) (M:Qo) (lo g:Nat) (row:Nat->List D) (U:List Int) (k:Nat) (s:St):Prop where
 ex:∃own' H,ZD own' H p L ((U.take k).foldl JV M)/\Zv own h own' H/\own' lo=.on/\H[lo]? = some ⟨.arr,g,1,U.length,row⟩ /\
  s=⟨[(0,.ptr p 0 0 0),(22,.ref lo g 0 U.length),(23,Qb U.length),(24,Qb k)],H⟩
def PT.of{own}{h}{p}{L}{M}{c g}{b}{U:List Int}{k:Nat}{a}{H:List Ob}(C:ZD a H p L ((U.take k).foldl JV M))(D:Zv own h a H)(e:a c=.on)(d:H[c]? = some ⟨.arr,g,1,U.length,b⟩):
  PT own h p L M c g b U k ⟨[(0,.ptr p 0 0 0),(22,.ref c g 0 U.length),(23,Qb U.length),(24,Qb k)],H⟩:=⟨⟨a,H,C,D,e,d,rfl⟩⟩
structure UD (own:Nat->Tag) (h:List Ob) (p:Nat) (L:Loc) (M:Qo) (lo g:Nat) (row:Nat->List D) (U V:List Int) (k:Nat) (i:Nat) (s:St):Prop where
 ex:∃own' H,ZD own' H p L ((V.take i).foldl XX M)/\Zv own h own' H/\own' lo=.on/\H[lo]? = some ⟨.arr,g,1,U.length,row⟩ /\
  s=⟨[(0,.ptr p 0 0 0),(22,.ref lo g 0 U.length),(23,Qb U.length),(24,Qb k),(59,ints V),(60,Qb V.length),(61,Qb i)],H⟩
def UD.of{own}{h}{p}{L}{M}{c g}{b}{U V:List Int}{k i:Nat}{a}{H:List Ob}(C:ZD a H p L ((V.take i).foldl XX M))(D:Zv own h a H)(e:a c=.on)(d:H[c]? = some ⟨.arr,g,1,U.length,b⟩):
  UD own h p L M c g b U V k i ⟨[(0,.ptr p 0 0 0),(22,.ref c g 0 U.length),(23,Qb U.length),(24,Qb k),(59,ints V),(60,Qb V.length),(61,Qb i)],H⟩:=⟨⟨a,H,C,D,e,d,rfl⟩⟩
def Qy8{o}{h}{p}{L}{M:Qo}(C:ZD o h p L M)(I:Qz M){b}{n:Nd}(hn:Qk M.N b=some n)(hl:n.c.leaf=true)(Wt:1<QJ n.c.ls->b∈M.A)(Jc:Jq M.T (Kf M.A b) b=false):
  QM prog 156 h [.ptr p 0 0 0,Qb b] (λd h'=>∃f,ZD f h' p L (W7 M b)/\Qz (W7 M b)/\Zv o h f h'):=by
 have ho:=C.ob;have Jb:QD M b=n:=by unfold QD;rw[hn];rfl
 have WZ:Qy M.T b=some n.c:=I.some hn;have hO:=C.zj;have a8:=I.tree.len;rw[I.to]at hO;by_cases N:1<QJ n.c.ls;case neg=>
  have hM:W7 M b=M:=by unfold W7;rw[Jb,Qd N]
  refine Q8 func156 ntmps156 results156 λa3 w pl m=>?_;have Qg:=Qc ho;simp only[go_sem,Qa,ho,Qg];refine JG m Qfi (Qy7 hO b n.c WZ N) λd h9 O=>?_;obtain⟨rfl,rfl⟩:=O;apply QP m;rw[hM];exact⟨o,C,I,Zv.refl o h9⟩
 have hM:W7 M b=(Xs M.T (Kf M.A b) b).foldl JV { M with A:=Kf M.A b }:=by unfold W7;rw[Jb,Qe N]
 have I9:Qz { M with A:=Kf M.A b }:=I.act (I.Y0.off b);have uk:=Qz.UC (Xs M.T (Kf M.A b) b) I9;rw[hM];refine Q8 func156 ntmps156 results156 λa3 w pl m=>?_;have Qg:=Qc ho;simp only[go_sem,Qa,ho,Qg];refine JG m Qfi (Qvg hO I.tree I.Y0 b n.c WZ hl N (Wt N) Jc) λd h9 O=>?_;obtain⟨d1,rfl,B7,O9,s9⟩:=O;rw[<- I.to]at O9;have C9:=C.act O9 s9;have D9:=Zv.of (own:=o) (t:=.on) σ s9;obtain⟨U,hU⟩:∃U,U=Xs M.T (Kf M.A b) b:=⟨_,rfl⟩;rw[<- hU]at B7 uk ⊢;have iC:U.length<=16:=by
  rw[hU];exact Kv (bt _).length_le A7
 have ug:∀j∈U,j∈up M.T b:=λj J=>by rw[hU]at J;exact(bt _).subset J
 obtain⟨v,Uy⟩:∃v,v={ M with A:=Kf M.A b }:=⟨_,rfl⟩;have iF:v.T=M.T:=by rw[Uy]
 rw[<- Uy]at C9 I9 uk ⊢;rcases B7 with ⟨rfl,Uz⟩|⟨F,g,a9,s,rfl,⟨ZQ,rfl⟩,MN,ZU⟩
 .exfalso;rw[hU,Xs,Vu I.tree WZ,br,Jc]at Uz;cases Uz
 have b1:=Qc MN;rw[JR]at MN;apply QP m;refine ZW (PT o h p L v F g s U) U.length QQ (PT.of (k:=0) C9 D9 (by unfold Q4;rw[Qe ZQ]) MN) ?_;rintro k _ hk ⟨f,H,q,Dk,Fk,JS,rfl⟩;have UA:=Qc JS;by_cases u:k<U.length;case neg=>
  have ZG:k=U.length:=ω;have dk:=QH u;rw[ZG,Wc]at q;apply Qf m;simp only[go_sem,Qa,dk];exact⟨f,q,uk,Dk⟩
 have dk:=QT u;obtain⟨j,J⟩:∃j,j=U.getD k 0:=⟨_,rfl⟩;have F9:j∈up M.T b:=ug j (by rw[J];exact Yx U 0 k u);have UB:s k=[Qb j]:=by have:=ZU k u;rw[JR]at this;rw[this,J]
 have Ja:(U.take (k+1)).foldl JV v=JV ((U.take k).foldl JV v) j:=by
  rw[getD_take U 0 k u,qd,<- J];rfl
 have z:=Qz.UC (U.take k) I9;have MO:=(HT (U.take k) v).1;obtain⟨a,F7⟩:∃a,a=(U.take k).foldl JV v:=⟨_,rfl⟩;rw[<- F7]at q z MO Ja;obtain⟨y,hy⟩:∃y,Qk a.N j=some y:=by
  have E:=Ht F9;rw[<- iF,<- MO,z.find]at E;cases hq:Qk a.N j with
  | none=>rw[hq]at E;cases E
  | some y=>exact⟨y,rfl⟩
 have Ue:QD a j=y:=by unfold QD;rw[hy];rfl
 have z7:=q.look hy;have Xw:=q.ob;have jC:=Qc Xw;have zl:=q.V9;have CP:=Qc zl;have x6:=(q.Jy j y hy).1;have wU:=Qc x6;have Fx:=q.Wm;have fK:=Qc Fx;have kC:=tY z hy;have jB:=q.Yl.at_ y.c.parent;rw[Qe kC]at jB;have kD:=q.kids _ kC;have QU:=JT (show k<4611686018427387904 from ω);have Fy:=Uv z.tree kD.nd (z.tW _);apply Qf m;simp only[go_sem,Qa,dk,u,UB,Xw,jC,zl,CP,JS,UA,z7,x6,wU,Fx,fK,jB];refine JG m Qtg (Qvu kD j ω) λd zG O=>?_;obtain⟨rfl,Y,um⟩:=O;have B:=q.Yj _ kC Y um;have HS:=Dk.trans (Zv.of (t:=.Yj y.c.parent) σ um);have Zu:{ a with KT:=λi=>if i=y.c.parent then Vy j (a.KT y.c.parent) else a.KT i }=Wy a j:=by unfold Wy;rw[Ue]
 rw[Zu]at B;have iH:=z.Wy j;have iG:Q4 f H (.Yj y.c.parent) F=.on:=by rw[Ku UA];exact Fk
 have Z:zG[F]? = some ⟨.arr,g,1,U.length,s⟩:=(um.keep F UA (by rw[Fk];simp)).trans JS;have P:JV a j=if Vy j (a.KT y.c.parent)=[] then (KE a.T y.c.parent).foldl XX (Wy a j) else Wy a j:=by unfold JV;rw[Ue]
 have R:=B.ob;have PU:=Qc R;have W:=B.Wm;have a7:=Qc W;have a2:=B.Yl.at_ y.c.parent;rw[Qe (show (Wy a j).ks y.c.parent=true from kC)]at a2;have HV:FL zG (L.lk y.c.parent) (Vy j (a.KT y.c.parent)):=Y.toR;apply Qf m;simp only[go_sem,Qa,R,PU,W,a7,a2];apply Ju m pc (rP HV);apply Qf m;simp only[go_sem,Qa,R,PU];by_cases hz:Vy j (a.KT y.c.parent)=[];case neg=>
  have qS:0<(Vy j (a.KT y.c.parent)).length:=bc.2 hz;have dz:decide ((0:Int)<((Vy j (a.KT y.c.parent)).length:Int))=true:=QT ω;rw[Qd hz]at P;simp only[go_sem,Qa,dz];exact⟨u,_,Qr.frame (by simp only[go_sem,QU]),PT.of (by rw[Ja,P];exact B) HS iG Z⟩
 rw[Qe hz]at P;have dz:decide ((0:Int)<((Vy j (a.KT y.c.parent)).length:Int))=false:=QH (by rw[hz];simp);simp only[go_sem,Qa,dz,R,PU];apply Ju m o4 (Qvb B.tr.toR (by have:=iH.tree.len;omega) y.c.parent);apply Qf m;simp only[go_sem,Qa,R,PU];obtain⟨V,hV⟩:∃V,V=KE a.T y.c.parent:=⟨_,rfl⟩;have b0:V.length<=64:=by
  rw[hV];unfold KE;rw[KK];exact Kv (Yr _ _) z.tree.len
 have a6:∀c∈V,(Qy a.T c).isSome=true:=λc K=>by
  rw[hV]at K;obtain⟨x,hx,rfl⟩:=Jl.1 K;rw[(VH z.tree.rising).2 ⟨(JH.1 hx).1,rfl⟩];rfl
 rw[show KE (Wy a j).T y.c.parent=V from hV.symm];rw[<- hV]at P;refine ZW (UD o h p L (Wy a j) F g s U V k) V.length QQ (UD.of (i:=0) B HS iG Z) ?_;rintro i _ hi ⟨Bo,H5,r,D5,Ga,a1,rfl⟩;by_cases S:i<V.length;case neg=>
  have qR:i=V.length:=ω;have di:=QH S;rw[qR,Wc]at r;apply Qf m;simp only[go_sem,Qa,di];apply QP m;exact⟨u,_,Qr.frame (by simp only[go_sem,QU]),PT.of (by rw[Ja,P];exact r) D5 Ga a1⟩
 have di:=QT S;have a4:=JT (show i<4611686018427387904 from ω);obtain⟨c,K⟩:∃c,c=V.getD i 0:=⟨_,rfl⟩;have a5:c∈V:=by rw[K];exact Yx V 0 i S
 have a0:(V.take (i+1)).foldl XX (Wy a j)=XX ((V.take i).foldl XX (Wy a j)) c:=by
  rw[getD_take V 0 i S,qd,<- K];rfl
 have I5:=Qz.uj (V.take i) iH;have T:=(iI (V.take i) (Wy a j)).1;obtain⟨Q,PV⟩:∃Q,Q=(V.take i).foldl XX (Wy a j):=⟨_,rfl⟩;rw[<- PV]at r I5 T a0;obtain⟨x,hx⟩:∃x,Qk Q.N c=some x:=by
  have E:=a6 c a5;rw[show a.T=Q.T from T.symm,I5.find]at E;cases hq:Qk Q.N c with
  | none=>rw[hq]at E;cases E
  | some x=>exact⟨x,rfl⟩
 have vO:=r.qH c x hx;have iJ:=r.look hx;have Eg:=r.ob;have PW:=Qc Eg;have xZ:=r.V9;have iK:=Qc xZ;have MP:=(r.Jy c x hx).1;have CQ:=Qc MP;have QA:L.le c≠F:=λe=>by have h1:=(r.Jy c x hx).2;rw[e,Ga]at h1;cases h1
 apply Qf m;simp only[go_sem,Qa,di,S,<- K,Eg,PW,xZ,iK,iJ,MP,CQ];have C6:=r.xK hx (λn=>{ n with sh:=y5 }) (λ_=>rfl) (λ_=>rfl) ⟨vO.Z7,vO.du,QiV,vO.cp,vO.c⟩;have D6:=Zv.set (own:=Bo) (h:=H5) (YZ (qD L.lq x) { x with sh:=y5 }) (l:=L.le c) (by rw[(r.Jy c x hx).2];simp);have Dz:(⟨.one,0,60,1,λ_=>List.take 38 (KW (qD L.lq x) x)++.raw (.bool false)::.raw (.int .u64 0)::.raw (.int .u64 0)::.raw (.int .u64 0)::.raw (.int .u64 0)::.raw (.int .u64 0)::.raw (.int .u64 0)::.raw (.int .u64 0)::.raw (.int .u64 0)::.raw (.bool false)::.raw (.int .u64 0)::List.drop 49 (KW (qD L.lq x) x)⟩:Ob)=YZ (qD L.lq x) { x with sh:=y5 }:=by
  unfold YZ;rw[<- QyV (qD L.lq x) x y5];rfl
 rw[Dz];refine⟨_,Qr.frame (by simp only[go_sem,a4]),UD.of (by rw[a0];exact C6) (D5.trans D6) Ga (by rw[Ql QA];exact a1)⟩
def firstM(M:Qo)(a:Nat)(b:Int):Option It:=(M.KT b).find? λx=>decide (x.va<=min a 9223372036854775807)
def Bp(M:Qo)(a:Nat):Nat->Int->Option Int
 | 0,_=>none
 | n+1,id=>match firstM M a id with
  | none=>none
  | some x=>if (QD M x.ki).c.leaf=true then some x.ki else Bp M a n x.ki
def Qi4(o:Option Int):D:=.tup [Qb (o.getD 0),QX false,QX o.isSome]
def x7(M:Qo)(a:Nat)(o:Option It):Prop:=yL o (M.Lv.filter λx=>decide (x.ka<=min a 9223372036854775807))
def PX(M:Qo)(a:Nat)(o:Option It):D:=match o with
 | some x=>.tup [Qb x.ki,QX true,QX true]
 | none=>Qi4 (Bp M a 17 0)
section
variable {own:Nat->Tag}{h:List Ob}{p:Nat}{L:Loc}{M:Qo}(C:ZD own h p L M)(I:Qz M)
include C I
theorem Qzd(a):Zi prog 151 h [.ptr p 0 0 0,u64 a] (λd=>∃o,x7 M a o/\d=PX M a o):=by
 have e:=Z3 C.ob;have j:=Z3 C.Wm;have l:=Z3 C.V9;have R:=C.Yk.toR;refine ZJ func151 ntmps151 results151 λJ w pl F k Zm f=>?_;rw[<- k]at e j l;have g:=Qc e;have E:=Qc j;have u:=Qc l;simp only[go_sem,Qa,e,g,j,E,l,u];refine pJ f Qtb (Qvv (R.more (VI k)) a) λd T=>?_;obtain⟨o,m,rfl⟩:=T;apply Qf f;simp only[go_sem,Qa,e,g];cases o with
 | some x=>
  simp only[go_sem,Qa,wh,Ky];exact⟨[],(JZ F).symm,some x,m,rfl⟩
 | none=>
  simp only[go_sem,Qa,xp];have Z:(up M.T 0).length=0:=by rw[LX I.tree];rfl
  refine Ls (λn O=>∃id,M.ks id=true/\(up M.T id).length+n=16/\Bp M a 17 0=Bp M a (n+1) id/\O=⟨[(0,.ptr p 0 0 0),(1,u64 a),(9,Qb id)],F⟩) 16 QQ ⟨0,(I.ks 0).2 (.inl rfl),ω,rfl,rfl⟩ ?_;rintro n _ ⟨id,v,H,b,rfl⟩;have z:=C.Yl.at_ id;rw[Qe v]at z;have S:=(C.kids id v).toR
  conv at b=>rhs;rw[Bp]
  apply Qf f;simp only[go_sem,Qa,e,g,j,E,z];apply Ju f Qtc (Qvr (S.more (VI k)) a);apply Qf f;simp only[go_sem,Qa,e,g];have t:(M.KT id).find? (λx=>decide (x.va<=min a 9223372036854775807))=firstM M a id:=rfl;rw[t];cases q:firstM M a id with
  | none=>
   rw[q]at b;simp only[go_sem,Qa,xp];exact⟨[],(JZ F).symm,none,m,by unfold PX;rw[b];rfl⟩
  | some x=>
   rw[q]at b;have N:x∈M.KT id:=wc q;obtain⟨c,B,P⟩:=I.vN id x N;obtain⟨y,i,W⟩:=I.Uu B;have U:QD M x.ki=y:=by unfold QD;rw[i];rfl
   have UF:(up M.T x.ki).length=(up M.T id).length+1:=by rw[Vu I.tree B,P];rfl
   have Y:(up M.T x.ki).length<=16:=A7;have K:=C.look i;have s:=Z3 (C.Jy x.ki y i).1;rw[<- k]at s;have V:=Qc s;dsimp only at b;rw[U]at b;simp only[go_sem,Qa,wh,Ky,e,g,l,u,K,s,V];cases r:y.c.leaf with
   | true=>
    rw[r,Qe rfl]at b;simp only[go_sem,Qa];exact⟨[],(JZ F).symm,none,m,by unfold PX;rw[b];rfl⟩
   | false=>
    rw[r,Qd π]at b;obtain⟨n,rfl⟩:∃Q,n=Q+1:=⟨n - 1,ω⟩;simp only[go_sem,Qa];exact⟨n,_,ω,QQ,x.ki,(I.ks _).2 (.inr ⟨y,i,r⟩),ω,b,rfl⟩
end
def Qzf{T}(I:KF T){b a}{c:Qm}(f:Qy T b=some c)(l:c.leaf=true)(h:b∈up T a):a=b:=by
 refine jk λo=>?_;obtain⟨i,d,p,m,k⟩:=fR I h o;have n:d.parent≠0:=λe=>by rw[<- k,e,LW I]at f;cases f
 obtain⟨e,j,g⟩:=I.J9 d (yJ I m) n;rw[k,f]at j;cases j;rw[l]at g;cases g
def iL{T}(I:KF T){b}{c:Qm}(d:Qy T b=some c)(e:c.leaf=true)(A):Jq T A b=true↔b∈A:=by
 rw[YS];constructor
 .rintro⟨a,f,h⟩;rw[<- Qzf I d e h];exact f
 .exact λh=>⟨b,h,Ye I d⟩
def Qzg{T}(I:KF T){a}{c:Qm}(d:Qy T a=some c)(b:c.leaf=true)(A):Jq T (Kf A a) a=false:=by
 rw[jj];intro h;have:=(iL I d b _).1 h;simp[Kf]at this
def CS(a:Nat)(n:Nd):Nd:={ n with Z7:=Xt (n.Z7+a),sh:=HJ n.sh (Xt (n.Z7+a)),cp:=yQ n.cp (Xt (n.Z7+a)) }
def VX(a:Nat)(M:Qo)(j:Int):Qo:={ M with N:=Ve M.N j (CS a) }
def Qi5{n:Nd}(h:n.Ok)(a):(CS a n).Ok:=⟨Mt _,h.du,Qwv h.sh _,Qwz h.cp _,h.c⟩
def Qz.VX{M}(I:Qz M)(a)(j):Qz (VX a M j):=I.Ve j (CS a) λ_=>rfl
def Qz.iM{len}:∀(l:List Int) {M:Qo},Qz M->Qz (l.foldl (X.VX len) M)
 | [],M,I=>I
 | j::l,M,I=>Qz.iM l (I.VX len j)
def MQ(a):∀(l:List Int) (M:Qo),(l.foldl (VX a) M).T=M.T/\(l.foldl (VX a) M).A=M.A/\(l.foldl (VX a) M).KT=M.KT/\(l.foldl (VX a) M).lk=M.lk/\(l.foldl (VX a) M).Qh=M.Qh/\(l.foldl (VX a) M).acc=M.acc/\(l.foldl (VX a) M).Lv=M.Lv
 | [],M=>⟨rfl,rfl,rfl,rfl,rfl,rfl,rfl⟩
 | j::l,M=>MQ a l (VX a M j)
def Qi6{N}{j}{f}(a:∀n,(f n).c=n.c)(i){n:Nd}(h:Qk N i=some n):∃m,Qk (Ve N j f) i=some m/\m.c=n.c/\(m=n\/(i=j/\m=f n)):=by
 rw[kB (λn=>by rw[a])];by_cases e:i=j
 .rw[Qe e,h];exact⟨f n,rfl,a n,.inr ⟨e,rfl⟩⟩
 .rw[Qd e];exact⟨n,h,rfl,.inl rfl⟩
def Qi7(a):∀(l:List Int) (M:Qo) (i:Int) {n:Nd},Qk M.N i=some n->∃m,Qk (l.foldl (VX a) M).N i=some m/\m.c=n.c/\m.q=n.q/\m.du=n.du
 | [],M,i,n,h=>⟨n,h,rfl,rfl,rfl⟩
 | j::l,M,i,n,h=>by
  obtain⟨m,p,o,b⟩:=Qi6 (f:=CS a) (j:=j) (λ_=>rfl) i h;obtain⟨c,k,g,e,d⟩:=Qi7 a l (VX a M j) i p;refine⟨c,k,g.trans o,?_,?_⟩
  .rw[e];rcases b with rfl|⟨_,rfl⟩<;>rfl
  .rw[d];rcases b with rfl|⟨_,rfl⟩<;>rfl
def Xj(M:Qo)(a:Int):Qo:={ M with N:=Ve M.N a λn=>{ n with q:=Xu (QD M a).q } }
def Qz.Xj{M}(I:Qz M)(a:Int):Qz (Xj M a):=I.Ve a (λn=>{ n with q:=Xu (QD M a).q }) λ_=>rfl
def Qz.VS{M:Qo}(I:Qz M){a}{n}(c:Qk M.N a=Option.some n)(b)(r):Qz (VS M a b r):=by
 unfold X.VS;split
 .refine(I.Ve a (λn=>{ n with du:=zk (QD M a) b r }) λ_=>rfl).lv λx hx=>?_;have d:x.ki=a\/x∈M.Lv:=by
   split at hx
   .exact uc (JH.1 hx).1
   .exact uc hx
  rcases d with h|h
  .rw[h];show (Qy M.T a).isSome=true;rw[I.some c];rfl
  .exact I.Bn x h
 .exact I
def PY(M:Qo)(a)(b)(r:Bool):(VS M a b r).T=M.T/\(VS M a b r).A=M.A/\(VS M a b r).KT=M.KT/\(VS M a b r).lk=M.lk/\(VS M a b r).Qh=M.Qh/\(VS M a b r).acc=M.acc:=by
 unfold VS;split<;>exact⟨rfl,rfl,rfl,rfl,rfl,rfl⟩
def Qzh(M:Qo)(a)(b)(r:Bool)(i){n:Nd}(h:Qk M.N i=some n):∃m,Qk (VS M a b r).N i=some m/\m.c=n.c/\m.q=n.q:=by
 unfold VS;split
 .obtain⟨m,e,d,c⟩:=Qi6 (f:=λn=>{ n with du:=zk (QD M a) b r }) (j:=a) (λ_=>rfl) i h;exact⟨m,e,d,by rcases c with rfl|⟨_,rfl⟩<;>rfl⟩
 .exact⟨n,h,rfl,rfl⟩
def VO(M:Qo)(a:Nat)(o:Option It):Option (Int × Bool):=match o with
 | some x=>some (x.ki,true)
 | none=>(Bp M a 17 0).map λid=>(id,false)
def Xk(M:Qo)(a:Int)(r:Bool):Qo:=
 let b:=((QD M a).q.l.headD default).len;let c:=VS ((up M.T a).foldl (VX b.toNat) (Xj M a)) a b r;let d:=if (Xu (QD M a).q).l=[] then W7 c a else c
 Wg d (up M.T a)
@[go_sem] def zn(a:Int)(x:Pk)(r:Bool):List D:=[Qb a,.raw (.int .u64 x.iD),.raw (.int .i64 x.len),.raw (.int .u16 x.xF),.raw (.int .u16 x.xG),.raw (.int .u16 x.xH),.raw (.int .u16 x.xI),QX r]
@[go_sem] def vP:Ob:=⟨.one,0,8,1,λ_=>zn 0 default false⟩
@[go_sem] def zo(x:Pk):Ob:=⟨.one,0,6,1,λ_=>x.cells⟩
def Eh(M:Qo)(a:Nat):(ZV M a).N=M.N/\(ZV M a).T=M.T/\(ZV M a).A=M.A:=by unfold ZV;split<;>exact⟨rfl,rfl,rfl⟩
def Bq{M}(I:Qz M)(a):Qz (ZV M a):=by
 unfold ZV;split
 .rename_i h;unfold wT at h;simp only[zB,Db,GF]at h;exact⟨I.tree,I.yY,I.to,I.nodes,I.Y0,I.ks,I.Bn,I.vN,I.wS,by show a<=_;omega,I.acc⟩
 .exact I
structure UG (own:Nat->Tag) (h:List Ob) (p:Nat) (L:Loc) (M:Qo) (id:Int) (r:Bool) (lb:Nat) (x:Pk) (U:List Int) (k:Nat) (s:St):Prop where
 ex:∃own' H,ZD own' H p L ((U.take k).foldl (VX x.len.toNat) M)/\Zv own h own' H/\own' h.length=.no/\H[h.length]? = some vP/\own' lb=.no/\H[lb]? = some (zo x) /\
  s=⟨[(0,.ptr p 0 0 0),(4,.ptr h.length 0 0 0),(6,Qb id),(7,QX r),(9,.ptr (L.le id) 0 0 0),(10,.ptr lb 0 0 0),(53,ints U),(54,Qb U.length),(55,Qb k)],H⟩
def UG.of{own}{h:List Ob}{p}{L}{M}{c}{r}{b}{x:Pk}{U:List Int}{k:Nat}{a}{H:List Ob}(C:ZD a H p L ((U.take k).foldl (VX x.len.toNat) M))(D:Zv own h a H)(g:a h.length=.no)(f:H[h.length]? = some vP)(e:a b=.no)(d:H[b]? = some (zo x)):
  UG own h p L M c r b x U k ⟨[(0,.ptr p 0 0 0),(4,.ptr h.length 0 0 0),(6,Qb c),(7,QX r),(9,.ptr (L.le c) 0 0 0),(10,.ptr b 0 0 0),(53,ints U),(54,Qb U.length),(55,Qb k)],H⟩:=⟨⟨a,H,C,D,g,f,e,d,rfl⟩⟩
def UH(M:Qo)(a:Nat)(d:D)(b:Qo):Prop:=
 (wT M a=false/\d=.tup [.agg (zn 0 default false),QX false]/\b=M) \/
 (wT M a=true/\∃o,x7 (ZV M a) a o/\match VO (ZV M a) a o with
  | none=>d=.tup [.agg (zn 0 default false),QX false]/\b=ZV M a
  | some (id,r)=>d=.tup [.agg (zn id ((QD M id).q.l.headD default) r),QX true]/\b=Xk (ZV M a) id r)
def Qzi{g}{h}{p}{L}{M}(C:ZD g h p L M)(I:Qz M)(a)
  (ur:∀o id r,x7 (ZV M a) a o->VO (ZV M a) a o=some (id,r)->∃n,Qk M.N id=some n/\n.c.leaf=true/\n.q.l≠[]/\(1<QJ n.c.ls->id∈M.A)) :
  QM prog 118 h [.ptr p 0 0 0,u64 a] (λd h'=>∃b P,ZD b h' p L P/\Qz P/\Zv g h b h'/\UH M a d P):=by
 have ho:=C.ob;have C0:=C.PK [vP];have D0:=Zv.app g h [vP] .no;have yS:Q4 g h .no h.length=.no:=by unfold Q4;rw[Qe (QB _)]
 have Zw:(h++[vP])[h.length]? = some vP:=by rw[Vj rfl];rfl
 refine Q8 func118 ntmps118 results118 λe0 w pl c=>?_;have Qg:=Qc ho;simp only[go_sem,Qa,ho,Qg,Go.undef];refine JG c Qe4 (QiR C0 a) λd W E=>?_;obtain⟨rfl,R,D1⟩:=E;have I1:=Bq I a;obtain⟨t1,t2,t3⟩:=Eh M a;have y6:=D0.trans D1;have KB:W[h.length]? = some vP:=(D1.keep h.length σ yS).trans Zw;have kE:=Qc KB;obtain⟨Jz,MS⟩:∃o,o=Q4 g h .no:=⟨_,rfl⟩;have jm:∀o,(W.set h.length o)[h.length]? = some o:=λo=>Qt kE;rw[<- MS]at y6 R yS;apply Qf c;cases ht:wT M a with
 | false=>
  simp only[go_sem,Qa,ht,Go.undef,KB,kE,jm];have hM:ZV M a=M:=by unfold ZV;rw[ht];rfl
  rw[hM]at R;exact⟨Jz,M,R.loc yS _,I,y6.Ef (QB _) _,.inl ⟨ht,rfl,rfl⟩⟩
 | true=>
  simp only[go_sem,Qa,ht,Go.undef,KB,kE];refine pJ c QsO (Qzd R I1 a) λd E=>?_;obtain⟨o,uu,rfl⟩:=E;apply Qf c;have uv:VO (ZV M a) a o=none->∃b P,ZD b (W.set h.length vP) p L P/\Qz P/\Zv g h b (W.set h.length vP)/\UH M a (.tup [.agg (zn 0 default false),QX false]) P:=λhp=>
   ⟨Jz,ZV M a,R.loc yS _,I1,y6.Ef (QB _) _,.inr ⟨ht,o,uu,by rw[hp];exact⟨rfl,rfl⟩⟩⟩
  have y7:∀id r b H,VO (ZV M a) a o=some (id,r)->ZD b H p L (Xk (ZV M a) id r)->Qz (Xk (ZV M a) id r)->Zv g h b H->UH M a (.tup [.agg (zn id ((QD M id).q.l.headD default) r),QX true]) (Xk (ZV M a) id r):=λid r b H hp _ _ _=>
   .inr ⟨ht,o,uu,by rw[hp];exact⟨rfl,rfl⟩⟩
  obtain⟨id,r,Zp,hp⟩|hp:(∃id r,PX (ZV M a) a o=.tup [Qb id,QX r,QX true]/\VO (ZV M a) a o=some (id,r))\/(PX (ZV M a) a o=.tup [Qb 0,QX false,QX false]/\VO (ZV M a) a o=none):=by
   cases o with
   | some x=>exact .inl ⟨x.ki,true,rfl,rfl⟩
   | none=>
    unfold PX Qi4 VO;dsimp only;cases Bp (ZV M a) a 17 0 with
    | none=>exact .inr ⟨rfl,rfl⟩
    | some i=>exact .inl ⟨i,false,rfl,rfl⟩
  case inr=>
   obtain⟨hd,hp⟩:=hp;rw[hd];simp only[go_sem,Qa,KB,kE,jm];exact uv hp
  rw[Zp];obtain⟨n,hn,hl,hq,Wt⟩:=ur o id r uu hp;have KN:Qk (ZV M a).N id=some n:=by rw[t1];exact hn
  have Jb:QD M id=n:=by unfold QD;rw[hn];rfl
  have uw:QD (ZV M a) id=n:=by unfold QD;rw[KN];rfl
  obtain⟨x,q,PZ⟩:∃x q,n.q.l=x::q:=by
   cases Bl:n.q.l with
   | nil=>exact absurd Bl hq
   | cons x q=>exact⟨x,q,rfl⟩
  have z7:=R.look KN;have Zz:=R.ob;have KX:=Qc Zz;have jo:=R.V9;have iN:=Qc jo;have CO:=(R.Jy id n KN).1;have PR:=Qc CO;obtain⟨kq,MK,hQ⟩:=R.XG id n KN hl;have PN:=Qz.id hn;have F8:qD L.lq n=.ptr (L.lq id) 0 0 0:=by unfold qD;rw[Qe hl,PN]
  rw[F8]at CO;simp only[go_sem,Qa,Zz,KX,jo,iN,z7,CO,PR];refine JG c QsP (Qwo hQ PZ) λd u E=>?_;obtain⟨rfl,Q2,s2⟩:=E;have C2:=R.zf KN hl MK Q2 s2;have ux:{ ZV M a with N:=Ve (ZV M a).N id λm=>{ m with q:=Xu n.q } }=Xj (ZV M a) id:=by unfold Xj;rw[uw]
  rw[ux]at C2;have D2:=y6.trans (Zv.of (t:=.zf id) σ s2);have ZN:u[h.length]? = some vP:=(s2.keep h.length kE (by rw[yS];simp)).trans KB;have VG:Q4 Jz W (.zf id) h.length=.no:=by rw[Ku kE];exact yS
  have Jx:=s2.len;have C3:=C2.PK [zo x];have D3:=D2.trans (Zv.app _ u [zo x] .no);have zl:(u++[zo x])[h.length]? = some vP:=(QE (Qc ZN)).trans ZN;have A9:Q4 (Q4 Jz W (.zf id)) u .no h.length=.no:=by rw[Ku (Qc ZN)];exact VG
  have Cu:(u++[zo x])[u.length]? = some (zo x):=by rw[Vj rfl];rfl
  have vQ:Q4 (Q4 Jz W (.zf id)) u .no u.length=.no:=by unfold Q4;rw[Qe (QB _)]
  have I3:=I1.Xj id;have Xw:=C3.ob;have jC:=Qc Xw;generalize uy:u++[zo x]=H3 at C3 D3 zl Cu Xw jC;generalize Q4 (Q4 Jz W (.zf id)) u .no=Br at C3 D3 A9 vQ;apply QP c;have uz:u++[(⟨.one,0,6,1,λ_=>[.raw (.int .u64 x.iD),.raw (.int .i64 x.len),.raw (.int .u16 x.xF),.raw (.int .u16 x.xG),.raw (.int .u16 x.xH),.raw (.int .u16 x.xI)]⟩:Ob)]=H3:=uy;simp only[uz];simp only[go_sem,Qa,Xw,jC];apply Ju c fe (rB C3.tr.toR I3.tree.toTreeInv id);apply Qf c;simp only[go_sem,Qa,Xw,jC];obtain⟨U,hU⟩:∃U,U=up M.T id:=⟨_,rfl⟩;have b7:ZT (Xj (ZV M a) id).T 16 id=U:=by rw[hU];show up (ZV M a).T id=_;rw[t2]
  rw[b7];have iC:U.length<=16:=by rw[hU];exact A7
  obtain⟨F,ja⟩:∃F,F=Xj (ZV M a) id:=⟨_,rfl⟩;have b3:F.T=M.T:=by rw[ja];exact t2
  have c9:F.A=M.A:=by rw[ja];exact t3
  rw[<- ja]at C3 I3;have Wq:Pn x:=by
   obtain⟨r2,Q⟩:=hQ;exact Q.lens x (by rw[PZ];simp)
  have ex:IntKind.u64.wrap x.len=((x.len.toNat:Nat):Int):=Mu (by have:=Wq.1;omega) (by have:=Wq.2;omega);obtain⟨n3,c8,b2,c7⟩:∃m,Qk F.N id=some m/\m.c=n.c/\m.q=Xu n.q:=by
   rw[ja];unfold Xj;rw[uw];refine⟨{ n with q:=Xu n.q },?_,rfl,rfl⟩;rw[kB (f:=λm=>{ m with q:=Xu n.q }) (λ_=>rfl),Qe rfl,KN];rfl
  refine ZW (UG g h p L F id r u.length x U) U.length QQ (UG.of (k:=0) C3 D3 A9 zl vQ Cu) ?_;rintro k _ hk ⟨Bo,H5,B,D5,iO,xZ,iP,P3,rfl⟩;have iK:=Qc xZ;have iQ:=Qc P3;have I5:=Qz.iM (len:=x.len.toNat) (U.take k) I3;obtain⟨kT,kA,kK,uA,kc,ka,kL⟩:=MQ x.len.toNat (U.take k) F;by_cases Qi:k<U.length;case pos=>
   have dk:=QT Qi;obtain⟨j,hj⟩:∃j,j=U.getD k 0:=⟨_,rfl⟩;have F9:j∈up M.T id:=by rw[hj,<- hU];exact Yx U 0 k Qi
   have Ja:(U.take (k+1)).foldl (VX x.len.toNat) F=VX x.len.toNat ((U.take k).foldl (VX x.len.toNat) F) j:=by
    rw[getD_take U 0 k Qi,qd,<- hj];rfl
   obtain⟨S,PV⟩:∃S,S=(U.take k).foldl (VX x.len.toNat) F:=⟨_,rfl⟩;rw[<- PV]at B I5 kT Ja;obtain⟨y,hy⟩:∃y,Qk S.N j=some y:=by
    have X6:=Ht F9;rw[<- b3,<- kT,I5.find]at X6;cases hq:Qk S.N j with
    | none=>rw[hq]at X6;cases X6
    | some y=>exact⟨y,rfl⟩
   have y0:=B.qH j y hy;have iJ:=B.look hy;have Eg:=B.ob;have PW:=Qc Eg;have UI:=B.V9;have iR:=Qc UI;have MP:=(B.Jy j y hy).1;have T:=Qc MP;have Ga:=(B.Jy j y hy).2;have QU:=JT (show k<4611686018427387904 from ω);have nb:L.le j≠h.length:=λe=>by rw[e,iO]at Ga;cases Ga
   have nx:L.le j≠u.length:=λe=>by rw[e,iP]at Ga;cases Ga
   have O:∀s,(H5.set (L.le j) ⟨.one,0,60,1,λ_=>KW (qD L.lq y) s⟩)[L.le j]? = some ⟨.one,0,60,1,λ_=>KW (qD L.lq y) s⟩:=λs=>Qt T;have HE:∀s,(H5.set (L.le j) s)[u.length]? = some (zo x):=λs=>(Ql nx).trans P3;apply Qf c;simp only[go_sem,Qa,dk,Qi,<- hj,Eg,PW,UI,iR,iJ];apply Qx c o07;simp only[go_sem,Qa,MP,T,P3,iQ,ex,Mv];have iS:=Qwx y.sh y0.sh (Xt (y.Z7+x.len.toNat)) (Mt _);have Ei:=sC y.cp y0.cp (Xt (y.Z7+x.len.toNat)) (Mt _);apply Qx c o01;simp only[go_sem,Qa,O,T];refine Vb c QsQ ?_ iS ?_
   .simp only[go_sem,Qa,O,T]
   apply Zk c;simp only[go_sem,Qa,O,T];apply Qx c o01;simp only[go_sem,Qa,O,T];refine Vb c oZ ?_ Ei ?_
   .simp only[go_sem,Qa,O,T]
   apply Zk c;simp only[go_sem,Qa,O,T];have C6:=B.xK hy (CS x.len.toNat) (λ_=>rfl) (λ_=>rfl) (Qi5 y0 _);have D6:=Zv.set (own:=Bo) (h:=H5) (YZ (qD L.lq y) (CS x.len.toNat y)) (l:=L.le j) (by rw[Ga];simp);refine⟨Qi,_,Qr.frame (by simp only[go_sem,QU]),UG.of (by rw[Ja];exact C6) (D5.trans D6) iO (by rw[Ql nb];exact xZ) iP (by rw[Ql nx];exact P3)⟩
  have ZG:k=U.length:=ω;have dk:=QH Qi;rw[ZG,Wc]at B I5 kT kA;obtain⟨S,PV⟩:∃S,S=U.foldl (VX x.len.toNat) F:=⟨_,rfl⟩;obtain⟨n5,P4,b1,c5,_⟩:=Qi7 x.len.toNat U F id c8;rw[<- PV]at B I5 kT kA P4;have a4:n5.c.leaf=true:=by rw[b1,b2];exact hl
  have iJ:=B.look P4;have Eg:=B.ob;have PW:=Qc Eg;have MP:=(B.Jy id n5 P4).1;have T:=Qc MP;apply Qf c;simp only[go_sem,Qa,dk];apply Qf c;simp only[go_sem,Qa,P3,iQ];refine JG c QsR (Qy0 B I5 P4 a4 x.len (by have:=Wq.1;omega) (by have:=Wq.2;omega) r) λd H6 E=>?_;obtain⟨b0,C6,D6⟩:=E;have I6:=I5.VS P4 x.len r;obtain⟨a0,a1,_⟩:=PY S id x.len r;obtain⟨V,UJ,a9,c4⟩:=Qzh S id x.len r id P4;obtain⟨Y,a7⟩:∃Y,Y=VS S id x.len r:=⟨_,rfl⟩;rw[<- a7]at C6 I6 a0 a1 UJ;have yP:H6[h.length]? = some vP:=(D6.keep _ iK iO).trans xZ;have iT:b0 h.length=.no:=(D6.same _ iK).trans iO;have HE:H6[u.length]? = some (zo x):=(D6.keep _ iQ iP).trans P3;have uB:b0 u.length=.no:=(D6.same _ iQ).trans iP;have iU:=Qc yP;have Pc:=Qc HE;have b4:=D5.trans D6;have CD:V.c.leaf=true:=by rw[a9];exact a4
  have b6:V.q=Xu n.q:=by rw[c4,c5,c7]
  have a5:V.c=n.c:=by rw[a9,b1,b2]
  have vJ:=C6.ob;have q9:=Qc vJ;have O:=(C6.Jy id V UJ).1;have uC:=Qc O;have c3:qD L.lq V=.ptr (L.lq id) 0 0 0:=by unfold qD;rw[Qe CD,a5,PN]
  rw[c3]at O;obtain⟨e1,e2,b9⟩:=C6.XG id V UJ CD;have uD:V.q.l.length=q.length:=by rw[b6];unfold Xu;rw[PZ];rfl
  have WZ:Qy Y.T id=some V.c:=I6.some UJ;have Xn:Xk (ZV M a) id r=Wg (if (Xu n.q).l=[] then W7 Y id else Y) (up (ZV M a).T id):=by
   unfold Xk;simp only[uw,PZ,List.headD_cons];rw[show up (ZV M a).T id=U by rw[t2];exact hU.symm,<- ja,<- PV,<- a7]
  have uE:Y.T=M.T:=by rw[a0,kT,b3]
  have c0:Y.A=M.A:=by rw[a1,kA,c9]
  apply Qf c;simp only[go_sem,Qa,vJ,q9,O,uC];refine Xr c OF ?_ (Pq b9.toR) ?_
  .simp only[go_sem,Qa,vJ,q9,O,uC,uD]
  apply Qf c;simp only[go_sem,Qa,vJ,q9,O,uC,uD];have gh:∀K v,ZD K v p L (Xk (ZV M a) id r)->Qz (Xk (ZV M a) id r)->Zv g h K v->v[h.length]? = some vP->K h.length=.no ->
    ∃b P,ZD b (v.set h.length ⟨.one,0,8,1,λ_=>zn id x r⟩) p L P/\Qz P/\Zv g h b (v.set h.length ⟨.one,0,8,1,λ_=>zn id x r⟩)/\UH M a (.tup [.agg (zn id x r),QX true]) P:=λK v C8 I8 J Z UK=>
   ⟨K,_,C8.loc UK _,I8,J.Ef (QB _) _,by
    have:=y7 id r K v hp C8 I8 J;rwa [Jb,PZ,List.headD_cons]at this⟩
  have b5:(Xu n.q).l=q:=by unfold Xu;rw[PZ];rfl
  rw[b5]at Xn;cases iV:q with
  | cons z q2=>
   have dz:(((q2.length+1:Nat):Int)==0)=false:=VU ω;rw[iV,Qd σ]at Xn;have Za:=tZ C6 I6 id;rw[uE,<- t2,<- Xn]at Za;simp only[go_sem,Qa,iV,dz];refine JG c oY Za λd v E=>?_;obtain⟨K,C8,I8,J⟩:=E;have Z:v[h.length]? = some vP:=(J.keep _ iU iT).trans yP;have UL:v[u.length]? = some (zo x):=(J.keep _ Pc uB).trans HE;have UK:K h.length=.no:=(J.same _ iU).trans iT;have UM:=Qc Z;have uF:=Qc UL;have uG:∀o,(v.set h.length o)[h.length]? = some o:=λo=>Qt UM;apply Qf c;simp only[go_sem,Qa,Z,UM,UL,uF,uG];exact gh K v C8 I8 (b4.trans J) Z UK
  | nil=>
   rw[iV,Qe rfl]at Xn;simp only[go_sem,Qa,iV];refine JG c QsS (Qy8 C6 I6 UJ CD (by rw[a5,c0];exact Wt) (Qzg I6.tree WZ CD _)) λd H7 E=>?_;obtain⟨jD,C7,I7,D7⟩:=E;have a6:H7[h.length]? = some vP:=(D7.keep _ iU iT).trans yP;have a2:H7[u.length]? = some (zo x):=(D7.keep _ Pc uB).trans HE;have a3:jD h.length=.no:=(D7.same _ iU).trans iT;have c2:jD u.length=.no:=(D7.same _ Pc).trans uB;have a8:=Qc a6;have c1:=Qc a2;have Za:=tZ C7 I7 id;have b8:(W7 Y id).T=M.T:=by
    unfold W7;split
    .rw[(HT _ _).1];exact uE
    .exact uE
   rw[b8,<- t2,<- Xn]at Za;apply QP c;refine JG c oY Za λd v E=>?_;obtain⟨K,C8,I8,J⟩:=E;have Z:v[h.length]? = some vP:=(J.keep _ a8 a3).trans a6;have UL:v[u.length]? = some (zo x):=(J.keep _ c1 c2).trans a2;have UK:K h.length=.no:=(J.same _ a8).trans a3;have UM:=Qc Z;have uF:=Qc UL;have uG:∀o,(v.set h.length o)[h.length]? = some o:=λo=>Qt UM;apply Qf c;simp only[go_sem,Qa,Z,UM,UL,uF,uG];exact gh K v C8 I8 ((b4.trans D7).trans J) Z UK
structure W8 (c:Cf):Prop where
 t1:1<=c.t
 t2:c.t<=65536
 l1:1<=c.JI
 l2:c.JI<=16384
def KY(M:Qo)(a:Int)(x:Pk):Qo:={ M with N:=Ve M.N a λm=>{ m with q:=Yh (QD M a).c.ZR (QD M a).c.bytes (QD M a).q x } }
def kF(M:Qo)(a:Nat):Qo:={ M with acc:=a }
def VY(M:Qo)(a:Int)(x:Pk):Int:=
 match Qk M.N a with
 | none=>23
 | some n=>if n.c.leaf=false then 29 else if x.len<1\/M.lk.JI<x.len then 26 else if 1099511627776<M.acc+x.len.toNat then 28
  else if vI n.c.ZR n.c.bytes n.q x=true then 30 else 0
def Wa(M:Qo)(b:Nat)(a:Int)(x:Pk):Qo:=
 if VY M a x=30 then KY M a x
 else if VY M a x=0 then (if (QD M a).q.l=[] then Ym (kF (KY M a x) (M.acc+x.len.toNat)) b a x.len else kF (KY M a x) (M.acc+x.len.toNat))
 else M
def Qz.KY{M}(I:Qz M)(a:Int)(x):Qz (KY M a x):=I.Ve a (λm=>{ m with q:=Yh (QD M a).c.ZR (QD M a).c.bytes (QD M a).q x }) λ_=>rfl
def Qz.kF{M}(I:Qz M){a}(h:a<=1099511627776):Qz (kF M a):=⟨I.tree,I.yY,I.to,I.nodes,I.Y0,I.ks,I.Bn,I.vN,I.wS,I.Qh,h⟩
def Qjn(M:Qo)(a:Nat):(ZV M a).lk=M.lk/\(ZV M a).acc=M.acc:=by unfold ZV;split<;>exact⟨rfl,rfl⟩
def qI(M:Qo)(a:Nat)(b:Int)(x:Pk):Int:=if wT M a=true then VY (ZV M a) b x else 27
def Jg(M:Qo)(a:Nat)(b:Int)(x:Pk):Qo:=if wT M a=true then Wa (ZV M a) a b x else M
def Qzx{v}{h}{p}{L}{M:Qo}(C:ZD v h p L M)(I:Qz M)(K:W8 M.lk)(i)(WI:i<18446744073709551616)(c)(x)
  (hA:∀n,Qk M.N c=some n->n.c.leaf=true->n.q.l=[]->c ∉ M.A) :
  QM prog 78 h [.ptr p 0 0 0,u64 i,Qb c,.agg x.cells] (λd h'=>∃j z,ZD j h' p L z/\Qz z/\Zv v h j h' /\
   d=Qb (qI M i c x)/\z=Jg M i c x):=by
 have ho:=C.ob;have C0:=C.PK [zo x];have D0:=Zv.app v h [zo x] .no;have yS:Q4 v h .no h.length=.no:=by unfold Q4;rw[Qe (QB _)]
 have Zw:(h++[zo x])[h.length]? = some (zo x):=by rw[Vj rfl];rfl
 refine Q8 func78 ntmps78 results78 λa9 w pl k=>?_;have Qg:=Qc ho;simp only[go_sem,Qa,ho,Qg];refine JG k Qe4 (QiR C0 i) λd F hR=>?_;obtain⟨rfl,s,D1⟩:=hR;have Q:=Bq I i;obtain⟨t1,t2,t3⟩:=Eh M i;obtain⟨t4,t5⟩:=Qjn M i;have T:=D0.trans D1;have P:F[h.length]? = some (zo x):=(D1.keep h.length σ yS).trans Zw;have J:=Qc P;obtain⟨Y,MS⟩:∃o,o=Q4 v h .no:=⟨_,rfl⟩;rw[<- MS]at T s yS;have O:=s.ob;have W:=Qc O;have jo:=s.V9;have iN:=Qc jo;apply Qf k;cases V:wT M i with
 | false=>
  have hM:ZV M i=M:=by unfold ZV;rw[V];rfl
  rw[hM]at s;simp only[go_sem,Qa,V];exact⟨Y,M,s,I,T,by rw[show qI M i c x=27 from Qd (by rw[V];exact BF)],(Qd (by rw[V];exact BF)).symm⟩
 | true=>
  have R:∀j H z,ZD j H p L z->Qz z->Zv v h j H->z=Wa (ZV M i) i c x->∀e,VY (ZV M i) c x=e->∃j z,ZD j H p L z/\Qz z/\Zv v h j H/\Qb e=Qb (qI M i c x)/\z=Jg M i c x:=
   λj H z F S h3 h4 e he=>⟨j,z,F,S,h3,by rw[<- he];unfold qI;rw[Qe V],by unfold Jg;rw[Qe V];exact h4⟩
  obtain⟨g,a3⟩:∃g,g=ZV M i:=⟨_,rfl⟩;rw[<- a3]at s Q t1 t2 t3 t4 t5 R O;cases u:Qk g.N c with
  | none=>
   have hk:=s.zg.at_ c;rw[u,zE]at hk;have r:VY g c x=23:=by unfold VY;rw[u]
   have E:Wa g i c x=g:=by unfold Wa;rw[r];rfl
   simp only[go_sem,Qa,V,O,W,jo,iN,hk];exact R Y F g s Q T E.symm 23 r
  | some n=>
   have hk:=s.look u;have CO:=(s.Jy c n u).1;have PR:=Qc CO;have PN:=Qz.id u;simp only[go_sem,Qa,V,O,W,jo,iN,hk,CO,PR];cases B:n.c.leaf with
   | false=>
    have r:VY g c x=29:=by unfold VY;rw[u];simp[B]
    have E:Wa g i c x=g:=by unfold Wa;rw[r];rfl
    simp only[go_sem,Qa];exact R Y F g s Q T E.symm 29 r
   | true=>
    have UN:=P;have jm:∀o,(F.set h.length o)[h.length]? = some o:=λo=>Qt J;obtain⟨U,MK,hQ⟩:=s.XG c n u B;have F8:qD L.lq n=.ptr (L.lq c) 0 0 0:=by unfold qD;rw[Qe B,PN]
    rw[F8]at CO;have Jb:QD g c=n:=by unfold QD;rw[u];rfl
    have K1:W8 g.lk:=by rw[t4];exact K
    have ZI:=K1.l1;have Jx:=K1.l2;have b1:=Q.acc;have fE:(x.len<1\/g.lk.JI<x.len)->VY g c x=26:=λh=>by unfold VY;rw[u];simp only[B];rw[Qd σ,Qe h]
    have fP:(x.len<1\/g.lk.JI<x.len)->Wa g i c x=g:=λh=>by unfold Wa;rw[fE h];rfl
    cases d1:decide (x.len<1) with
    | true=>
     have:=qQ d1;simp only[go_sem,Qa];apply Qx k o05;simp only[go_sem,Qa,P,J,O,W,d1];exact R Y F g s Q T (fP (.inl this)).symm 26 (fE (.inl this))
    | false=>
     have x1:1<=x.len:=by have:=Dg d1;omega
     cases d2:decide (g.lk.JI<x.len) with
     | true=>
      have:=qQ d2;simp only[go_sem,Qa];apply Qx k o05;simp only[go_sem,Qa,P,J,O,W,d1,d2];exact R Y F g s Q T (fP (.inr this)).symm 26 (fE (.inr this))
     | false=>
      have x2:x.len<=g.lk.JI:=by have:=Dg d2;omega
      have hx:Pn x:=⟨x1,ω⟩;have pM:(x.len.toNat:Int)=x.len:=EG ω;obtain⟨a,ha⟩:∃a,a=x.len.toNat:=⟨_,rfl⟩;rw[<- ha]at pM;have ex:IntKind.u64.wrap x.len=(a:Int):=by rw[ha];exact Mu ω ω
      have ew:IntKind.u64.wrap ((g.acc:Int)+(a:Int))=((g.acc+a:Nat):Int):=by rw[Mu ω ω];omega
      have ge:¬ (x.len<1\/g.lk.JI<x.len):=ω;cases d3:decide ((1099511627776:Int)<((g.acc+a:Nat):Int)) with
      | true=>
       have a4:=qQ d3;have r:VY g c x=28:=by unfold VY;rw[u];simp only[B];rw[Qd σ,Qd ge,Qe (by rw[<- ha];omega)]
       have E:Wa g i c x=g:=by unfold Wa;rw[r];rfl
       simp only[go_sem,Qa];apply Qx k o05;simp only[go_sem,Qa,P,J,O,W,d1,d2];apply Qx k Eq;simp only[go_sem,Qa,P,J,O,W,ex,ew,d3];exact R Y F g s Q T E.symm 28 r
      | false=>
       have a4:=Dg d3;simp only[go_sem,Qa];apply Qx k o05;simp only[go_sem,Qa,P,J,O,W,d1,d2];apply Qx k Eq;simp only[go_sem,Qa,P,J,O,W,ex,ew,d3];apply VE [5] k [0,1,2,3,4,1005,6] [];simp only[go_sem,Qa,P,J,CO,PR];refine wC k Qsq (Qwn hQ x hx) λd S hR=>?_;obtain⟨rfl,Q2,s2⟩:=hR;have VG:Q4 Y F (.zf c) h.length=.no:=by rw[Ku J];exact yS
       have ZN:S[h.length]? = some (zo x):=(s2.keep h.length J (by rw[yS];simp)).trans P;have vR:=Qc ZN;have Z:=s.zf u B MK Q2 s2;have D2:=T.trans (Zv.of (t:=.zf c) σ s2);have ux:{ g with N:=Ve g.N c λm=>{ m with q:=Yh U n.c.bytes n.q x } }=KY g c x:=by unfold KY;rw[Jb,MK]
       rw[ux]at Z;have I2:=Q.KY c x;have vz:∀b,vI U n.c.bytes n.q x=b->VY g c x=if b=true then 30 else 0:=λb k=>by
        unfold VY;rw[u];simp only[B];rw[Qd σ,Qd ge,Qd (by rw[<- ha];omega),MK,k]
       generalize Q4 Y F (.zf c)=Kj at Z D2 VG;apply Zk k;cases uH:vI U n.c.bytes n.q x with
       | true=>
        have r:VY g c x=30:=vz _ uH;have E:Wa g i c x=KY g c x:=by unfold Wa;rw[r];rfl
        simp only[go_sem,Qa];exact R Kj S _ Z I2 D2 E.symm 30 r
       | false=>
        have r:VY g c x=0:=vz _ uH;have VN:=Z.ob;have z8:=Qc VN;have a8:(KY g c x).acc=g.acc:=rfl;have a7:(KY g c x).lk=g.lk:=rfl;have a6:(KY g c x).Qh=g.Qh:=rfl;have C3:ZD Kj (S.set p (kz g.lk L.t L.b L.o L.v L.m g.Qh (g.acc+a))) p L (kF (KY g c x) (g.acc+a)):=Z.Qh g.Qh (g.acc+a);have I3:Qz (kF (KY g c x) (g.acc+a)):=I2.kF ω;have D3:=D2.trans (Zv.set (own:=Kj) (h:=S) (l:=p) (kz g.lk L.t L.b L.o L.v L.m g.Qh (g.acc+a)) (by rw[Z.op];decide));have a1:p≠h.length:=λe=>by have:=Z.op;rw[e,VG]at this;cases this
        have zl:(S.set p (kz g.lk L.t L.b L.o L.v L.m g.Qh (g.acc+a)))[h.length]? = some (zo x):=(Ql a1).trans ZN;have CP:=Qc zl;generalize uy:S.set p (kz g.lk L.t L.b L.o L.v L.m g.Qh (g.acc+a))=H3 at C3 D3 zl CP;have uz:S.set p ⟨.one,0,9,1,λ_=>[.raw (.int .i64 g.lk.t),.raw (.int .i64 g.lk.JI),.ptr L.t 0 0 0,.mref L.b 0,.ptr L.o 0 0 0,.ptr L.v 0 0 0,.mref L.m 0,.raw (.int .u64 (g.Qh:Nat)),.raw (.int .u64 ((g.acc+a:Nat):Int))]⟩=H3:=uy;have A9:Qk (kF (KY g c x) (g.acc+a)).N c=some { n with q:=Yh U n.c.bytes n.q x }:=by
         show Qk (KY g c x).N c=_;unfold KY;dsimp only;rw[Jb,MK,kB (f:=λm:Nd=>{ m with q:=Yh U n.c.bytes n.q x }) (λ_=>rfl) c,Qe rfl,u,K6]
        have x6:=(C3.Jy c _ A9).1;have a5:qD L.lq { n with q:=Yh U n.c.bytes n.q x }=.ptr (L.lq c) 0 0 0:=by unfold qD;rw[Qe B,PN]
        rw[a5]at x6;have wU:=Qc x6;obtain⟨b0,b2,a2⟩:=C3.XG c _ A9 B;simp only[go_sem,Qa];apply Qx k o07;simp only[go_sem,Qa,ZN,vR,VN,z8,ex,ew,a8,a7,a6,uz,x6,wU];have Zb:(Yh U n.c.bytes n.q x).l.length=n.q.l.length+1:=by unfold Yh;rw[Qd (by rw[uH];exact BF)];simp
        have uD:({ n with q:=Yh U n.c.bytes n.q x }:Nd).q.l.length=n.q.l.length+1:=Zb;have Xw:=C3.ob;have jC:=Qc Xw;refine Xr k OF ?_ (Pq a2.toR) ?_
        .simp only[go_sem,Qa,zl,CP,Xw,jC,x6,wU,Zb]
        apply Qf k;simp only[go_sem,Qa,zl,CP,Xw,jC,x6,wU,Zb];cases hq:n.q.l with
        | cons y q=>
         have dz:(((q.length+1+1:Nat):Int)==1)=false:=VU ω;have E:Wa g i c x=kF (KY g c x) (g.acc+a):=by unfold Wa;rw[r,Jb,hq,<- ha];rfl
         simp only[go_sem,Qa,Vo,dz];exact R Kj H3 _ C3 I3 D3 E.symm 0 r
        | nil=>
         have dz:(((0+1:Nat):Int)==1)=true:=rfl;have Jc:Kg (kF (KY g c x) (g.acc+a)) c=false:=by
          rw[jj];intro h9;have h8:=(iL Q.tree (Q.some u) B g.A).1 h9;rw[t3]at h8;exact hA n (by rw[<- t1];exact u) B hq h8
         have E:Wa g i c x=Ym (kF (KY g c x) (g.acc+a)) i c x.len:=by unfold Wa;rw[r,Jb,hq,<- ha];rfl
         simp only[go_sem,Qa,List.length_nil,dz];simp only[go_sem,Qa,zl,CP];refine JG k Qsr (Qy3 C3 I3 A9 B i WI x.len ω Jc) λd h4 hR=>?_;obtain⟨a0,C4,I4,D4⟩:=hR;apply QP k;exact R a0 h4 _ C4 I4 (D3.trans D4) E.symm 0 r
@[go_sem] def iW(c:Cf):Ob:=⟨.one,0,2,1,λ_=>c.cells⟩
def M0(c:Cf):Qo:=⟨c,[],[],[],[],[],λid=>decide (id=0),λ_=>[],0,0⟩
def iX(a:Nat->Tag)(b:Nat)(l:Nat):Tag:=
 if l<b then a l else if l<b+2 then .tree else if l<b+5 then .lv else if l<b+8 then .Yj 0 else if l=b+8 then .mk else if l=b+9 then .tU else if l=b+10 then .sc else .on
def QzG(h:List Ob):Xf prog 61 h [] (λd g=>d=.ptr (h.length+1) 0 0 0/\g=[QS .i64 0 [],⟨.one,0,1,1,λ_=>[.mref h.length 0]⟩]):=
 QM.mono (Qv4 (h.map Ob.ro)) λd c ⟨b,a⟩=>⟨_,a,by rw[b,KK],by rw[KK]⟩
def wV(b:Nat):List Ob:=[xR .nil,QS .i64 0 [],FJ b (b+1)]
def QzH(h:List Ob):Xf prog 62 h [] (λd g=>d=.ptr (h.length+2) 0 0 0/\g=wV h.length):=by
 have:QM prog 62 (h.map Ob.ro) [] (λd b=>d=.ptr ((h.map Ob.ro).length+2) 0 0 0/\b=h.map Ob.ro++wV (h.map Ob.ro).length):=by
  generalize h.map Ob.ro=h;refine Q8 func62 ntmps62 results62 λc w j a=>?_;simp only[go_sem,Qa];refine Fu a Qe1 (QgN h) λd h e=>?_;obtain⟨rfl,rfl⟩:=e;apply QP a;rfl
 exact QM.mono this λd b ⟨i,f⟩=>⟨_,f,by rw[i,KK],by rw[KK]⟩
def Qjo(h:List Ob):Xf prog 63 h [] (λd g=>d=.ptr (h.length+2) 0 0 0/\g=wV h.length):=by
 have:QM prog 63 (h.map Ob.ro) [] (λd b=>d=.ptr ((h.map Ob.ro).length+2) 0 0 0/\b=h.map Ob.ro++wV (h.map Ob.ro).length):=by
  generalize h.map Ob.ro=h;refine Q8 func63 ntmps63 results63 λc w j a=>?_;simp only[go_sem,Qa];refine Fu a Qe1 (QgN h) λd h e=>?_;obtain⟨rfl,rfl⟩:=e;apply QP a;rfl
 exact QM.mono this λd b ⟨i,f⟩=>⟨_,f,by rw[i,KK],by rw[KK]⟩
def uJ{H:List Ob}{S}{b}(g:H[b]? = some (xR .nil))(f:H[b+1]? = some (QS .i64 0 []))(e:H[b+2]? = some (FJ b (b+1)))(d:S b)(c:S (b+1))(a:S (b+2)):WX S H (b+2) []:=
 ⟨b,b+1,.nil,0,[],e,⟨g,trivial,rfl,by simp[Tr.QN],by simp[Tr.QN],by simp[Vw]⟩,f,YA.nil,σ,ω,ω,ω,by simp[Tr.QN],by simp[Tr.QN],a,d,c,by simp[Tr.QN]⟩
def Qjp:KF []:=⟨TreeInv.nil,σ,σ,σ,σ⟩
def uK(c):Qz (M0 c):=
 ⟨Qjp,λc b=>by simp[M0]at b,rfl,rfl,λa d=>by simp[M0]at d,λid=>by simp[M0,Qk],λx hx=>by simp[M0]at hx,λid x hx=>by simp[M0]at hx,λid x hx=>by simp[M0]at hx,by simp[M0],by simp[M0]⟩
def QzI{own}{h}(c):
  QM prog 39 h [.agg c.cells] (λd x=>(W8 c/\∃q L p,d=.tup [.ptr p 0 0 0,Qb 0]/\ZD q x p L (M0 c)/\Qz (M0 c)/\Zv own h q x)\/(¬ W8 c/\d=.tup [.raw (.pointer none),Qb 1]/\∃g,x=h++g)):=by
 have Zw:∀g,(h++iW c::g)[h.length]? = some (iW c):=λg=>Vj rfl;by_cases K:W8 c
 .have d1:decide (c.t<1)=false:=QH (by have:=K.t1;omega);have d2:decide (65536<c.t)=false:=QH (by have:=K.t2;omega);have d3:decide (c.JI<1)=false:=QH (by have:=K.l1;omega);have d4:decide (16384<c.JI)=false:=QH (by have:=K.l2;omega);refine Q8 func39 ntmps39 results39 λf w v b=>?_;simp only[go_sem,Qa,Qa,d1,d2,d3,d4];apply Qx b [0,1001,1003,1005,1004,1006,7,1002,8,1009,10];simp only[go_sem,Qa];refine SN b Qr2 rfl ?_ (QzG _) rfl λd h m=>?_
  .simp only[go_sem,Qa]
  obtain⟨rfl,rfl⟩:=m;apply YQ b;refine SN b Qr3 rfl ?_ (QzH _) rfl λd h m=>?_
  .simp only[go_sem,Qa,wV]
  obtain⟨rfl,rfl⟩:=m;apply Zk b;simp only[go_sem,Qa,wV];refine SN b QeU rfl ?_ (Qjo _) rfl λd h m=>?_
  .simp only[go_sem,Qa,wV]
  obtain⟨rfl,rfl⟩:=m;apply Zk b;simp only[go_sem,Qa,wV];refine QwQ Ca b rfl rfl rfl rfl (VP (k:=9) rfl) ?_;apply YQ b;obtain⟨cm,em,Up,XS⟩:=Vc.nil.set .i64 0 0 (.ptr (h.length+6+2) 0 0 0);obtain⟨G,a⟩:∃G:List Ob,G=[iW c,QS .i64 0 [],⟨.one,0,1,1,λ_=>[.mref (h.length+1) 0]⟩,xR .nil,QS .i64 0 [],FJ (h.length+3) (h.length+3+1),xR .nil,QS .i64 0 [],FJ (h.length+6) (h.length+6+1),J7 .i64 0 [] 0 (.ptr (h.length+6+2) 0 0 0),QS .i64 0 [],⟨.one,0,9,1,λ_=>[Qb c.t,Qb c.JI,.ptr (h.length+1+1) 0 0 0,.mref (h.length+10) 0,.raw (.pointer none),.ptr (h.length+3+2) 0 0 0,.mref (h.length+9) 0,u64 0,u64 0]⟩]:=⟨_,rfl⟩;have PG:G.length=12:=by rw[a];rfl
  have y:∀k o,G[k]? = some o->(h++G)[h.length+k]? = some o:=λk o e=>by rw[Kh ω,bu];exact e
  have ht:=y 2 _ (by rw[a];rfl);have hm:=y 1 _ (by rw[a];rfl);have T:=y 11 _ (by rw[a];rfl);have HX:=Qc T;have R:XE (h++G) (h.length+2) []:=WG.toR (S:=λ_=>True) ⟨h.length+1,0,[],ht,hm,VF.nil,trivial,trivial⟩;have U:=QgG R Qjp;rw[a]at U;refine V5 b QeV rfl ?_ U rfl λd x m=>?_
  .simp only[go_sem,Qa]
  rw[<- a]at m;obtain⟨rfl,hO,g,rfl⟩:=m;apply Qf b;have Y:((h++G)++g)[h.length+11]? = _:=(QE HX).trans T;have Z:=Qc Y;have a0:(h++G).length=h.length+12:=by rw[Zo,PG]
  simp only[go_sem,Y,Z];obtain⟨I,V⟩:∃o,o=Q4 own h .no:=⟨_,rfl⟩;obtain⟨s,z⟩:∃o,o=iX I (h.length+1):=⟨_,rfl⟩;have i:∀k,k<12->s (h.length+k)=if k<1 then .no else if k<3 then .tree else if k<6 then .lv else if k<9 then .Yj 0 else if k=9 then .mk else if k=10 then .tU else .sc:=λk u=>by
   rw[z];unfold iX;by_cases Q:k<1
   .rw[Qe ω,Qe Q,V];unfold Q4;rw[Qe ω]
   .rw[Qd ω,Qd Q];by_cases P:k<3
    .rw[Qe ω,Qe P]
    .rw[Qd ω,Qd P];by_cases O:k<6
     .rw[Qe ω,Qe O]
     .rw[Qd ω,Qd O];by_cases N:k<9
      .rw[Qe ω,Qe N]
      .rw[Qd ω,Qd N];by_cases M:k=9
       .rw[Qe ω,Qe M]
       .rw[Qd ω,Qd M];by_cases J:k=10
        .rw[Qe ω,Qe J]
        .rw[Qd ω,Qd J,Qe ω]
  have C:∀l,h.length+12<=l->s l=.on:=λl t=>by
   rw[z];unfold iX;rw[Qd ω,Qd ω,Qd ω,Qd ω,Qd ω,Qd ω,Qd ω]
  have E:∀l,l<h.length->s l=own l:=λl t=>by
   rw[z];unfold iX;rw[Qe ω,V];exact Ku t
  generalize hS:(⟨.one,0,9,1,_⟩:Ob)=S0;have j:∀k o,k<11->G[k]? = some o->((h++G++g).set (h.length+11) S0)[h.length+k]? = some o:=λk o u e=>(Ql ω).trans ((QE ω).trans (y k o e));have g1:=j 1 _ ω (by rw[a];rfl);have g2:=j 2 _ ω (by rw[a];rfl);have g3:=j 3 _ ω (by rw[a];rfl);have g4:=j 4 _ ω (by rw[a];rfl);have g5:=j 5 _ ω (by rw[a];rfl);have g6:=j 6 _ ω (by rw[a];rfl);have g7:=j 7 _ ω (by rw[a];rfl);have g8:=j 8 _ ω (by rw[a];rfl);have W:=j 9 _ ω (by rw[a];rfl);have H:=j 10 _ ω (by rw[a];rfl);have F:((h++G++g).set (h.length+11) S0)[h.length+11]? = some S0:=Qt Z;rw[Up]at W;have B:∀id n,Qk (M0 c).N id=some n->False:=by intro id n r;cases r
  refine .inl ⟨K,s,⟨h.length+2,h.length+10,(h++G).length+3,h.length+5,h.length+9,0,cm,[],em,λ_=>0,λ_=>0,λ_=>h.length+8⟩,h.length+11,rfl,⟨?_,(i 11 ω).trans rfl,⟨h.length+1,0,[],g2,g1,VF.nil,(i 2 ω).trans rfl,(i 1 ω).trans rfl⟩,H,Vc.nil.to λk=>rfl,(i 10 ω).trans rfl,λid n r=>(B id n r).elim,λid n r=>(B id n r).elim,?_,uJ (S:=λl=>s l=.lv) g3 g4 g5 ((i 3 ω).trans rfl) ((i 4 ω).trans rfl) ((i 5 ω).trans rfl),W,XS.to λk=>?_,(i 9 ω).trans rfl,λid Zp=>?_,λid n r=>(B id n r).elim⟩,uK c,⟨E,?_,?_⟩⟩
  .rw[F,<- hS];rfl
  .exact hO.step λl t ho=>⟨C l ω,Ql ω⟩
  .by_cases u:k=0
   .subst u;rfl
   .show (if k=0 then _ else _)=if decide (k=0)=true then _ else _;rw[Qd u,Qd (by simpa using u)]
  .have:id=0:=by simpa[M0] using Zp
   subst this;exact uJ (S:=λl=>s l=.Yj 0) g6 g7 g8 ((i 6 ω).trans rfl) ((i 7 ω).trans rfl) ((i 8 ω).trans rfl)
  .intro l t Jc;exact(Ql ω).trans ((QE ω).trans (QE t))
  .simp only[K0,Zo];omega
 .have a1:∀d,d=D.tup [.raw (.pointer none),Qb 1]->∃g,h++[iW c]=h++g:=λ_ _=>⟨_,rfl⟩;cases d1:decide (c.t<1) with
  | true=>
   refine Q8 func39 ntmps39 results39 λf w v b=>?_;simp only[go_sem,Qa,Qa,d1];exact .inr ⟨K,_,rfl⟩
  | false=>
   cases d2:decide (65536<c.t) with
   | true=>
    refine Q8 func39 ntmps39 results39 λf w v b=>?_;simp only[go_sem,Qa,Qa,d1,d2];exact .inr ⟨K,_,rfl⟩
   | false=>
    cases d3:decide (c.JI<1) with
    | true=>
     refine Q8 func39 ntmps39 results39 λf w v b=>?_;simp only[go_sem,Qa,Qa,d1,d2,d3];exact .inr ⟨K,_,rfl⟩
    | false=>
     have d4:decide (16384<c.JI)=true:=by
      have e1:=Dg d1;have e2:=Dg d2;have e3:=Dg d3;refine QT (jk λe4=>K ⟨ω,ω,ω,ω⟩)
     refine Q8 func39 ntmps39 results39 λf w v b=>?_;simp only[go_sem,Qa,Qa,d1,d2,d3,d4];exact .inr ⟨K,_,rfl⟩
def iY{l:List Int}{k}(h:k<l.length):l.getD k 0∈l:=by
 rw[QY,QG h];exact X0 h
def uL(l:List Int)(F:List Ob)(f a:Nat)(b:List D)(g:Int->Bool):Prop:=∀(h:List Ob) (n:Int),n∈l->VQ F h->Zi prog f h (Z6 a b [Qb n]) (λd=>d=QX (g n))
def UP(l:List Int)(F:List Ob)(b:Nat)(f a:Nat)(c:List D)(g:Int->Bool):Prop:=∀(h:List Ob) (n:Int),n∈l->F.length<=h.length->(∀l,l<F.length->l≠b->h[l]? = F[l]?)->Zi prog f h (Z6 a c [Qb n]) (λd=>d=QX (g n))
section
variable (h:List Ob)(l:List Int)(lo gn off:Nat)(row:Nat->List D)(hlen:l.length<1000000)(ho:(h.map Ob.ro)[lo]? = some ⟨.As,gn,1,off+l.length,row⟩)(hr:∀i,i<l.length->row (off+i)=[Qb (l.getD i 0)])
include hlen ho hr
theorem QzM(e:D)(f m:Nat)(r:List D)(y:Qn prog f)(C:JF e=some (f,m,r))(c:Int->Bool)(x:uL l (h.map Ob.ro) f m r c):
  Zi prog 102 h [.ref lo gn off l.length,e] (λd=>d=Qb (xL c l)):=by
 refine ZJ func102 ntmps102 results102 λt w H F q I b=>?_;rw[<- q]at ho;have j:=Qc ho;simp only[go_sem,Qa,ho,j];refine ZW (λk s=>(∀i,i<k->c (l.getD i 0)=false)/\s=⟨[(0,.ref lo gn off l.length),(1,e),(7,Qb l.length),(8,Qb k)],F⟩) l.length QQ ⟨λi p=>absurd p ω,rfl⟩ ?_;rintro k s o ⟨g,rfl⟩;apply QP b;have j:=Qc ho;have E:=JT (show k<4611686018427387904 from ω);first|refine WS o (λa=>?_) (λa=>?_)|refine WT o (λa=>?_) (λa=>?_)
 .have u:=hr k a;have v:off+k<off+l.length:=ω;simp only[go_sem,Qa,ho,j,a,u,v];refine XR b y C ?_ (x F (l.getD k 0) (iY a) (by rw[<- q];exact VQ.refl F)) rfl λd2 z=>?_
  .simp only[go_sem];exact DL _
  subst z;apply Qf b;cases n:c (l.getD k 0)
  .simp only[go_sem,Qa];refine⟨a,_,Qr.frame (by simp only[go_sem,E]),λi p=>?_,rfl⟩;by_cases B:i<k
   .exact g i B
   .have:i=k:=ω;subst this;exact n
  .rw[pU a g n];simp only[go_sem,Qa];exact⟨[],(JZ F).symm⟩
 .have a:k=l.length:=ω;subst a;simp only[go_sem,GD];rw[pV g];apply QP b;exact⟨[],(JZ F).symm⟩
end
section
variable (h:List Ob)(l:List Int)(lo gn off:Nat)(row:Nat->List D)(hlen:l.length<1000000)(ho:h[lo]? = some ⟨.arr,gn,1,off+l.length,row⟩)(hr:∀i,i<l.length->row (off+i)=[Qb (l.getD i 0)])
include hlen ho hr
theorem QzN(e:D)(f C:Nat)(F:List D)(U:Qn prog f)(V6:JF e=some (f,C,F))(a:Int->Bool)(hg:UP l h lo f C F a)(uM:UP l (h.map Ob.ro) lo f C F a):
  QM prog 108 h [.ref lo gn off l.length,e] (λd Y=>d=.ref lo gn off (wR a l).length/\∃KJ,Y=h.set lo ⟨.arr,gn,1,off+l.length,KJ⟩/\∀i,i<(wR a l).length->KJ (off+i)=[Qb ((wR a l).getD i 0)]):=by
 refine Q8 func108 ntmps108 results108 λa0 w pl c=>?_;have o:=Qc ho;simp only[go_sem,Qa,ho,o];refine XR c SS rfl ?_ (QzM h l lo gn off row hlen (Z3 ho) hr e f C F U V6 a (λY n hm hx=>?_)) rfl λd2 J=>?_
 .simp only[go_sem];exact LV e
 .obtain⟨g,rfl⟩:=hx;exact uM _ n hm σ λl hl _=>QE hl
 subst J;have S:h.set lo ⟨.arr,gn,1,off+l.length,row⟩=h:=Am λi=>by
  by_cases u:lo=i
  .subst u;rw[Xb o,ho]
  .rw[JP u]
 rcases Qyr (g:=a) (l:=l) with ⟨u,W⟩|⟨i,hi,u,W,V⟩
 .rw[u,W];apply Qf c;simp only[go_sem,Qa,ho,o];exact⟨row,S.symm,hr⟩
 .rw[u];have QA:(((i:Nat):Int)==-1)=false:=σ;have H:=JT (show i<4611686018427387904 from ω);apply Qf c;simp only[go_sem,Qa,ho,o,QA,H];refine ZW (λk s=>∃b:Nat->List D,(∀x,x<l.length->(b (off+x)).length=1)/\(∀j,j<((l.take (i+1+k)).filter λx=>!a x).length->b (off+j)=[Qb (((l.take (i+1+k)).filter λx=>!a x).getD j 0)])/\(∀j,i+1+k<=j->j<l.length->b (off+j)=[Qb (l.getD j 0)]) /\
   s=⟨[(0,.ref lo gn off l.length),(1,e),(5,Qb ((l.take (i+1+k)).filter λx=>!a x).length),(6,Qb (i+1+k:Nat))],h.set lo ⟨.arr,gn,1,off+l.length,b⟩⟩) (l.length - (i+1))
   (s0:=⟨[(0,.ref lo gn off l.length),(1,e),(5,Qb i),(6,Qb (i+1:Nat))],h⟩) QQ ⟨row,λx hx=>by rw[hr x hx];rfl,?_,λj _ t=>hr j t,?_⟩ ?_
  .rw[Ap,V];intro j t;simp at t;rw[hr j ω];simp[QY,t,show j<l.length by omega]
  .rw[Ap,V,S];simp[NH (Nat.le_of_lt hi)]
  rintro k s hk ⟨b,E,y,B,rfl⟩;have UF:=QiB l (λx=>!a x) (i+1+k);obtain⟨M,v⟩:∃M,M=(l.take (i+1+k)).filter λx=>!a x:=⟨_,rfl⟩;obtain⟨j,t⟩:∃j,j=i+1+k:=⟨_,rfl⟩;have z:lo<(h.set lo ⟨.arr,gn,1,off+l.length,b⟩).length:=by simpa using o
  have q:(h.set lo ⟨.arr,gn,1,off+l.length,b⟩)[lo]? = some ⟨.arr,gn,1,off+l.length,b⟩:=Qt o;rw[<- t]at v y B UF ⊢;rw[<- v]at y UF ⊢;have Ek:j<=l.length:=ω;have H:=JT (show j<4611686018427387904 from ω);have R:=JT (show M.length<4611686018427387904 from ω);have Q:∀x,x<h.length->x≠lo->(h.set lo ⟨.arr,gn,1,off+l.length,b⟩)[x]? = h[x]? := λx _ hx=>Ql (Q9 hx);apply Qf c;simp only[go_sem,Qa,q,z];first|refine WS Ek (λm=>?_) (λm=>?_)|refine WT Ek (λm=>?_) (λm=>?_)
  .have UB:=B j (QB _) m;have I:off+j<off+l.length:=ω;simp only[go_sem,Qa,m,q,z,UB,I];refine XR c U V6 ?_ (hg _ (l.getD j 0) (iY m) σ Q) rfl λd2 J=>?_
   .simp only[go_sem];exact DL _
   subst J;have p:=tK l (λx=>!a x) j m;rw[<- v,show l.getD j default=l.getD j 0 from rfl]at p;cases T:a (l.getD j 0)
   .rw[Qe (by simp only[T,Gx])]at p;have L:M.length<l.length:=ω;have zl:off+M.length<off+l.length:=ω;have P:List.drop 1 (b (off+M.length))=[]:=aW (by rw[E _ L];exact QB _);apply Qf c;simp only[go_sem,Qa,q,z,H,R,L,zl,P,E M.length L];have Z:i+1+(k+1)=j+1:=ω;have xZ:(M++[l.getD j 0]).length=M.length+1:=σ;refine⟨ω,_,Qr.frame (fr':=[(0,.ref lo gn off l.length),(1,e),(5,Qb (M.length+1:Nat)),(6,Qb (j+1:Nat))]) (by simp only[go_sem]),λx=>bif x==off+M.length then [Qb (l.getD j 0)] else b x,?_,?_,?_,?_⟩
    .intro x hx;show (bif off+x==off+M.length then [Qb (l.getD j 0)] else b (off+x)).length=1;cases (off+x==off+M.length)
     .exact E x hx
     .rfl
    .rw[Z,p];intro x hx;simp at hx;by_cases uq:x=M.length
     .subst uq;simp only[NM,wi];simp;rfl
     .have K:(off+x==off+M.length)=false:=ξ;have:=y x ω;simp only[K,jl,this];rw[QY,QY,JO ω];rfl
    .intro x Xz N;have K:(off+x==off+M.length)=false:=ξ;simp only[K,jl];exact B x ω N
    .rw[Z,p,xZ];rfl
   .rw[Qd (by simp only[T,Da];decide)]at p;apply Qf c;simp only[go_sem,Qa,q,z,H];refine⟨ω,_,Qr.frame (fr':=[(0,.ref lo gn off l.length),(1,e),(5,Qb M.length),(6,Qb (j+1:Nat))]) (by simp only[go_sem]),b,E,?_,?_,?_⟩
    .rw[show i+1+(k+1)=j+1 by omega,p];exact y
    .intro x Xz N;exact B x ω N
    .rw[show i+1+(k+1)=j+1 by omega,p];rfl
  .subst m;rw[Wc]at v;have jc:M=wR a l:=v;rw[<- jc];have I:M.length<=l.length:=ω;apply Qf c;simp only[go_sem,Qa,q,z,I];refine pG Ca c rfl q rfl rfl rfl rfl ξ rfl rfl rfl rfl ?_;have O:∀r:Ob,(h.set lo r)[lo]? = some r:=λr=>Qt o;apply Qf c;simp only[go_sem,Qa,O,o,I];refine⟨σ,_,rfl,λx hx=>by rw[pE ω];exact y x hx⟩
theorem QzS(g:D)(f c:Nat)(e:List D)(n:Qn prog f)(o:JF g=some (f,c,e))(a:Int->Bool)(m:UP l h lo f c e a)(k:UP l (h.map Ob.ro) lo f c e a):
  QM prog 108 h [.ref lo gn off l.length,g] (λd j=>d=.ref lo gn off (wR a l).length/\∃b,j=h.set lo ⟨.arr,gn,1,off+(wR a l).length,b⟩/\∀i,i<(wR a l).length->b (off+i)=[Qb ((wR a l).getD i 0)]):=by
 refine QM.cut (QzN h l lo gn off row hlen ho hr g f c e n o a m k) ?_;rintro d j ⟨rfl,b,rfl,p⟩;have:=Yr (λx=>!a x) l;refine⟨lo,⟨.arr,gn,1,off+l.length,b⟩,off+(wR a l).length,Qt (Qc ho),rfl,by simp only[wR];omega,rfl,b,by rw[JE],p⟩
end
section
variable (h:List Ob)(l:List Int)(hlen:l.length<1000000)
include hlen
theorem QzT(e:D)(f j:Nat)(p:List D)(t:Qn prog f)(y:JF e=some (f,j,p))(c:Int->Bool)(r:uL l (h.map Ob.ro) f j p c):
  Zi prog 102 h [ints l,e] (λd=>d=Qb (xL c l)):=by
 refine ZJ func102 ntmps102 results102 λq w B F v C b=>?_;simp only[go_sem,Qa];refine ZW (λk s=>(∀i,i<k->c (l.getD i 0)=false)/\s=⟨[(0,ints l),(1,e),(7,Qb l.length),(8,Qb k)],F⟩) l.length QQ ⟨λi o=>absurd o ω,rfl⟩ ?_;rintro k s n ⟨g,rfl⟩;apply QP b;have z:=JT (show k<4611686018427387904 from ω);first|refine WS n (λa=>?_) (λa=>?_)|refine WT n (λa=>?_) (λa=>?_)
 .simp only[go_sem,Qa,a];refine XR b t y ?_ (r F (l.getD k 0) (iY a) (by rw[<- v];exact VQ.refl F)) rfl λd2 u=>?_
  .simp only[go_sem];exact DL _
  subst u;apply Qf b;cases m:c (l.getD k 0)
  .simp only[go_sem,Qa];refine⟨a,_,Qr.frame (by simp only[go_sem,z]),λi o=>?_,rfl⟩;by_cases x:i<k
   .exact g i x
   .have:i=k:=ω;subst this;exact m
  .rw[pU a g m];simp only[go_sem,Qa];exact⟨[],(JZ F).symm⟩
 .have a:k=l.length:=ω;subst a;simp only[go_sem,GD];rw[pV g];apply QP b;exact⟨[],(JZ F).symm⟩
theorem uN(a:D)(f b:Nat)(e:List D)(m:Qn prog f)(r:JF a=some (f,b,e))(c:Int->Bool)(k:uL l (h.map Ob.ro) f b e c):
  Zi prog 70 h [ints l,a] (λd=>d=QX (decide (0<=xL c l))):=by
 refine ZJ func70 ntmps70 results70 λi w s F p t g=>?_;simp only[go_sem,Qa];refine XR g SS rfl ?_ (QzT F l hlen a f b e m r c (λq n j hx=>?_)) rfl λd2 o=>?_
 .simp only[go_sem];exact LV a
 .rw[p,pT]at hx;exact k q n j hx
 subst o;apply QP g;exact⟨[],(JZ F).symm⟩
end
structure wX (h:List Ob) (p:Nat) (L:Loc) (M:Qo):Prop where
 ob:(h.map Ob.ro)[p]? = some (kz M.lk L.t L.b L.o L.v L.m M.Qh M.acc).ro
 tr:XE h L.t M.T
 V9:(h.map Ob.ro)[L.b]? = some (QS .i64 L.cb L.eb).ro
 zg:Vc L.eb (λid=>(Qk M.N id).map λ_=>.ptr (L.le id) 0 0 0)
 Jy:∀id n,Qk M.N id=some n->(h.map Ob.ro)[L.le id]? = some (YZ (qD L.lq n) n).ro
 XG:∀id n,Qk M.N id=some n->n.c.leaf=true->∃k:Nat,n.c.ZR=k/\Pp h (L.lq id) k n.c.bytes n.q
 zj:Mc h L.o M.To M.A
 Yk:FL h L.v M.Lv
 Wm:(h.map Ob.ro)[L.m]? = some (QS .i64 L.cm L.em).ro
 Yl:Vc L.em (λid=>if M.ks id=true then some (.ptr (L.lk id) 0 0 0) else none)
 kids:∀id,M.ks id=true->FL h (L.lk id) (M.KT id)
def ZD.ro{b}{h}{p}{L}{M}(C:ZD b h p L M):wX h p L M:=
 ⟨Z3 C.ob,C.tr.toR,Z3 C.V9,C.zg,λid n a=>Z3 (C.Jy id n a).1,λid n a c=>by
  obtain⟨k,f,e⟩:=C.XG id n a c;exact⟨k,f,e.toR⟩,C.zj.toR,C.Yk.toR,Z3 C.Wm,C.Yl,λid d=>(C.kids id d).toR⟩
def wX.more{h h':List Ob}{p}{L}{M}(e:∀(l:Nat) (o:Ob),(h.map Ob.ro)[l]? = some o->(h'.map Ob.ro)[l]? = some o)(C:wX h p L M):wX h' p L M:=
 ⟨e _ _ C.ob,C.tr.more e,e _ _ C.V9,C.zg,λid n a=>e _ _ (C.Jy id n a),λid n a b=>by
  obtain⟨k,f,d⟩:=C.XG id n a b;exact⟨k,f,d.more e⟩,C.zj.more e,C.Yk.more e,e _ _ C.Wm,C.Yl,λid c=>(C.kids id c).more e⟩
def wX.look{h}{p}{L:Loc}{M:Qo}(C:wX h p L M){a}{n}(b:Qk M.N a=some n):ZZ L.eb a=some (.ptr (L.le a) 0 0 0):=by
 rw[C.zg.at_,b];rfl
def QzU{h:List Ob}{p q}{L}{M:Qo}(C:wX h p L M){a}{n:Nd}(g:Qk M.N a=some n)(j:n.c.leaf=true)(y:n.c.iD=a)(i:(h.map Ob.ro)[q]? = some ⟨.Wh,0,1,1,λ_=>[.ptr p 0 0 0]⟩):
  Zi prog 110 h [Qb a,.ptr q 0 0 0] (λd=>d=QX (n.q.l.isEmpty)):=by
 have f:=C.ob;have c:=C.V9;have b:=C.Jy a n g;have s:=C.look g;obtain⟨k,I,v⟩:=C.XG a n g j;have E:qD L.lq n=.ptr (L.lq a) 0 0 0:=by unfold qD;rw[Qe j,y]
 rw[E]at b;have e:((n.q.l.length:Int)==0)=(n.q.l.isEmpty):=by
  cases n.q.l with
  | nil=>rfl
  | cons x l=>simp;omega
 refine ZJ func110 ntmps110 results110 λr w H F o J m=>?_;rw[<- o]at i f c b;have t:=Qc i;have z:=Qc f;have u:=Qc c;have B:=Qc b;simp only[go_sem,Qa,i,t,f,z,c,u,b,B,s];refine Xr m OF ?_ (Pq (v.more (VI o))) ?_
 .simp only[go_sem,Qa,e]
 apply Qf m;simp only[go_sem,Qa,e];exact⟨[],(JZ F).symm⟩
def QzV(h)(a):Zi prog 108 h [.nil,a] (λd=>d=.nil):=by
 refine ZJ func108 ntmps108 results108 λc w f F g i b=>?_;simp only[go_sem,Qa];refine XR b SS rfl ?_ (Qf0 F a) rfl λd2 e=>?_
 .simp only[go_sem];exact LV a
 subst e;apply QP b;exact⟨[],(JZ F).symm⟩
def vS(T:List Qm):List Int:=(T.filter (·.leaf)).map (·.iD)
def Gb(M:Qo)(a:Int):Bool:=(QD M a).q.l.isEmpty
def VZ(M:Qo):List Int:=wR (Gb M) (vS M.T)
def iZ{M:Qo}(I:Qz M){id}(h:id∈vS M.T):∃n,Qk M.N id=some n/\n.c.leaf=true/\n.c.iD=id:=by
 obtain⟨c,d,rfl⟩:=Jl.1 h;obtain⟨e,f⟩:=JH.1 d;have a:=(VH I.tree.rising).2 ⟨e,rfl⟩;rw[I.nodes,tV]at a;cases b:Qk M.N c.iD with
 | none=>rw[b]at a;cases a
 | some n=>
  rw[b,K6,Q6]at a;exact⟨n,rfl,by rw[a];exact f,by rw[a]⟩
section
variable {h:List Ob}{p:Nat}{L:Loc}{M:Qo}(C:wX h p L M)(I:Qz M)
include C I
theorem QzW:Xf prog 73 h [.ptr p 0 0 0] (λd g=>Kp h.length (h++g) d (VZ M)):=by
 have YJ:(vS M.T).length<1000000:=by
  have:=Yr (λc:Qm=>c.leaf) M.T;have y:=I.tree.len;simp only[vS,KK];omega
 have t:=C.ob;refine B9 KS 200 func73 rfl ntmps73 results73 rfl λW w pl F Q Zm i=>?_;rw[<- Q]at t;have Qg:=Qc t;simp only[go_sem,Qa,t,Qg];obtain⟨B,v⟩:∃B:List Ob,B=[⟨.one,0,1,1,λ_=>[.ptr p 0 0 0]⟩]:=⟨_,rfl⟩;have r:B.length=1:=by rw[v];rfl
 have Zw:B[0]? = some ⟨.one,0,1,1,λ_=>[.ptr p 0 0 0]⟩:=by rw[v];rfl
 have PE:=v;rw[<- PE];have V:wX F p L M:=C.more (VI Q);have CB:wX (F++B) p L M:=V.more Hz;obtain⟨m,c,es,Z,hm,hT⟩:=CB.tr;refine Hh i Qsn rfl ?_ (Qu8 _ L.t m c hT (by have:=I.tree.len;omega) Z hm) rfl λd g O=>?_
 .simp only[go_sem]
 rw[show (M.T.filter (·.leaf)).map (·.iD)=vS M.T from rfl]at O;rcases O with ⟨rfl,h3⟩|⟨b,s,a,l,rfl,E,Xw,hr⟩
 .apply QP i;refine XR i Qe3 rfl ?_ (QzV _ (.clo 110 0 [.ptr F.length 0 0 0])) rfl λd2 u=>?_
  .simp only[go_sem,Qa]
  subst u;apply QP i;refine⟨_,rfl,.inl ⟨rfl,?_⟩⟩;rw[VZ,h3];rfl
 .apply QP i;have yN:F.length+1<=b:=by
   have R:(F++B).length<=b:=E.1;rw[Zo,r]at R;exact R
  obtain⟨H,j⟩:∃H,H=F++(B++g):=⟨_,rfl⟩;have K:∀x:Nat,x<F.length->H[x]? = F[x]? := λx hx=>by rw[j];exact QE hx
  have T:H[b]? = some ⟨.arr,s,1,a+(vS M.T).length,l⟩:=by rw[j,<- W9];exact Xw
  have a1:F.length+1<=H.length:=by rw[j];simp[r]
  have N:H[F.length]? = some ⟨.one,0,1,1,λ_=>[.ptr p 0 0 0]⟩:=by rw[j,Vj rfl,QE ω];exact Zw
  rw[<- j];have f:∀k:List Ob,(∀x:Nat,H[x]? = k[x]?\/(k[x]? = (H[x]?).map Ob.ro))->k.length=H.length->UP (vS M.T) k b 110 0 [.ptr F.length 0 0 0] (Gb M):=by
   intro k y Jx S n WE a0 J;have q:∀(x:Nat) (o:Ob),x<F.length+1->(H.map Ob.ro)[x]? = some o->(S.map Ob.ro)[x]? = some o:=λx o hx e=>by
    have e1:=J x ω ω;rw[KP]at e ⊢;rw[e1];rcases y x with z|z
    .rw[<- z];exact e
    .rw[z,RS,<- e];congr 1;funext o;exact ro_ro o
   obtain⟨Y,P,hl,Zp⟩:=iZ I WE;have Jb:QD M n=Y:=by unfold QD;rw[P];rfl
   have:=QzU (V.more (h':=S) λx o e=>q x o (by have:=Qc e;rw[KK]at this;omega) (by rw[KP,K x (by have:=Qc e;rw[KK]at this;omega),<- KP];exact e)) P hl Zp (q F.length ⟨.Wh,0,1,1,λ_=>[.ptr p 0 0 0]⟩ ω (by rw[KP,N];rfl));unfold Gb;rw[Jb];exact this
  refine Fu i Qe3 (QzS H (vS M.T) b s a l YJ T hr (.clo 110 0 [.ptr F.length 0 0 0]) 110 0 [.ptr F.length 0 0 0] Qso rfl (Gb M) (f H (λx=>.inl rfl) rfl) (f (H.map Ob.ro) (λx=>.inr (by rw[KP])) σ)) λd y u=>?_;obtain⟨rfl,U,rfl,Us⟩:=u;apply QP i;refine Kp.done Zm ⟨(B++g).set (b - F.length) ⟨.arr,s,1,a+(wR (Gb M) (vS M.T)).length,U⟩,?_⟩ (.inr ⟨b,s,a,U,rfl,?_,?_,Us⟩)
  .rw[j,NB _ _ (by omega:F.length<=b)]
  .exact⟨by have:=E.1;omega,E.2⟩
  .exact Qt (Qc T)
theorem uO:Zi prog 73 h [.ptr p 0 0 0] (λd=>d=ints (VZ M)):=Kp.closed (QzW C I)
end
def UQ(l:List Int)(v:Int):Int:=if l.contains v then (l.idxOf v:Nat) else -1
def Qz0(l:List Int)(a)(n:l.length<2147483648):QI prog 140 [ints l,Qb a] (QO (Qb (UQ l a))):=by
 refine QZ 0 func140 ntmps140 results140 λi w e=>?_;simp only[go_sem];refine ZW (λk s=>(l.take k).contains a=false/\s=⟨[(0,ints l),(1,Qb a),(6,ints l),(7,Qb l.length),(8,Qb k)],[]⟩) l.length (s0:=⟨[(0,ints l),(1,Qb a),(6,ints l),(7,Qb l.length),(8,Qb 0)],[]⟩) QQ ⟨σ,rfl⟩ ?_;rintro k s o ⟨c,rfl⟩;apply QV e;refine Wu (λh=>?_) (λh=>?_)
 .have d:k<l.length:=by simpa using h
  have g:=getD_take l 0 k d;simp only[go_sem,d];refine Wu (λb=>?_) (λb=>?_)
  .simp only[go_sem];have f:l=l.take k++a::l.drop (k+1):=by
    conv=>lhs;rw[<- De (k+1) l,g]
    simp at b;simp[b]
   have:UQ l a=k:=by
    have j:l.contains a=true:=by rw[f];simp
    have m:¬ a∈l.take k:=by simpa using c
    rw[UQ,j];simp only[Vp];rw[f,List.idxOf_append,Qd m];simp;omega
   rw[this]
  .simp only[go_sem];refine⟨ω,_,Qr.frame (by simp only[go_sem,JT (show k<4611686018427387904 from ω)]),?_,rfl⟩;rw[g];simp at c b ⊢;exact⟨c,b⟩
 .have d:k=l.length:=by simp at h;omega
  simp only[go_sem];apply QV e;subst d;simp at c;simp[UQ,c]
def Qz1(l:List Int)(a)(d:l.length<2147483648):QI prog 104 [ints l,Qb a] (QO (QX (l.contains a))):=by
 refine QZ 0 func104 ntmps104 results104 λc w b=>?_;simp only[go_sem];apply Jp b QsF (Qz0 l a d);apply QV b;unfold UQ;cases l.contains a<;>simp
def Qz2{h:List Ob}{p l k}{L}{M}(C:wX h p L M)(I:Qz M)(f n)(c:(h.map Ob.ro)[l]? = some ⟨.Wh,0,1,1,λ_=>[.ptr p 0 0 0]⟩)(b:(h.map Ob.ro)[k]? = some ⟨.Wh,0,1,1,λ_=>[Qb f]⟩):
  Zi prog 103 h [Qb n,.ptr l 0 0 0,.ptr k 0 0 0] (λd=>d=QX ((up M.T n).contains f)):=by
 have e:=C.ob;refine ZJ func103 ntmps103 results103 λo w q F j r a=>?_;rw[<- j]at e c b;have m:=Qc e;have i:=Qc c;have g:=Qc b;simp only[go_sem,Qa,e,m,c,i,b,g];apply Qx a [0,1,2,3,4,6,1005,1007,8];simp only[go_sem,Qa,e,m,c,i,b,g];apply XB a fe (rB (C.tr.more (VI j)) I.tree.toTreeInv n);apply Zk a;simp only[go_sem,Qa,c,i,b,g];have s:(ZT M.T 16 n).length<=16:=A7 (L:=M.T) (n:=16) (id:=n);apply S3 a Qsl (Qz1 (ZT M.T 16 n) f ω);apply YQ a;exact⟨[],(JZ F).symm,rfl⟩
def Qz3(g)(l:List Int):(wR g l).length<=l.length:=Yr _ _
def x9(M:Qo)(a:Int):Bool:=(VZ M).any λn=>(up M.T n).contains a
def Qjr{M:Qo}(I:Qz M):(VZ M).length<=64:=by
 have a:=Qz3 (Gb M) (vS M.T);have d:=Yr (λc:Qm=>c.leaf) M.T;have b:=I.tree.len;simp only[VZ,vS,KK]at a ⊢;omega
def Qz4{h}{p}{L}{M}(C:wX h p L M)(I:Qz M)(b):
  Zi prog 71 h [.ptr p 0 0 0,Qb b] (λd=>d=QX (x9 M b)):=by
 have N:=Qjr I;have f:=C.ob;refine B9 KS 200 func71 rfl ntmps71 results71 rfl λq w z F j K c=>?_;rw[<- j]at f;have v:=Qc f;simp only[go_sem,Qa,f,v];have y:wX F p L M:=C.more (VI j);obtain⟨B,i⟩:∃B:List Ob,B=[⟨.one,0,1,1,λ_=>[.ptr p 0 0 0]⟩,⟨.one,0,1,1,λ_=>[Qb b]⟩]:=⟨_,rfl⟩;have u:B[0]? = some ⟨.one,0,1,1,λ_=>[.ptr p 0 0 0]⟩:=by rw[i];rfl
 have x:B[1]? = some ⟨.one,0,1,1,λ_=>[Qb b]⟩:=by rw[i];rfl
 have k:=i;simp only[go_sem]at k;rw[<- k];have m:wX (F++B) p L M:=y.more Hz;apply Ju c oS (uO m I);apply QP c;refine XR c SR rfl ?_ (uN (F++B) (VZ M) ω (.clo 103 0 [.ptr F.length 0 0 0,.ptr (F.length+1) 0 0 0]) 103 0 [.ptr F.length 0 0 0,.ptr (F.length+1) 0 0 0] Qsk rfl (λn=>(up M.T n).contains b) (λs n H hx=>?_)) rfl λd2 r=>?_
 .simp only[go_sem,Qa]
 .have a:∀(l:Nat) (o:Ob),((F++B).map Ob.ro)[l]? = some o->(s.map Ob.ro)[l]? = some o:=λl o e=>by
   obtain⟨g,rfl⟩:=hx;have t:=Z3 ((QE (Qc e)).trans e:((F++B).map Ob.ro++g)[l]? = some o);rw[t];rw[KP]at e;obtain⟨E,J,rfl⟩:=X3.1 e;rw[ro_ro]
  exact Qz2 (m.more a) I b n (a _ _ (by rw[KP,Vj rfl,u];rfl)) (a _ _ (by rw[KP,VP rfl,x];rfl))
 subst r;apply QP c;refine⟨B,rfl,?_⟩;rw[Ta];rfl
def Qz5{h:List Ob}{o n r q}{A B:List Qm}(z:XE h o A)(v:XE h n B)(b)(e:(h.map Ob.ro)[r]? = some ⟨.Wh,0,1,1,λ_=>[.ptr o 0 0 0]⟩)(c:(h.map Ob.ro)[q]? = some ⟨.Wh,0,1,1,λ_=>[.ptr n 0 0 0]⟩)(H:A.length<100000)(E:B.length<100000):
  Zi prog 106 h [Qb b,.ptr r 0 0 0,.ptr q 0 0 0] (λd=>d=QX (HO A b || HO B b)):=by
 obtain⟨x,hx⟩:∃x,x=(Qy A b).getD default:=⟨_,rfl⟩;obtain⟨y,p⟩:∃y,y=(Qy B b).getD default:=⟨_,rfl⟩;have u:HO A b=decide (1<QJ x.rt):=by rw[hx];rfl
 have t:HO B b=decide (1<QJ y.rt):=by rw[p];rfl
 rw[u,t];refine ZJ func106 ntmps106 results106 λs w C F k I a=>?_;rw[<- k]at e c;have m:=Qc e;have l:=Qc c;simp only[go_sem,Qa,e,m,c,l];have i:=O5 (z.more (VI k)) b;have f:=λG:List Ob=>O5 ((v.more (VI k)).more (Hz (g:=G))) b;rw[<- hx]at i;simp only[<- p]at f;apply Ju a wz i;apply Qf a;simp only[go_sem,Qa,e,m,c,l];apply Ju a wz (f _);apply Qf a;simp only[go_sem,Qa,e,m,c,l];cases j:decide (1<QJ x.rt) with
 | true=>
  refine ZO a DG ?_ (Fv x) ?_
  .simp only[go_sem,Qa,j]
  apply Qf a;simp only[go_sem,Qa,j];exact⟨_,rfl⟩
 | false=>
  refine ZO a DG ?_ (Fv x) ?_
  .simp only[go_sem,Qa,j]
  apply Qf a;simp only[go_sem,Qa,j];apply Yy a DG (Fv y);apply QP a;exact⟨_,rfl⟩
def uP{h}{c b}{A B:List Qm}(z:XE h c A)(y:XE h b B)(m:A.length<100000)(k:B.length<100000)(s:(Kb A B).length<1000000):
  Zi prog 72 h [.ptr c 0 0 0,.ptr b 0 0 0] (λd=>d=QX (iw A B)):=by
 refine B9 KS 200 func72 rfl ntmps72 results72 rfl λr w E F j K f=>?_;simp only[go_sem,Qa];obtain⟨G,i⟩:∃G:List Ob,G=[⟨.one,0,1,1,λ_=>[.ptr c 0 0 0]⟩,⟨.one,0,1,1,λ_=>[.ptr b 0 0 0]⟩]:=⟨_,rfl⟩;have x:G[0]? = some ⟨.one,0,1,1,λ_=>[.ptr c 0 0 0]⟩:=by rw[i];rfl
 have C:G[1]? = some ⟨.one,0,1,1,λ_=>[.ptr b 0 0 0]⟩:=by rw[i];rfl
 rw[<- i];have q:XE (F++G) c A:=(z.more (VI j)).more Hz;have p:XE (F++G) b B:=(y.more (VI j)).more Hz;apply Ju f QeX (QiL q p m k);apply QP f;refine XR f SR rfl ?_ (uN (F++G) (Kb A B) s (.clo 106 0 [.ptr F.length 0 0 0,.ptr (F.length+1) 0 0 0]) 106 0 [.ptr F.length 0 0 0,.ptr (F.length+1) 0 0 0] Qsm rfl (λid=>HO A id || HO B id) (λu n I hx=>?_)) rfl λd2 t=>?_
 .simp only[go_sem,Qa]
 .have a:∀(l:Nat) (o:Ob),((F++G).map Ob.ro)[l]? = some o->(u.map Ob.ro)[l]? = some o:=λl o e=>by
   obtain⟨g,rfl⟩:=hx;have v:=Z3 ((QE (Qc e)).trans e:((F++G).map Ob.ro++g)[l]? = some o);rw[v];rw[KP]at e;obtain⟨H,J,rfl⟩:=X3.1 e;rw[ro_ro]
  exact Qz5 (q.more a) (p.more a) n (a _ _ (by rw[KP,Vj rfl,x];rfl)) (a _ _ (by rw[KP,VP rfl,C];rfl)) m k
 subst t;apply QP f;refine⟨G,rfl,?_⟩;rw[Ta];rfl
def XH(c:Qm):Nd:=⟨c,0,default,default,default,⟨[],0,0,0,0,0,0⟩⟩
def Qju(h:List Ob)(c:Qm)(d:D)(a:List Ob):Prop:=
 d=.ptr (h.length+1) 0 0 0/\∃g b,a=h++g/\2<=g.length/\a[h.length+1]? = some (YZ (if c.leaf=true then .ptr b 0 0 0 else .raw (.pointer none)) (XH c)) /\
  (c.leaf=true->∃k:Nat,c.ZR=k/\wL (λl=>h.length+2<=l) a b k c.bytes ⟨[],0,0,0,0,0,0⟩)
@[go_sem] theorem QH2(d a)(n):a::List.drop 1 (KW d n)=KW a n:=rfl
def Qz6(h)(c:Qm)(M:c.leaf=true->1<=c.ZR/\c.ZR<=64/\1<=c.bytes/\c.bytes<=1048576):
  QM prog 75 h [WV c] (λd N=>Qju h c d N):=by
 obtain⟨p,o,I,n,m,j,x,i⟩:=c;cases I with
 | false=>
  refine Q8 func75 ntmps75 results75 λf w H q=>?_;simp only[go_sem,Qa,Qa];refine⟨rfl,_,0,rfl,σ,?_,λe=>by cases e⟩;rw[VP (k:=1) rfl];show some (_:Ob)=some (YZ (.raw (.pointer none)) _);refine congrArg some ?_;unfold YZ KW XH;refine congrArg (Ob.mk .one 0 60 1) ?_;funext _;dsimp only;simp only[Qm.cells,qc,jM];rfl
 | true=>
  obtain⟨K,J,v,u⟩:=M rfl;dsimp only at K J v u;obtain⟨k,rfl⟩:∃k:Nat,x=k:=⟨x.toNat,ω⟩;refine Q8 func75 ntmps75 results75 λf w H q=>?_;simp only[go_sem,Qa,Qa];generalize R:(⟨.one,0,14,1,_⟩:Ob)=P;generalize O:(⟨.one,0,60,1,_⟩:Ob)=E;have z:E=YZ (.raw (.pointer none)) (XH ⟨p,o,true,n,m,j,(k:Int),i⟩):=by
   rw[<- O];unfold YZ KW XH;refine congrArg (Ob.mk .one 0 60 1) ?_;funext _;dsimp only;simp only[Qm.cells,qc,jM];rfl
  obtain⟨G,a⟩:∃G:List Ob,G=[P,E]:=⟨_,rfl⟩;have r:G.length=2:=by rw[a];rfl
  have L:=Qwm (h++G) k i ω ω v u;have U:(h++G)[h.length+1]? = some (YZ (.raw (.pointer none)) (XH ⟨p,o,true,n,m,j,(k:Int),i⟩)):=by rw[a,<- z];exact VP (k:=1) rfl
  have F:=L;rw[a]at F;refine JG q Qsp F λd T y=>?_;rw[<- a]at y;obtain⟨rfl,Q,g,rfl,S⟩:=y;have B:(G++g)[1]? = some (YZ (.raw (.pointer none)) (XH ⟨p,o,true,n,m,j,(k:Int),i⟩)):=by rw[a,<- z];rfl
  have b:=Qc B;apply Qf q;simp only[go_sem,Qa,B,b];have t:(h++G).length=h.length+2:=by rw[Zo,r]
  refine⟨rfl,_,h.length+G.length+2,rfl,by simp[r],?_,λ_=>⟨k,rfl,?_⟩⟩
  .rw[VP (k:=1) rfl];rw[Qt b];rfl
  .rw[t]at Q;rw[r];refine(Q.step (S':=λl=>h.length+2<=l) λl V C=>⟨C,?_⟩);have W:h.length+2<=l:=C;have e:∀X:Ob,h++(G++g).set 1 X=(h++G++g).set (h.length+1) X:=λX=>by
    rw[W9,NB (s:=h) (h.length+1) X ω,bu]
   rw[e];exact Ql ω
def MT{a:Nat->Tag}{h:List Ob}{l:Nat}{b:Tag}(f:a l=b)(o:Ob):∀t,t≠b->∀j,j<h.length->a j=t->a j=t/\(h.set l o)[j]? = h[j]? :=
 λt d j _ c=>⟨c,Ql (λe=>d (by rw[<- c,<- e,f]))⟩
def jd{a:Nat->Tag}{h:List Ob}{l:Nat}{b:Tag}(e:a l=b)(o:Ob){j:Nat}{x:Ob}{t:Tag}(f:a j=t)(d:t≠b)(c:h[j]? = some x):(h.set l o)[j]? = some x:=
 ((MT e o t d j (Qc c) f).2).trans c
section
variable {own:Nat->Tag}{h:List Ob}{p:Nat}{L:Loc}{M:Qo}(C:ZD own h p L M)
include C
theorem ZD.congrN{N}(e:∀id,Qk N id=Qk M.N id):ZD own h p L { M with N:=N }:=
 ⟨C.ob,C.op,C.tr,C.V9,C.zg.to λid=>by dsimp only;rw[e],C.ow,λid n a=>C.Jy id n (by rw[<- e];exact a),λid n a=>C.XG id n (by rw[<- e];exact a),C.zj,C.Yk,C.Wm,C.Yl,C.om,C.kids,λid n a=>C.qH id n (by rw[<- e];exact a)⟩
theorem ZD.Qz8{b}{c}(R:WG (λl=>own l=.tree) h b c):ZD own (h.set p (kz M.lk b L.b L.o L.v L.m M.Qh M.acc)) p { L with t:=b } { M with T:=c }:=by
 have r:=MT (h:=h) C.op (kz M.lk b L.b L.o L.v L.m M.Qh M.acc);exact⟨Qt (Qc C.ob),C.op,R.step (r _ σ),jd C.op _ C.ow σ C.V9,C.zg,C.ow,λj m a=>⟨jd C.op _ (C.Jy j m a).2 σ (C.Jy j m a).1,(C.Jy j m a).2⟩,λj m a d=>by
  obtain⟨k,g,f⟩:=C.XG j m a d;exact⟨k,g,f.step (r _ σ)⟩,C.zj.step (r _ σ),C.Yk.step (r _ σ),jd C.op _ C.om σ C.Wm,C.Yl,C.om,λj e=>(C.kids j e).step (r _ σ),C.qH⟩
theorem ZD.Qz9{b}{c}{d}(R:jw (λl=>own l=.on) h b c d):ZD own (h.set p (kz M.lk L.t L.b b L.v L.m M.Qh M.acc)) p { L with o:=b } { M with To:=c,A:=d }:=by
 have r:=MT (h:=h) C.op (kz M.lk L.t L.b b L.v L.m M.Qh M.acc);exact⟨Qt (Qc C.ob),C.op,C.tr.step (r _ σ),jd C.op _ C.ow σ C.V9,C.zg,C.ow,λj m a=>⟨jd C.op _ (C.Jy j m a).2 σ (C.Jy j m a).1,(C.Jy j m a).2⟩,λj m a e=>by
  obtain⟨k,i,g⟩:=C.XG j m a e;exact⟨k,i,g.step (r _ σ)⟩,R.step (r _ σ),C.Yk.step (r _ σ),jd C.op _ C.om σ C.Wm,C.Yl,C.om,λj f=>(C.kids j f).step (r _ σ),C.qH⟩
end
def jE(N:List Nd)(a:Int):List Nd:=N.filter λn=>n.c.iD != a
def Gc(N)(a j):Qk (jE N a) j=if j=a then none else Qk N j:=by
 unfold Qk jE;rw[List.find?_filter];split
 .rename_i e;subst e;rw[jL];intro x _;simp
 .rename_i e;congr 1;funext x;cases b:x.c.iD==j with
  | false=>simp[b]
  | true=>
   have:x.c.iD=j:=by simpa using b
   simp[this,e]
section
variable {own:Nat->Tag}{h:List Ob}{p:Nat}{L:Loc}{M:Qo}(C:ZD own h p L M)
include C
theorem ZD.QAa(b):ZD own (h.set L.b (QS .i64 L.cb (J1 L.eb b))) p { L with eb:=J1 L.eb b } { M with N:=jE M.N b }:=by
 have r:=MT (h:=h) C.ow (QS .i64 L.cb (J1 L.eb b));have f:∀j m,Qk (jE M.N b) j=some m->Qk M.N j=some m:=λj m a=>by
  rw[Gc]at a;split at a
  .cases a
  .exact a
 refine⟨jd C.ow _ C.op σ C.ob,C.op,C.tr.step (r _ σ),Qt (Qc C.V9),(C.zg.del b).to λj=>?_,C.ow,λj m a=>⟨jd C.ow _ (C.Jy j m (f j m a)).2 σ (C.Jy j m (f j m a)).1,(C.Jy j m (f j m a)).2⟩,λj m a c=>?_,C.zj.step (r _ σ),C.Yk.step (r _ σ),jd C.ow _ C.om σ C.Wm,C.Yl,C.om,λj d=>(C.kids j d).step (r _ σ),λj m a=>C.qH j m (f j m a)⟩
 .dsimp only;rw[Gc];split
  .rfl
  .rfl
 .obtain⟨k,g,e⟩:=C.XG j m (f j m a) c;exact⟨k,g,e.step (r _ σ)⟩
theorem ZD.QAb(a):ZD own (h.set L.m (QS .i64 L.cm (J1 L.em a))) p { L with em:=J1 L.em a } { M with ks:=λj=>if j=a then false else M.ks j }:=by
 have r:=MT (h:=h) C.om (QS .i64 L.cm (J1 L.em a));refine⟨jd C.om _ C.op σ C.ob,C.op,C.tr.step (r _ σ),jd C.om _ C.ow σ C.V9,C.zg,C.ow,λj m b=>⟨jd C.om _ (C.Jy j m b).2 σ (C.Jy j m b).1,(C.Jy j m b).2⟩,λj m b d=>?_,C.zj.step (r _ σ),C.Yk.step (r _ σ),Qt (Qc C.Wm),(C.Yl.del a).to λj=>?_,C.om,λj c=>?_,C.qH⟩
 .obtain⟨k,g,f⟩:=C.XG j m b d;exact⟨k,g,f.step (r _ σ)⟩
 .dsimp only;by_cases e:j=a<;>simp[e]
 .dsimp only at c;by_cases e:j=a
  .rw[Qe e]at c;cases c
  .rw[Qd e]at c;exact(C.kids j c).step (r _ σ)
theorem ZD.QAc(a){k}(T:WX (λl=>own l=.Yj a) h k []):∃c d,J7 .i64 L.cm L.em a (.ptr k 0 0 0)=QS .i64 c d /\
  ZD own (h.set L.m (J7 .i64 L.cm L.em a (.ptr k 0 0 0))) p { L with cm:=c,em:=d,lk:=λj=>if j=a then k else L.lk j } { M with ks:=λj=>if j=a then true else M.ks j,KT:=λj=>if j=a then [] else M.KT j }:=by
 obtain⟨c,d,f,i⟩:=C.Yl.set .i64 L.cm a (.ptr k 0 0 0);refine⟨c,d,f,?_⟩;rw[f];have r:=MT (h:=h) C.om (QS .i64 c d);refine⟨jd C.om _ C.op σ C.ob,C.op,C.tr.step (r _ σ),jd C.om _ C.ow σ C.V9,C.zg,C.ow,λj m b=>⟨jd C.om _ (C.Jy j m b).2 σ (C.Jy j m b).1,(C.Jy j m b).2⟩,λj m b n=>?_,C.zj.step (r _ σ),C.Yk.step (r _ σ),Qt (Qc C.Wm),i.to λj=>?_,C.om,λj g=>?_,C.qH⟩
 .obtain⟨k,f,i⟩:=C.XG j m b n;exact⟨k,f,i.step (r _ σ)⟩
 .dsimp only;by_cases e:j=a<;>simp[e]
 .dsimp only at g ⊢;by_cases e:j=a
  .subst e;rw[Qe rfl,Qe rfl];exact T.step (r _ σ)
  .rw[Qd e]at g;rw[Qd e,Qd e];exact(C.kids j g).step (r _ σ)
theorem ZD.QAd{n:Nd}{e q}(E:Qk M.N n.c.iD=none)(w:h[e]? = some (YZ (if n.c.leaf=true then .ptr q 0 0 0 else .raw (.pointer none)) n))(o:own e=.xK n.c.iD)
  (v:n.c.leaf=true->∃k:Nat,n.c.ZR=k/\wL (λl=>own l=.zf n.c.iD) h q k n.c.bytes n.q) (B:n.Ok):∃c b,J7 .i64 L.cb L.eb n.c.iD (.ptr e 0 0 0)=QS .i64 c b /\
  ZD own (h.set L.b (J7 .i64 L.cb L.eb n.c.iD (.ptr e 0 0 0))) p { L with cb:=c,eb:=b,le:=λj=>if j=n.c.iD then e else L.le j,lq:=λj=>if j=n.c.iD then q else L.lq j } { M with N:=n::M.N }:=by
 obtain⟨c,b,t,y⟩:=C.zg.set .i64 L.cb n.c.iD (.ptr e 0 0 0);refine⟨c,b,t,?_⟩;rw[t];have r:=MT (h:=h) C.ow (QS .i64 c b);have d:∀j,Qk (n::M.N) j=if j=n.c.iD then some n else Qk M.N j:=λj=>by
  unfold Qk;rw[vZ];by_cases e:j=n.c.iD
  .subst e;rw[Qe rfl,NM]
  .rw[Qd e,VU (λx=>e x.symm)]
 have z:∀j m,Qk M.N j=some m->m.c.iD=j:=λj m a=>Qz.id a;have u:∀j m,j≠n.c.iD->Qk M.N j=some m->qD (λj=>if j=n.c.iD then q else L.lq j) m=qD L.lq m:=λj m f a=>by
  unfold qD;simp only[z j m a,Qd f]
 refine⟨jd C.ow _ C.op σ C.ob,C.op,C.tr.step (r _ σ),Qt (Qc C.V9),y.to λj=>?_,C.ow,λj m a=>?_,λj m a s=>?_,C.zj.step (r _ σ),C.Yk.step (r _ σ),jd C.ow _ C.om σ C.Wm,C.Yl,C.om,λj f=>(C.kids j f).step (r _ σ),λj m a=>?_⟩
 .dsimp only;rw[d];by_cases e:j=n.c.iD
  .rw[Qe e,Qe e,Qe e];rfl
  .rw[Qd e,Qd e,Qd e]
 .dsimp only at a ⊢;rw[d]at a;by_cases e:j=n.c.iD
  .rw[Qe e]at a;cases a;rw[Qe e,e];refine⟨?_,o⟩;rw[jd C.ow _ o σ w];unfold qD;dsimp only;rw[Qe rfl]
  .rw[Qd e]at a;rw[Qd e,u j m e a];exact⟨jd C.ow _ (C.Jy j m a).2 σ (C.Jy j m a).1,(C.Jy j m a).2⟩
 .dsimp only at a ⊢;rw[d]at a;by_cases e:j=n.c.iD
  .rw[Qe e]at a;cases a;rw[Qe e,e];obtain⟨k,i,g⟩:=v s;exact⟨k,i,g.step (r _ σ)⟩
  .rw[Qd e]at a;rw[Qd e];obtain⟨k,i,g⟩:=C.XG j m a s;exact⟨k,i,g.step (r _ σ)⟩
 .dsimp only at a;rw[d]at a;by_cases e:j=n.c.iD
  .rw[Qe e]at a;cases a;exact B
  .rw[Qd e]at a;exact C.qH j m a
end
def J3(b:List Qm)(M:Qo)(a:Int):Qo:=
 match Qy b a with
 | none=>{ M with N:=jE M.N a,ks:=λj=>if j=a then false else M.ks j }
 | some c=>if c.leaf=true then { M with N:=XH c::jE M.N a,ks:=λj=>if j=a then false else M.ks j }
  else { M with N:=XH c::jE M.N a,ks:=λj=>if j=a then true else M.ks j,KT:=λj=>if j=a then [] else M.KT j }
def VK(M:Qo)(a:List Qm):Qo:=(Kb M.T a).foldl (J3 a) { M with T:=a }
def je(M:Qo)(a:List Qm)(b:Bool):Bool:=(Kb M.T a).any (x9 M) || (iw M.T a&&(!b || decide (0<(VZ M).length)))
def XI(M:Qo)(a:List Qm):List Nd:=a.map λc=>QD (VK M a) c.iD
def wY(b:List Qm)(A:List Int)(a:Int):List Int:=if 1<QJ ((Qy b a).getD default).ls then a::A else A
def qJ(M:Qo)(a:List Qm):Qo:={ VK M a with N:=XI M a,To:=a,A:=[] }
def y8(M:Qo)(a:List Qm):Qo:={ qJ M a with A:=(VZ (qJ M a)).foldl (wY a) [] }
def Y3(M:Qo)(b:Bool)(l:List Z4):Int:=
 if YD M.T M.lk.t l≠0 then YD M.T M.lk.t l else if je M (Jm M.T l) b=true then 24 else 0
def ya(M:Qo)(l:List Z4):Nat:=if YD M.T M.lk.t l≠0 then Ed M.T l else 0
def J4(M:Qo)(b:Bool)(l:List Z4):Qo:=if Y3 M b l=0 then y8 M (Jm M.T l) else M
def QAe(h)(c:Qm)(e:c.leaf=true->1<=c.ZR/\c.ZR<=64/\1<=c.bytes/\c.bytes<=1048576):
  Xf prog 75 h [WV c] (λd g=>Qju h c d (h++g)):=by
 refine QM.mono (Qz6 (h.map Ob.ro) c e) ?_;rintro d p ⟨rfl,g,b,rfl,j,a,i⟩;refine⟨g,rfl,by rw[KK],g,b,rfl,j,?_,λm=>?_⟩
 .rw[KK]at a;rw[Kh (by rw[KK];omega),KK]at a;rw[Kh ω];exact a
 .obtain⟨k,f,Q⟩:=i m;refine⟨k,f,Q.step λl _ n=>?_⟩;have o:h.length+2<=l:=by
   have:(h.map Ob.ro).length+2<=l:=n;rwa [KK]at this
  exact⟨o,by rw[Kh ω,Kh (by rw[KK];omega),KK]⟩
def Qjw{c:Qm}(h:Qm.Ok c):(XH c).Ok:=
 have z:(0:Nat)<18446744073709551616:=π
 ⟨z,⟨⟨Ln.vH,Ln.vH⟩,⟨Ln.vH,Ln.vH⟩,z,Jj _,Jj _⟩,⟨⟨Ln.vH,Ln.vH⟩,z⟩,⟨⟨Ln.vH,Ln.vH⟩,Jj _⟩,h⟩
def QAf(A B:List Qm):(Kb A B).length<=A.length+B.length:=by
 have b:=PA (λi=>(sorted (yX A B)).getD i 0) (sorted (yX A B)).length;have d:(sorted (yX A B)).length=(yX A B).length:=Ho _;have a:(yX A B).length<=(A.map (·.iD)++B.map (·.iD)).length:=Yr _ _;have c:(Kb A B).length<=(sorted (yX A B)).length:=by simpa[Kb,jA] using b
 simp at a;omega
section
variable {T2:List Qm}(hr:Wv T2)
include hr
theorem QAg(M:Qo)(j a:Int):Qk (J3 T2 M j).N a=if a=j then (Qy T2 a).map XH else Qk M.N a:=by
 unfold J3;cases d:Qy T2 j with
 | none=>
  dsimp only;rw[Gc];by_cases e:a=j
  .subst e;rw[Qe rfl,Qe rfl,d];rfl
  .rw[Qd e,Qd e]
 | some c=>
  have f:=((VH hr).1 d).2;have b:Qk (XH c::jE M.N j) a=if a=j then (Qy T2 a).map XH else Qk M.N a:=by
   by_cases e:a=j
   .subst e;rw[Qe rfl,d];unfold Qk;rw[vZ,show ((XH c).c.iD==a)=true by rw[show (XH c).c.iD=c.iD from rfl,f];exact NM _];rfl
   .rw[Qd e];have:Qk (XH c::jE M.N j) a=Qk (jE M.N j) a:=by
     unfold Qk;rw[vZ,show ((XH c).c.iD==a)=false by rw[show (XH c).c.iD=c.iD from rfl,f];exact VU (λx=>e x.symm)]
    rw[this,Gc,Qd e]
  dsimp only;split
  .exact b
  .exact b
theorem Gd(a:Int):∀(l:List Int) (M:Qo),Qk (l.foldl (J3 T2) M).N a=if a∈l then (Qy T2 a).map XH else Qk M.N a
 | [],M=>σ
 | j::l,M=>by
  rw[v8,Gd a l,QAg hr];by_cases c:a∈l
  .rw[Qe c,Qe (Ki _ c)]
  .rw[Qd c];by_cases b:a=j
   .rw[Qe b,Qe (by rw[b];exact Kx)]
   .rw[Qd b,Qd (by simp[c,b])]
omit hr in
theorem QAh(M:Qo)(j a:Int):(J3 T2 M j).ks a=if a=j then (match Qy T2 a with|none=>false|some c=>!c.leaf) else M.ks a:=by
 unfold J3;by_cases e:a=j
 .subst e;rw[Qe rfl];cases d:Qy T2 a with
  | none=>simp
  | some c=>cases b:c.leaf<;>simp[b]
 .rw[Qd e];cases d:Qy T2 j with
  | none=>simp[e]
  | some c=>cases b:c.leaf<;>simp[e,b]
omit hr in
theorem Qjx(a):∀(l:List Int) (M:Qo),(l.foldl (J3 T2) M).ks a=if a∈l then (match Qy T2 a with|none=>false|some c=>!c.leaf) else M.ks a
 | [],M=>σ
 | j::l,M=>by
  rw[v8,Qjx a l,QAh];by_cases d:a∈l
  .rw[Qe d,Qe (Ki _ d)]
  .rw[Qd d];by_cases b:a=j
   .rw[Qe b,Qe (by rw[b];exact Kx)]
   .rw[Qd b,Qd (by simp[d,b])]
omit hr in
theorem QAi(M:Qo)(j a:Int){x}(h:x∈(J3 T2 M j).KT a):x∈M.KT a:=by
 unfold J3 at h;split at h
 .exact h
 .split at h
  .exact h
  .dsimp only at h;split at h
   .cases h
   .exact h
omit hr in
theorem lg(a){x}:∀(l:List Int) (M:Qo),x∈(l.foldl (J3 T2) M).KT a->x∈M.KT a
 | [],M,h=>h
 | j::l,M,h=>QAi M j a (lg a l (J3 T2 M j) h)
omit hr in
theorem Qjy(M:Qo)(j:Int):(J3 T2 M j).T=M.T/\(J3 T2 M j).Lv=M.Lv/\(J3 T2 M j).lk=M.lk/\(J3 T2 M j).Qh=M.Qh/\(J3 T2 M j).acc=M.acc:=by
 unfold J3;split
 .exact⟨rfl,rfl,rfl,rfl,rfl⟩
 .split<;>exact⟨rfl,rfl,rfl,rfl,rfl⟩
omit hr in
theorem HY:∀(l:List Int) (M:Qo),(l.foldl (J3 T2) M).T=M.T/\(l.foldl (J3 T2) M).Lv=M.Lv/\(l.foldl (J3 T2) M).lk=M.lk/\(l.foldl (J3 T2) M).Qh=M.Qh/\(l.foldl (J3 T2) M).acc=M.acc
 | [],M=>⟨rfl,rfl,rfl,rfl,rfl⟩
 | j::l,M=>by
  obtain⟨k,i,h,g,f⟩:=HY l (J3 T2 M j);obtain⟨e,d,c,b,a⟩:=Qjy (T2:=T2) M j;rw[v8];exact⟨k.trans e,i.trans d,h.trans c,g.trans b,f.trans a⟩
end
section
variable {M:Qo}{T2:List Qm}(I:Qz M)(I2:KF T2)
include I I2
theorem Qjz(a:Int):(Qk (VK M T2).N a).map (·.c)=Qy T2 a:=by
 unfold VK;rw[Gd I2.rising];by_cases h:a∈Kb M.T T2
 .rw[Qe h];cases Qy T2 a<;>rfl
 .rw[Qd h];have:=λe=>h (MI.2 e);have e:Qy M.T a=Qy T2 a:=jk this;rw[<- e,I.find]
theorem uQ{c:Qm}(d:c∈T2):Qk (VK M T2).N c.iD=some (QD (VK M T2) c.iD)/\(QD (VK M T2) c.iD).c=c:=by
 have a:=Qjz I I2 c.iD;rw[(VH I2.rising).2 ⟨d,rfl⟩]at a;unfold QD;cases b:Qk (VK M T2).N c.iD with
 | none=>rw[b]at a;cases a
 | some n=>
  rw[b,K6,Q6]at a;exact⟨rfl,a⟩
theorem QjA:(XI M T2).map (·.c)=T2:=by
 unfold XI;rw[GB]
 conv=>rhs;rw[<- List.map_id T2]
 exact Dd λc a=>(uQ I I2 a).2
theorem HZ:∀id,Qk (XI M T2) id=Qk (VK M T2).N id:=λid=>by
 have d:=tV (XI M T2) id;rw[QjA I I2]at d;have b:=Qjz I I2 id;cases a:Qk (XI M T2) id with
 | none=>
  rw[a]at d;rw[d]at b;cases f:Qk (VK M T2).N id with
  | none=>rfl
  | some m=>rw[f]at b;cases b
 | some n=>
  have j:n∈XI M T2:=wc a;have e:=Qz.id (M:=qJ M T2) a;obtain⟨c,g,rfl⟩:=Jl.1 j;obtain⟨i,h⟩:=uQ I I2 g;rw[h]at e;rw[<- e,i]
theorem US(H:vM T2){b}(g:je M T2 b=false)(J:∀x∈M.Lv,x.ki∈VZ M)(F:∀id,∀x∈M.KT id,∃n∈VZ M,x.ki∈up M.T n):Qz (qJ M T2):=by
 obtain⟨s,r,K,q,p⟩:=HY (T2:=T2) (Kb M.T T2) { M with T:=T2 };have d:(qJ M T2).T=T2:=s;have m:∀id,x9 M id=true->Qy T2 id=Qy M.T id:=λid E=>by
  refine jk λe=>?_;have v:=MI.2 (λx=>e x.symm:Qy M.T id≠Qy T2 id);unfold je at g;rw[show (Kb M.T T2).any (x9 M)=true from vY.2 ⟨id,v,E⟩]at g;cases g
 have o:∀x n,n∈VZ M->x∈up M.T n->x9 M x=true:=λx n j i=>vY.2 ⟨n,j,by simpa using i⟩;have C:(0:Int) ∉ Kb M.T T2:=λh=>by
  have f0:∀T:List Qm,KF T->Qy T 0=none:=λT I=>by
   rw[Hp];intro c w e;have:=I.ids c w;omega
  exact MI.1 h (by rw[f0 _ I.tree,f0 _ I2])
 refine⟨by rw[d];exact I2,by rw[d];exact H,d.symm,d.trans (QjA I I2).symm,λa y=>(List.not_mem_nil y).elim,λid=>?_,λx hx=>?_,λid x hx=>?_,λid x hx=>?_,?_,?_⟩
 .show (VK M T2).ks id=true↔id=0\/∃n,Qk (XI M T2) id=some n/\n.c.leaf=false;rw[HZ I I2];unfold VK;rw[Qjx,Gd I2.rising];by_cases h:id∈Kb M.T T2
  .rw[Qe h,Qe h];have l:id≠0:=λe=>C (e▸h);cases Qy T2 id with
   | none=>simp[l]
   | some c=>simp[l,XH]
  .rw[Qd h,Qd h];exact I.ks id
 .have f:x∈M.Lv:=by rw[<- r];exact hx
  have k:=J x f;obtain⟨n,u,_,_⟩:=iZ I (JH.1 (show x.ki∈(vS M.T).filter _ from k)).1;have t:x.ki∈up M.T x.ki:=by
   rw[fQ I.tree,I.some u];exact Kx
  rw[d,m _ (o _ _ k t)];exact I.Bn x f
 .have f:x∈M.KT id:=lg id (Kb M.T T2) { M with T:=T2 } hx;obtain⟨c,j,i⟩:=I.vN id x f;obtain⟨n,B,z⟩:=F id x f;exact⟨c,by rw[d,m _ (o _ _ B z)];exact j,i⟩
 .exact I.wS id x (lg id (Kb M.T T2) { M with T:=T2 } hx)
 .show (VK M T2).Qh<=_;exact q▸I.Qh
 .show (VK M T2).acc<=_;exact p▸I.acc
end
def QAj{c:Qm}(h:Vk c=0):c.leaf=true->1<=c.ZR/\c.ZR<=64/\1<=c.bytes/\c.bytes<=1048576:=by
 intro b;have a:vr c=true:=by
  cases e:vr c with
  | true=>rfl
  | false=>
   exfalso;unfold Vk at h;rw[b,e]at h;simp only[Gx,Bool.and_true,RH,Vp]at h;split at h
   .omega
   .split at h<;>omega
 unfold vr yF at a;simp only[ZL,X4]at a;omega
def QAk(b)(M:Qo)(a:Int):(J3 b M a).T=M.T:=by
 unfold J3;split
 .rfl
 .split<;>rfl
def uR(a):∀(l:List Int) (M:Qo),(l.foldl (J3 a) M).T=M.T
 | [],_=>rfl
 | id::l,M=>by rw[v8,uR a l,QAk]
def QAl{S}{h}{p}{T}{A}(O:jw S h p T A)(a)(c:Qm)(k:Qy T a=some c)(i:¬ 1<QJ c.ls):
  QM prog 76 h [.ptr p 0 0 0,Qb a] (λd l=>d=.tup [.nil,Qb 6]/\l=h):=by
 obtain⟨x,v,u,t,s,r,y,z,B,o,O⟩:=O;have f:=O.o;have e:=O.m1;have b:=O.f1.at_ a;rw[wJ,k]at b;simp only[Qd i]at b;refine Q8 func76 ntmps76 results76 λg w n q=>?_;have m:=Qc f;have j:=Qc e;simp only[go_sem,Qa,f,m,e,j,b,Go.undef]
def QjB{b}{a}:∀(l A:List Int),a∈l.foldl (wY b) A->a∈l\/a∈A
 | [],A,h=>.inr h
 | id::l,A,h=>by
  rw[v8]at h;rcases QjB l _ h with h|h
  .exact .inl (Ki _ h)
  .unfold wY at h;split at h
   .rcases QF.1 h with h|h
    .exact .inl (h▸Kx)
    .exact .inr h
   .exact .inr h
def QAm{l:List Int}(h:l.Nodup){k}(a:k<l.length):l.getD k 0 ∉ l.take k:=λb=>by
 rw[<- De k l,J5]at h;refine h.2.2 _ b (l.getD k 0) ?_ rfl;rw[QY,QG a,RI a];exact Kx
def QAn{M:Qo}{a}(h:a∈VZ M):a∈vS M.T:=by unfold VZ wR at h;exact(JH.1 h).1
def QAo{T:List Qm}(h:Wv T):(vS T).Nodup:=by
 unfold vS;have c:(T.filter (·.leaf)).Pairwise (λa b=>a.iD<b.iD):=Nx _ h;rw[RM,IJ];exact c.imp λd=>ω
def QAp{M:Qo}(I:Qz M):(VZ M).Nodup:=Nx _ (QAo I.tree.rising)
def QAq{u}{h}{p}{L}{M:Qo}(C:ZD u h p L M)(I:Qz M)(K:W8 M.lk)(b)(l:List Z4)(hc:∀c∈l,Z4.Ok c)(s:l.length<1000000)
  (Bv:∀x∈M.Lv,x.ki∈VZ M) (P5:∀id,∀x∈M.KT id,∃n∈VZ M,x.ki∈up M.T n) :
  QM prog 44 h [.ptr p 0 0 0,QX b,F4 l] (λd h'=>∃y L' M',ZD y h' p L' M'/\Qz M'/\Zv u h y h' /\
   d=.tup [Qb (ya M l),Qb (Y3 M b l)]/\M'=J4 M b l):=by
 have ho:=C.ob;refine Q8 func44 ntmps44 results44 λe9 w pl i=>?_;have Qg:=Qc ho;simp only[go_sem,Qa,ho,Qg];apply VE [10] i [0,1,2,3,4,5,6,7,8,9,1010,11,12,13,14,15,16,17] [];simp only[go_sem,Qa,ho,Qg];have hT:=Qc C.ob;refine wC i Qr5 (QyU C.tr I.tree I.yY M.lk.t K.t1 K.t2 l hc s) λd h1 P=>?_;obtain⟨t2,rfl,P6,g,rfl⟩:=P;obtain⟨Jz,MS⟩:∃o,o=Q4 u h .tree:=⟨_,rfl⟩;have C1:ZD Jz (h++g) p L M:=by rw[MS];exact C.step λl s _=>⟨Ku s,QE s⟩
 have D1:Zv u h Jz (h++g):=by rw[MS];exact Zv.app u h g .tree
 apply YQ i;by_cases U:YD M.T M.lk.t l=0;case neg=>
  have dE:(YD M.T M.lk.t l != 0)=true:=by simpa using U
  have J:Y3 M b l=YD M.T M.lk.t l:=by unfold Y3;rw[Qe U]
  have e2:ya M l=Ed M.T l:=by unfold ya;rw[Qe U]
  have e3:J4 M b l=M:=by unfold J4;rw[J,Qd U]
  simp only[go_sem,Qa,dE];exact⟨Jz,L,M,C1,I,D1,by rw[J,e2],e3.symm⟩
 have dE:(YD M.T M.lk.t l != 0)=false:=by simpa using U
 have Vq:Ed M.T l=0\/True:=.inr trivial;have R2:WG (λl=>Jz l=.tree) (h++g) t2 (Jm M.T l):=(P6 U).step λl _ h1=>⟨by rw[MS];unfold Q4;rw[Qe h1],rfl⟩;obtain⟨f,Ei⟩:∃f,f=Jm M.T l:=⟨_,rfl⟩;rw[<- Ei]at R2;obtain⟨I2,K2⟩:=PJ I.tree I.yY hc;rw[<- Ei]at I2 K2;have R:=C1.ob;have W:=Qc R;have e8:=I.tree.len;have UF:=I2.len;simp only[go_sem,Qa,dE,R,W,Qe U];have R1:=C1.tr.toR;have UU:(Kb M.T f).length<1000000:=by have:=QAf M.T f;omega
 apply Ju i QeX (QiL R1 R2.toR ω ω);refine AU KS i 2 ?_;simp only[go_sem,Qa];first|refine ql ?_|skip
 refine TW (λst=>je M f b=false/\st=⟨[(0,.ptr p 0 0 0),(1,QX b),(6,Qb 0),(7,Qb 0),(8,.ptr t2 0 0 0),(11,ints (Kb M.T f))],h++g⟩) ?_ ?_
 .apply Qf i;simp only[go_sem,Qa,R,W];refine pJ i SR (uN (h++g) (Kb M.T f) UU (.clo 71 1 [.ptr p 0 0 0]) 71 1 [.ptr p 0 0 0] Qr6 rfl (x9 M) (λh' n hm hx=>?_)) λd P=>?_
  .have b1:∀(l:Nat) (o:Ob),((h++g).map Ob.ro)[l]? = some o->(h'.map Ob.ro)[l]? = some o:=λl o e=>by
    obtain⟨g2,rfl⟩:=hx;have e2:=Z3 ((QE (Qc e)).trans e:((h++g).map Ob.ro++g2)[l]? = some o);rw[e2];rw[KP]at e;obtain⟨o2,h2,rfl⟩:=X3.1 e;rw[ro_ro]
   exact Qz4 (C1.ro.more b1) I n
  subst P;rw[Ta];apply Qf i;obtain⟨y,h6⟩:∃o,o=Jz:=⟨_,rfl⟩;have uS:je M f b=true->∃y L' M',ZD y (h++g) p L' M'/\Qz M'/\Zv u h y (h++g)/\D.tup [Qb 0,Qb 24]=.tup [Qb (ya M l),Qb (Y3 M b l)]/\M'=J4 M b l:=λhB=>by
   have J:Y3 M b l=24:=by unfold Y3;rw[Qd (by rw[U];simp),<- Ei,Qe hB]
   have e2:ya M l=0:=by unfold ya;rw[Qd (by rw[U];simp)]
   have e3:J4 M b l=M:=by unfold J4;rw[J];rfl
   exact⟨Jz,L,M,C1,I,D1,by rw[J,e2];rfl,e3.symm⟩
  cases KB:(Kb M.T f).any (x9 M) with
  | true=>
   simp only[go_sem,Qa];exact uS (by unfold je;rw[KB];rfl)
  | false=>
   simp only[go_sem,Qa,R,W];cases Z:iw M.T f with
   | false=>
    refine Xr i oQ ?_ (uP R1 R2.toR ω ω UU) ?_
    .simp only[go_sem,Qa,R,W,Z]
    apply Qf i;simp only[go_sem,Qa,R,W,Z];refine⟨_,⟨by unfold je;rw[KB,Z];rfl,rfl⟩,?_⟩;exact QQ
   | true=>
    cases b with
    | false=>
     refine Xr i oQ ?_ (uP R1 R2.toR ω ω UU) ?_
     .simp only[go_sem,Qa,R,W,Z]
     apply Qf i;simp only[go_sem,Qa,R,W,Z];exact uS (by unfold je;rw[Z];simp)
    | true=>
     refine Xr i oQ ?_ (uP R1 R2.toR ω ω UU) ?_
     .simp only[go_sem,Qa,R,W,Z]
     apply Qf i;simp only[go_sem,Qa,R,W,Z];apply Ju i oS (uO C1.ro I);apply Qf i;simp only[go_sem,Qa,R,W];cases hd:decide ((0:Int)<((VZ M).length:Int)) with
     | true=>
      simp only[go_sem,Qa,hd];exact uS (by unfold je;rw[Z];simp;right;simpa using hd)
     | false=>
      simp only[go_sem,Qa,hd];refine⟨_,⟨by unfold je;rw[KB,Z];simp;simpa using hd,rfl⟩,?_⟩;exact QQ
 rintro st ⟨X8,rfl⟩;have C2:=C1.Qz8 R2;have D2:=D1.trans (Zv.set (own:=Jz) (h:=h++g) (l:=p) (kz M.lk t2 L.b L.o L.v L.m M.Qh M.acc) (by rw[C1.op];decide));generalize b5:(h++g).set p (kz M.lk t2 L.b L.o L.v L.m M.Qh M.acc)=H2 at C2 D2;have c2:(h++g).set p ⟨.one,0,9,1,λ_=>[.raw (.int .i64 M.lk.t),.raw (.int .i64 M.lk.JI),.ptr t2 0 0 0,.mref L.b 0,.ptr L.o 0 0 0,.ptr L.v 0 0 0,.mref L.m 0,.raw (.int .u64 (M.Qh:Nat)),.raw (.int .u64 (M.acc:Nat))]⟩=H2:=b5;apply Qf i;simp only[go_sem,Qa,R,W,c2];obtain⟨E,uT⟩:∃E,E=Kb M.T f:=⟨_,rfl⟩;rw[<- uT]at UU;rw[<- uT];refine ZW (λk st=>∃V H L2,ZD V H p L2 ((E.take k).foldl (J3 f) { M with T:=f })/\L2.t=t2/\Zv u h V H/\st=⟨[(0,.ptr p 0 0 0),(6,Qb 0),(7,Qb 0),(8,.ptr t2 0 0 0),(71,ints E),(72,Qb E.length),(73,Qb k)],H⟩) E.length (s0:=⟨[(0,.ptr p 0 0 0),(6,Qb 0),(7,Qb 0),(8,.ptr t2 0 0 0),(71,ints E),(72,Qb E.length),(73,Qb 0)],H2⟩) QQ ⟨Jz,H2,_,C2,rfl,D2,rfl⟩ ?_;rintro k st hk ⟨V,H,L2,B,yG,Dk,rfl⟩;by_cases Qi:k<E.length
 .have dk:=QT Qi;obtain⟨id,Zp⟩:∃id,id=E.getD k 0:=⟨_,rfl⟩;obtain⟨O,F7⟩:∃O,O=(E.take k).foldl (J3 f) { M with T:=f }:=⟨_,rfl⟩;have Ja:(E.take (k+1)).foldl (J3 f) { M with T:=f }=J3 f O id:=by
   rw[zD,QG Qi,qd,<- F7,Zp,QY,QG Qi];rfl
  have P7:O.T=f:=by rw[F7];exact uR _ _ _
  rw[<- F7]at B;have QU:=JT (show k<4611686018427387904 from ω);have RT:XE H t2 f:=by have:=B.tr.toR;rwa [yG,P7]at this
  obtain⟨x,hx⟩:∃x,x=(Qy f id).getD default:=⟨_,rfl⟩;have qi:=O5 RT id;rw[<- hx]at qi;have VN:=B.ob;have z8:=Qc VN;have jS:=B.V9;have b0:=Qc jS;have XS:=B.Wm;have LU:=Qc XS;have EW:L2.b≠L2.m:=λe=>by have:=B.ow;rw[e,B.om]at this;cases this
  have qs:L2.b≠p:=λe=>by have:=B.ow;rw[e,B.op]at this;cases this
  have g1:L2.m≠p:=λe=>by have:=B.om;rw[e,B.op]at this;cases this
  apply Qf i;simp only[go_sem,Qa,dk,Qi,<- Zp];refine Xr i wz ?_ qi ?_
  .simp only[go_sem,Qa,VN,z8,jS,b0,XS,LU,Ql EW,Ql qs]
  apply Qf i;simp only[go_sem,Qa,VN,z8,jS,b0,XS,LU,Ql EW,Ql qs];have C3:=B.QAa id;have D3:=Dk.trans (Zv.set (own:=V) (h:=H) (l:=L2.b) (QS .i64 L2.cb (J1 L2.eb id)) (by rw[B.ow];decide));have C4:=C3.QAb id;have D4:=D3.trans (Zv.set (own:=V) (h:=H.set L2.b (QS .i64 L2.cb (J1 L2.eb id))) (l:=L2.m) (QS .i64 L2.cm (J1 L2.em id)) (by rw[B.om];decide));have C5:=C4.PK [⟨.one,0,14,1,λ_=>x.cells⟩];have D5:=D4.trans (Zv.app V _ [⟨.one,0,14,1,λ_=>x.cells⟩] .no);have j9:((H.set L2.b (QS .i64 L2.cb (J1 L2.eb id))).set L2.m (QS .i64 L2.cm (J1 L2.em id))).length=H.length:=σ;generalize a3:(H.set L2.b (QS .i64 L2.cb (J1 L2.eb id))).set L2.m (QS .i64 L2.cm (J1 L2.em id))++[⟨.one,0,14,1,λ_=>x.cells⟩]=r at C5 D5;have uU:=a3;simp only[go_sem]at uU;have UW:r[H.length]? = some ⟨.one,0,14,1,λ_=>x.cells⟩:=by rw[<- a3,<- j9,Vj rfl];rfl
  have a9:=Qc UW;generalize Q4 V ((H.set L2.b (QS .i64 L2.cb (J1 L2.eb id))).set L2.m (QS .i64 L2.cm (J1 L2.em id))) .no=Bo at C5 D5;have Eg:=C5.ob;have PW:=Qc Eg;have UI:=C5.V9;have iR:=Qc UI;have b2:=C5.Wm;have h5:=Qc b2;cases hf:Qy f id with
  | none=>
   have J:J3 f O id={ O with N:=jE O.N id,ks:=λj=>if j=id then false else O.ks j }:=by unfold J3;rw[hf]
   have e6:ZD Bo r p { L2 with eb:=J1 L2.eb id,em:=J1 L2.em id } (J3 f O id):=by rw[J];exact C5
   rw[hf]at qi;simp only[go_sem,Qa,hf,xp,uU];exact⟨Qi,_,Qr.frame (by simp only[go_sem,QU]),Bo,r,{ L2 with eb:=J1 L2.eb id,em:=J1 L2.em id },(by rw[Ja];exact e6),yG,D5,rfl⟩
  | some c=>
   have fw:x=c:=by rw[hx,hf];rfl
   obtain⟨WE,ld⟩:=(VH I2.rising).1 hf;subst fw;have sM:=QAj (I2.right x WE);have qm:=QAe r x sM;simp only[go_sem,Qa,hf,wh,uU];apply Qx i [0,1,2,3,4,5,1006,1007];simp only[go_sem,Qa,Eg,PW,UW,a9];refine SN i Qr7 rfl ?_ qm rfl λd g7 P=>?_
   .simp only[go_sem]
   obtain⟨rfl,g8,lq,b3,h3,Pt,c1⟩:=P;obtain rfl:g7=g8:=List.append_cancel_left b3;subst ld;obtain⟨F,uV⟩:∃o:Nat->Tag,o=λl=>if l<r.length then Bo l else if l=r.length then .no else if l=r.length+1 then .xK x.iD else .zf x.iD:=⟨_,rfl⟩;have w7:∀l,l<r.length->F l=Bo l:=λl s=>by rw[uV];exact Qe s
   have we:F (r.length+1)=.xK x.iD:=by rw[uV];dsimp only;rw[Qd ω,Qd ω,Qe rfl]
   have wq:∀l,r.length+2<=l->F l=.zf x.iD:=λl s=>by rw[uV];dsimp only;rw[Qd ω,Qd ω,Qd ω]
   have C7:=C5.step (own':=F) (h':=r++g7) λl s _=>⟨w7 l s,QE s⟩;have D7:Zv u h F (r++g7):=D5.trans ⟨w7,λl s _=>QE s,σ⟩;obtain⟨c8,b6,g3,C8⟩:=C7.QAd (n:=XH x) (e:=r.length+1) (q:=lq) (by dsimp only;rw[Gc];exact Qe rfl) Pt we (λKG=>by
    obtain⟨k8,UX,ub⟩:=c1 KG;exact⟨k8,UX,ub.step λl _ s=>⟨wq l s,rfl⟩⟩) (Qjw (K2 x WE))
   obtain⟨M8,uW⟩:∃M8,M8={ O with N:=XH x::jE O.N x.iD,ks:=λj=>if j=x.iD then false else O.ks j }:=⟨_,rfl⟩;obtain⟨v,uX⟩:∃v:Loc,v={ L2 with em:=J1 L2.em x.iD,cb:=c8,eb:=b6,le:=λj=>if j=x.iD then r.length+1 else L2.le j,lq:=λj=>if j=x.iD then lq else L2.lq j }:=⟨_,rfl⟩;have C8:ZD F ((r++g7).set L2.b (J7 .i64 L2.cb (J1 L2.eb x.iD) x.iD (.ptr (r.length+1) 0 0 0))) p v M8:=by rw[uX,uW];exact C8
   have a1:v.t=t2:=by rw[uX];exact yG
   have g0:v.m=L2.m:=by rw[uX]
   have D8:=D7.trans (Zv.set (own:=F) (h:=r++g7) (l:=L2.b) (J7 .i64 L2.cb (J1 L2.eb x.iD) x.iD (.ptr (r.length+1) 0 0 0)) (by rw[C7.ow];decide));have eH:(r++g7).set L2.b (J7 .i64 L2.cb (J1 L2.eb x.iD) x.iD (.ptr (r.length+1) 0 0 0))=r.set L2.b (J7 .i64 L2.cb (J1 L2.eb x.iD) x.iD (.ptr (r.length+1) 0 0 0))++g7:=bn _ _ iR;have c0:L2.b≠H.length:=λe=>by
    have h1:=Qc B.V9;omega
   have UY:((r++g7).set L2.b (J7 .i64 L2.cb (J1 L2.eb x.iD) x.iD (.ptr (r.length+1) 0 0 0)))[H.length]? = some ⟨.one,0,14,1,λ_=>x.cells⟩:=(Ql c0).trans ((QE a9).trans UW);rw[eH]at UY C8 D8;generalize b4:r.set L2.b (J7 .i64 L2.cb (J1 L2.eb x.iD) x.iD (.ptr (r.length+1) 0 0 0))++g7=m at UY C8 D8;have a8:=Qc UY;have a2:=C8.ob;have b9:=Qc a2;have a7:=C8.Wm;have a6:=Qc a7;apply Zk i;simp only[go_sem,Qa,UI,iR,b4];cases KG:x.leaf with
   | true=>
    simp only[go_sem,Qa,UY,a8,KG];have J:J3 f O x.iD=M8:=by unfold J3;rw[hf,uW];dsimp only;rw[Qe KG]
    exact⟨Qi,_,Qr.frame (by simp only[go_sem,QU]),F,m,v,(by rw[Ja,J];exact C8),a1,D8,rfl⟩
   | false=>
    simp only[go_sem,Qa,UY,a8,KG];have C9:=C8.step (own':=Q4 F m (.Yj x.iD)) (h':=m++wV m.length) λl s _=>⟨Ku s,QE s⟩;have D9:Zv u h (Q4 F m (.Yj x.iD)) (m++wV m.length):=D8.trans (Zv.app F m (wV m.length) (.Yj x.iD));have un:∀l,m.length<=l->Q4 F m (.Yj x.iD) l=.Yj x.iD:=λl s=>by unfold Q4;rw[Qe s]
    obtain⟨b8,e0,h0,yZ⟩:=C9.QAc x.iD (k:=m.length+2) (uJ (S:=λl=>Q4 F m (.Yj x.iD) l=.Yj x.iD) (by rw[Vj rfl];rfl) (by rw[VP (k:=1) rfl];rfl) (by rw[VP (k:=2) rfl];rfl) (un _ ω) (un _ ω) (un _ ω));have HS:=D9.trans (Zv.set (own:=Q4 F m (.Yj x.iD)) (h:=m++wV m.length) (l:=v.m) (J7 .i64 v.cm v.em x.iD (.ptr (m.length+2) 0 0 0)) (by rw[C9.om];decide));have b7:(m++wV m.length).set v.m (J7 .i64 v.cm v.em x.iD (.ptr (m.length+2) 0 0 0))=m.set v.m (J7 .i64 v.cm v.em x.iD (.ptr (m.length+2) 0 0 0))++wV m.length:=bn _ _ a6;rw[b7]at yZ HS;generalize c9:m.set v.m (J7 .i64 v.cm v.em x.iD (.ptr (m.length+2) 0 0 0))++wV m.length=e4 at yZ HS;apply Qx i [0,1,2,3,4,1005,1006];simp only[go_sem,Qa,a2,b9];refine SN i QeU rfl ?_ (Qjo m) rfl λd g9 P=>?_
    .simp only[go_sem]
    obtain⟨rfl,rfl⟩:=P;apply Zk i;simp only[go_sem,Qa,a7,a6,c9];have J:J3 f O x.iD={ M8 with ks:=λj=>if j=x.iD then true else M8.ks j,KT:=λj=>if j=x.iD then [] else M8.KT j }:=by
     unfold J3;rw[hf,uW];dsimp only;rw[Qd (by rw[KG];exact BF)];congr 1;funext j;by_cases e:j=x.iD
     .rw[Qe e,Qe e]
     .rw[Qd e,Qd e,Qd e]
    exact⟨Qi,_,Qr.frame (by simp only[go_sem,QU]),Q4 F m (.Yj x.iD),e4,{ v with cm:=b8,em:=e0,lk:=λj=>if j=x.iD then m.length+2 else v.lk j },(by rw[Ja,J];exact yZ),a1,HS,rfl⟩
 .have ZG:k=E.length:=ω;subst ZG;have uY:(E.take E.length).foldl (J3 f) { M with T:=f }=VK M f:=by rw[Wc,uT];rfl
  rw[uY]at B;have P7:(VK M f).T=f:=uR _ _ _;have RT:XE H t2 f:=by have:=B.tr.toR;rwa [yG,P7]at this
  have dk:decide (E.length<E.length)=false:=QH ω;apply Qf i;simp only[go_sem,Qa,dk];apply QP i;refine JG i QeV (QgG RT I2) λd NS P=>?_;obtain⟨rfl,hO,Q,rfl⟩:=P;have uZ:=B.step (own':=Q4 V H .on) (h':=H++Q) λl s _=>⟨Ku s,QE s⟩;have e5:=Dk.trans (Zv.app V H Q .on);have AQ:jw (λl=>Q4 V H .on l=.on) (H++Q) (H.length+3) f []:=hO.step λl _ s=>⟨by unfold Q4;rw[Qe s],rfl⟩;have e7:=uZ.Qz9 AQ;have UZ:=e5.trans (Zv.set (own:=Q4 V H .on) (h:=H++Q) (l:=p) (kz (VK M f).lk L2.t L2.b (H.length+3) L2.v L2.m (VK M f).Qh (VK M f).acc) (by rw[uZ.op];decide));have P8:ZD _ _ p { L2 with o:=H.length+3 } (qJ M f):=e7.congrN (N:=XI M f) (HZ I I2);have P9:Qz (qJ M f):=US I I2 K2 X8 Bv P5;have U0:=uZ.ob;have c7:=Qc U0;generalize z7:(VK M f).lk=u0 at P8 UZ U0;generalize g5:(VK M f).Qh=a5 at P8 UZ U0;generalize g4:(VK M f).acc=a4 at P8 UZ U0;generalize c5:(H++Q).set p (kz u0 L2.t L2.b (H.length+3) L2.v L2.m a5 a4)=u6 at P8 UZ;have c4:(H++Q).set p ⟨.one,0,9,1,λ_=>[.raw (.int .i64 u0.t),.raw (.int .i64 u0.JI),.ptr L2.t 0 0 0,.mref L2.b 0,.ptr (H.length+3) 0 0 0,.ptr L2.v 0 0 0,.mref L2.m 0,.raw (.int .u64 (a5:Nat)),.raw (.int .u64 (a4:Nat))]⟩=u6:=c5;apply Qf i;simp only[go_sem,Qa,U0,c7,c4];apply Ju i oS (uO P8.ro P9);apply QP i;obtain⟨z,YJ⟩:∃z,z=VZ (qJ M f):=⟨_,rfl⟩;have g6:z.length<=64:=by rw[YJ];exact Qjr P9
  rw[<- YJ];refine ZW (λk st=>∃Br H3,ZD Br H3 p { L2 with o:=H.length+3 } { qJ M f with A:=(z.take k).foldl (wY f) [] }/\Qz { qJ M f with A:=(z.take k).foldl (wY f) [] }/\Zv u h Br H3/\st=⟨[(0,.ptr p 0 0 0),(6,Qb 0),(7,Qb 0),(122,ints z),(123,Qb z.length),(124,Qb k)],H3⟩) z.length (s0:=⟨[(0,.ptr p 0 0 0),(6,Qb 0),(7,Qb 0),(122,ints z),(123,Qb z.length),(124,Qb 0)],u6⟩) QQ ⟨_,u6,P8,P9,UZ,rfl⟩ ?_;rintro k st hk ⟨Br,H3,H0,MU,u7,rfl⟩;by_cases q5:k<z.length
  .have u9:=QT q5;obtain⟨id,Zp⟩:∃id,id=z.getD k 0:=⟨_,rfl⟩;have QU:=JT (show k<4611686018427387904 from ω);obtain⟨Y,a0⟩:∃Y,Y=(z.take k).foldl (wY f) []:=⟨_,rfl⟩;have Ja:(z.take (k+1)).foldl (wY f) []=wY f Y id:=by
    rw[zD,QG q5,qd,<- a0,Zp,QY,QG q5];rfl
   rw[<- a0]at H0 MU;have c3:id∈VZ (qJ M f):=by rw[<- YJ,Zp];exact iY q5
   obtain⟨nd,hn,KG,oh⟩:=iZ P9 (id:=id) (QAn c3);have WZ:Qy f id=some nd.c:=by have:=P9.some hn;rwa [show (qJ M f).T=f from P7]at this
   have zV:wY f Y id=if 1<QJ nd.c.ls then id::Y else Y:=by unfold wY;rw[WZ];rfl
   have Jc:Jq f Y id=false:=by
    rw[jj];intro h9;have h8:=(iL I2 WZ KG Y).1 h9;rw[a0]at h8;rcases QjB _ _ h8 with h7|h7
    .have Jb:z.Nodup:=by rw[YJ];exact QAp P9
     rw[Zp]at h7;exact QAm Jb q5 h7
    .cases h7
   have Xw:=H0.ob;have jC:=Qc Xw;apply Qf i;simp only[go_sem,Qa,u9,q5,<- Zp,Xw,jC];by_cases hs:1<QJ nd.c.ls
   .rw[Qe hs]at zV;refine JG i oU (QgB H0.zj I2 (by have:=MU.Y0;rwa [show ({ qJ M f with A:=Y }:Qo).T=f from P7]at this) id nd.c WZ KG hs Jc) λd h4 P=>?_;obtain⟨d1,rfl,B7,O4,s4⟩:=P;have C4:=H0.act O4 s4;have I4:Qz { qJ M f with A:=id::Y }:=MU.act (λa ha=>by
     rcases QF.1 ha with e|e
     .exact⟨nd.c,by rw[e,show ({ qJ M f with A:=Y }:Qo).T=f from P7];exact WZ,KG,hs⟩
     .exact MU.Y0 a e)
    have D4:=u7.trans (Zv.of (t:=.on) σ s4);apply QP i;exact⟨q5,_,Qr.frame (by simp only[go_sem,QU]),_,h4,by rw[Ja,zV];exact C4,by rw[Ja,zV];exact I4,D4,rfl⟩
   .rw[Qd hs]at zV;refine JG i oU (QAl H0.zj id nd.c WZ hs) λd h4 P=>?_;obtain⟨rfl,rfl⟩:=P;apply QP i;exact⟨q5,_,Qr.frame (by simp only[go_sem,QU]),Br,h4,by rw[Ja,zV];exact H0,by rw[Ja,zV];exact MU,u7,rfl⟩
  .have G1:k=z.length:=ω;subst G1;have u9:decide (z.length<z.length)=false:=QH ω;have J:Y3 M b l=0:=by unfold Y3;rw[Qd (by rw[U];simp),<- Ei,Qd (by rw[X8];exact BF)]
   have e2:ya M l=0:=by unfold ya;rw[Qd (by rw[U];simp)]
   have e3:J4 M b l={ qJ M f with A:=z.foldl (wY f) [] }:=by unfold J4;rw[Qe J,<- Ei,YJ];rfl
   rw[Wc,<- e3]at H0 MU;apply Qf i;simp only[go_sem,Qa,u9];apply QP i;exact⟨Br,_,_,H0,MU,u7,by rw[J,e2];rfl,rfl⟩
section
variable {h:List Ob}{p:Nat}{L:Loc}{M:Qo}(C:wX h p L M)
include C
def U1(L:List It):Nat:=match L.head? with
 | some x=>min x.ka never
 | none=>never
def qK(M:Qo):Nat:=min (U1 M.Lv) (xT (M.KT 0))
theorem QjO(I:Qz M):Zi prog 123 h [.ptr p 0 0 0] (λd=>d=u64 (qK M)):=by
 have a:=C.ob;have c:=C.Wm;have i:M.ks 0=true:=(I.ks 0).2 (.inl rfl);have f:=C.Yl.at_ 0;rw[Qe i]at f;have m:=C.kids 0 i;refine ZJ func123 ntmps123 results123 λk w n F g o b=>?_;rw[<- g]at a c;have e:=Qc a;have j:=Qc c;simp only[go_sem,Qa,a,e,c,j,f];apply Qx b [0,1,2,3,5,6,7,8,9,1004,1010,11,12];simp only[go_sem,Qa,a,e,c,j,f];have l:Zi prog 162 F [.ptr L.v 0 0 0] (λd=>d=u64 (U1 M.Lv)):=Qvw (C.Yk.more (VI g));apply XB b QsY l;apply Zk b;simp only[go_sem,Qa,a,e];apply XB b Qe9 (QgL (m.more (VI g)) (I.wS 0));apply Zk b;simp only[go_sem,Qa,a,e];refine⟨[],(JZ F).symm,?_⟩;unfold qK;rw[Nat.min_def,Int.min_def];congr 2;split<;>split<;>omega
end
end Go.Fg.X
namespace Go.Fg.X
open Go.Proofs Go.Fg
open Go.Proofs.Tryz
def pks(l:List Pk):D:=.imm 6 l.length (Pk.rows l)
def QIc(n:Nat)(H:List Ob)(d:D)(L:List Pk):Prop:=(d=.nil/\L=[])\/∃b g a,d=.ref b g 0 L.length/\n<=b/\H[b]? = some ⟨.arr,g,6,L.length,a⟩/\∀i,i<L.length->a i=(L.getD i default).cells
end Go.Fg.X
namespace Go.Fg.X
open Go.Proofs Go.Fg
open Go.Proofs.Tryz
def lnI(M:Qo)(a:Int):Nat:=(QD M a).q.l.length
def byI(M:Qo)(a:Int):Nat:=V8 (QD M a).q.l
def QjP(f:Int->Nat)(l:List Int):Nat:=(l.map f).sum
structure QId (p m c:Nat) (es:List ZF) (M:Qo) (F:List Ob) (n:Nat) (s:St):Prop where
 ex:∃seen out H,yD es seen=n/\VQ F H/\out.Perm ((es.filter λe=>seen.contains e.b&&true).map (·.k))/\H[F.length]? = some (Yv m c c seen) /\
  s=⟨[(0,.ptr p 0 0 0),(4,Qb (QjP (lnI M) out)),(5,Qb (QjP (byI M) out)),(14,.mref F.length 0)],H⟩
structure Good (M:Qo):Prop where
 lv:∀x∈M.Lv,∃n,Qk M.N x.ki=some n/\n.c.leaf=true/\n.q.l≠[]
 kt:∀id,∀x∈M.KT id,Kg M x.ki=true
 act:∀id,id∈M.A↔∃n,Qk M.N id=some n/\n.c.leaf=true/\n.q.l≠[]/\1<QJ n.c.ls
section
variable {M:Qo}(I:Qz M)(G:Good M)
include I G
theorem Good.QjQ{a}{n:Nd}(b:Qk M.N a=some n)(e:n.c.leaf=true)(d:n.q.l≠[]):a∈VZ M:=by
 have f:=I.some b;obtain⟨h,g⟩:=(VH I.tree.rising).1 f;refine JH.2 ⟨Jl.2 ⟨n.c,JH.2 ⟨h,e⟩,g⟩,?_⟩;unfold Gb QD;rw[b];cases c:n.q.l with
 | nil=>exact absurd c d
 | cons x l=>simp[c]
theorem Good.hA(a):∀n,Qk M.N a=some n->n.c.leaf=true->n.q.l=[]->a ∉ M.A:=λn d g c e=>by
 obtain⟨m,b,_,f,_⟩:=(G.act a).1 e;rw[d]at b;cases b;exact f c
theorem Good.Bv:∀x∈M.Lv,x.ki∈VZ M:=λx hx=>by
 obtain⟨n,c,b,a⟩:=G.lv x hx;exact Good.QjQ I G c b a
theorem Good.P5:∀id,∀x∈M.KT id,∃n∈VZ M,x.ki∈up M.T n:=λid x hx=>by
 obtain⟨a,c,b⟩:=YS.1 (G.kt id x hx);obtain⟨n,f,e,d,_⟩:=(G.act a).1 c;exact⟨a,Good.QjQ I G f e d,b⟩
theorem Good.leaf{a}{n:Nd}(b:Qk M.N a=some n)(e:n.c.leaf=true)(f:Kg M a=true):n.q.l≠[]/\a∈M.A:=by
 have d:=(iL I.tree (I.some b) e M.A).1 f;obtain⟨m,c,_,g,_⟩:=(G.act a).1 d;rw[b]at c;cases c;exact⟨g,d⟩
theorem Good.share(a):∀k p id,Bp M a k p=some id->∃n,Qk M.N id=some n/\n.c.leaf=true/\Kg M id=true
 | 0,_,_,h=>by cases h
 | k+1,p,id,h=>by
  unfold Bp at h;cases d:firstM M a p with
  | none=>rw[d]at h;cases h
  | some x=>
   rw[d]at h;dsimp only at h;have f:x∈M.KT p:=wc d;split at h
   .rename_i c;cases h;have b:=I.tW p x f;rw[I.find]at b;cases e:Qk M.N x.ki with
    | none=>rw[e]at b;cases b
    | some n=>exact⟨n,rfl,by unfold QD at c;rw[e]at c;exact c,G.kt p x f⟩
   .exact Good.share a k x.ki id h
theorem Good.ur(a):∀o id r,x7 M a o->VO M a o=some (id,r)->∃n,Qk M.N id=some n/\n.c.leaf=true/\n.q.l≠[]/\(1<QJ n.c.ls->id∈M.A):=λo id r g d=>by
 cases o with
 | some x=>
  simp only[VO,Q6,Ze]at d;obtain⟨rfl,rfl⟩:=d;have hx:x∈M.Lv:=(JH.1 g.1).1;obtain⟨n,c,b,e⟩:=G.lv x hx;exact⟨n,c,b,e,λf=>(G.act x.ki).2 ⟨n,c,b,e,f⟩⟩
 | none=>
  simp only[VO,X3]at d;obtain⟨i,h,j⟩:=d;cases j;obtain⟨n,c,b,e⟩:=Good.share I G a 17 0 _ h;obtain⟨f,k⟩:=Good.leaf I G c b e;exact⟨n,c,b,f,λ_=>k⟩
omit I in
end
end Go.Fg.X
namespace Go.Fg.X
open Go.Proofs Go.Fg
open Go.Proofs.Tryz
def zq(M:Qo)(p:Int)(x:It):Prop:=∃n,Qk M.N x.ki=some n/\n.c.parent=p/\Kg M x.ki=true/\x=⟨n.sh.time,x.ki,W5 M x.ki n,x.ki⟩
def CU(M:Qo)(x:It):Prop:=∃n,Qk M.N x.ki=some n/\n.c.leaf=true/\n.q.l≠[]/\1<QJ n.c.rt/\x=⟨n.du.YC,x.ki,n.du.dead,x.ki⟩
def El(M:Qo):Prop:=∀x,x∈M.Lv↔CU M x
def Ra(M:Qo):Prop:=∀p x,x∈M.KT p↔zq M p x
def H4(M:Qo):Prop:=∀id,id∈M.A↔∃n,Qk M.N id=some n/\n.c.leaf=true/\n.q.l≠[]/\1<QJ n.c.ls
def Em(M:Qo):Prop:=∀id n,Qk M.N id=some n->n.c.leaf=false->n.q=⟨[],0,0,0,0,0,0⟩
def Wb(M:Qo):Prop:=∀id n,Qk M.N id=some n->n.Ok
def Ge(M:Qo):Prop:=Vw M.Lv/\∀p,Vw (M.KT p)
structure Inv (M:Qo):Prop where
 lv:El M
 kt:Ra M
 act:H4 M
 Bw:Em M
 zw:Ge M
 ok:Wb M
def Inv.Rb{M}(V:Inv M):Good M:=
 ⟨λx hx=>by
  obtain⟨n,c,b,a,_⟩:=(V.lv x).1 hx;exact⟨n,c,b,a⟩,λp x hx=>by
  obtain⟨n,_,_,h,_⟩:=(V.kt p x).1 hx;exact h,V.act⟩
def QjR(c):Inv (M0 c):=by
 refine⟨λx=>?_,λp x=>?_,λid=>by simp[M0,Qk],λid n h=>by simp[M0,Qk]at h,⟨by simp[M0,Vw],λp=>by simp[M0,Vw]⟩,λid n h=>by simp[M0,Qk]at h⟩
 .simp[M0,CU,Qk]
 .simp[M0,zq,Qk]
def QAN{a}{i}{L}(h:∀x∈L,x.ki≠i):YT a i L=none:=by
 unfold YT;rw[jL];intro x hx b;exact h x hx (xO.1 b).2
def Qab{a}{L}(h:Vw L):Vw (Vy a L):=Nx _ h
def U2{a}{L}{x:It}:x∈Vy a L↔x∈L/\x.ki≠a:=by simp[Vy]
def lh{c}{a b}{L}(h:Vw L):Vw (YB c a b L):=
 p6 (Qab h) (QAN λx hx=>(U2.1 hx).2)
def H9{c}{a b}{L}{x:It}:x∈YB c a b L↔x=⟨a,c,b,c⟩\/(x∈L/\x.ki≠c):=by
 unfold YB;rw[Hy,U2]
structure Part (M:Qo) (U:List Int):Prop where
 lv:El M
 kt:∀p x,x.ki ∉ U->(x∈M.KT p↔zq M p x)
 ka:∀p x,x∈M.KT p->x.ki∈U->Kg M x.ki=true
 act:H4 M
 Bw:Em M
 zw:Ge M
 ok:Wb M
def QAO{M}{a j:Int}{m}(h:(QD M a).c.parent≠j):W5 (VJ M a) j m=W5 M j m:=by
 have f:Kg (VJ M a) j=Kg M j:=by
  obtain⟨_,c,_,b,_⟩:=PL M a;unfold Kg;rw[c,b]
 unfold W5;rw[f];have d:(VJ M a).KT j=M.KT j:=by
  unfold VJ;split
  .dsimp only;rw[Qd (λe=>h e.symm)]
  .rfl
 rw[d]
def Part.step{M:Qo}(I:Qz M){a}{n:Nd}(o:Qk M.N a=some n)(V:Part M (a::up M.T n.c.parent)):Part (VJ M a) (up M.T n.c.parent):=by
 obtain⟨i,C,P,w,v,O,N,L,K⟩:=PL M a;have z:QD M a=n:=by unfold QD;rw[o];rfl
 have s:∀j,Kg (VJ M a) j=Kg M j:=λj=>by unfold Kg;rw[C,w]
 have y:=I.some o;have J:a ∉ up M.T n.c.parent:=by
  have:=Tf I.tree a;rw[Vu I.tree y,ZY]at this;exact this.1
 have B:∀j m,Qk M.N j=some m->j ∉ up M.T n.c.parent->W5 (VJ M a) j m=W5 M j m:=λj m E F=>QAO λe=>by
  rw[z]at e;refine F ?_;rw[e];exact Ye I.tree (I.some E)
 have u:∀p x,x.ki ∉ up M.T n.c.parent->(zq (VJ M a) p x↔zq M p x):=λp x hx=>by
  unfold zq;rw[i];constructor
  .rintro⟨m,b,f,g,l⟩;exact⟨m,b,f,by rw[<- s];exact g,by rw[<- B _ m b hx];exact l⟩
  .rintro⟨m,b,f,g,l⟩;exact⟨m,b,f,by rw[s];exact g,by rw[B _ m b hx];exact l⟩
 have t:∀p x,x∈M.KT p->x.ki=a->n.c.parent=p:=λp x hx e=>by
  obtain⟨c,b,f⟩:=I.vN p x hx;rw[e,y]at b;cases b;exact f
 refine⟨?_,λp x hx=>?_,λp x hx q=>?_,?_,?_,?_,by unfold Wb;rw[i];exact V.ok⟩
 .intro x;unfold CU;rw[i,v];exact V.lv x
 .rw[u p x hx];by_cases e:x.ki=a
  .cases k:Kg M a with
   | true=>
    have r:(VJ M a).KT=λj=>if j=n.c.parent then YB a n.sh.time (W5 M a n) (M.KT n.c.parent) else M.KT j:=by
     unfold VJ;rw[Qe k,z]
    rw[r];dsimp only;split
    .rename_i d;subst d;rw[H9];unfold zq;rw[e,o];constructor
     .rintro (h|h)
      .exact⟨n,rfl,rfl,k,h⟩
      .exact absurd rfl h.2
     .rintro⟨m,b,_,_,l⟩;cases b;exact .inl l
    .rename_i d;constructor
     .intro h;exact absurd (t p x h e).symm d
     .rintro⟨m,b,f,_⟩;rw[e,o]at b;cases b;exact absurd f.symm d
   | false=>
    have r:VJ M a=M:=by unfold VJ;rw[Qd (by rw[k];exact BF)]
    rw[r];constructor
    .intro h;have:=V.ka p x h (by rw[e];exact Kx);rw[e,k]at this;cases this
    .rintro⟨m,_,_,g,_⟩;rw[e,k]at g;cases g
  .have q:x.ki ∉ a::up M.T n.c.parent:=λh=>(QF.1 h).elim e hx;rw[<- V.kt p x q];unfold VJ;split
   .dsimp only;split
    .rename_i d;rw[H9,d];constructor
     .rintro (h|h)
      .exact absurd (congrArg It.ki h) e
      .exact h.1
     .intro h;exact .inr ⟨h,e⟩
    .exact Iff.rfl
   .exact Iff.rfl
 .rw[s];have H:x.ki≠a:=λe=>J (e▸q);refine V.ka p x ?_ (Ki _ q);unfold VJ at hx;split at hx
  .dsimp only at hx;split at hx
   .rename_i d;rcases H9.1 hx with h|h
    .exact absurd (congrArg It.ki h) H
    .rw[d];exact h.1
   .exact hx
  .exact hx
 .intro j;rw[i,w];exact V.act j
 .unfold Em;rw[i];exact V.Bw
 .refine⟨by rw[v];exact V.zw.1,λp=>?_⟩;unfold VJ;split
  .dsimp only;split
   .exact lh (V.zw.2 _)
   .exact V.zw.2 p
  .exact V.zw.2 p
def Part.settle:∀(k:Nat) {M:Qo} (id:Int),Qz M->(up M.T id).length=k->Part M (up M.T id)->Inv (Wg M (up M.T id)):=by
 intro k;induction k with
 | zero=>
  intro M id I a V;have e:=RK.1 a;rw[e]at V ⊢;exact⟨V.lv,λp x=>V.kt p x σ,V.act,V.Bw,V.zw,V.ok⟩
 | succ k h=>
  intro M id I a V;cases d:Qy M.T id with
  | none=>rw[Te I.tree d]at a;cases a
  | some c=>
   obtain⟨n,b,rfl⟩:=I.Uu d;have e:=Vu I.tree d;rw[e]at a V ⊢;obtain⟨j,f,_⟩:=PL M id;have g:=V.step I b;have i:=tX I b (V.ok _ _ b);show Inv (Wg (VJ M id) (up M.T n.c.parent));rw[<- f]at g ⊢;exact h n.c.parent i (by rw[f];simpa using a) g
def Eo{d:Type}{a:Nd->d}{N c:List Nd}{b:Int}(e:(Qk c b).map a=(Qk N b).map a){n:Nd}(h:Qk N b=some n):∃m,Qk c b=some m/\a m=a n:=by
 rw[h]at e;exact X3.1 e
def y9(n:Nd):Qm × Nat × Nat:=(n.c,n.sh.time,n.cp.fit)
def Ia(n:Nd):Qm × Bool × Nat × Nat:=(n.c,n.q.l.isEmpty,n.du.YC,n.du.dead)
def Aa(n:Nd):Qm × Bool:=(n.c,n.q.l.isEmpty)
def Rc{l:List Pk}:l≠[]↔l.isEmpty=false:=by cases l<;>simp
def CU.to{M c:Qo}{x:It}(h:(Qk c.N x.ki).map Ia=(Qk M.N x.ki).map Ia):CU M x->CU c x:=λ⟨n,j,i,g,f,e⟩=>by
 obtain⟨m,d,a⟩:=Eo h j;simp only[Ia,Ze]at a;obtain⟨b,o,l,k⟩:=a;exact⟨m,d,by rw[b];exact i,Rc.2 (by rw[o];exact Rc.1 g),by rw[b];exact f,by rw[l,k];exact e⟩
def El.of{M a:Qo}(V:El M)(c:a.Lv=M.Lv)(b:∀id,(Qk a.N id).map Ia=(Qk M.N id).map Ia):El a:=λx=>by
 rw[c,V x];exact⟨CU.to (b _),CU.to (b _).symm⟩
def El.at_{M a:Qo}(V:El M){id}{m}(h:Qk a.N id=some m)(g:∀j,j≠id->(Qk a.N j).map Ia=(Qk M.N j).map Ia)
  (i:∀y:It,y.ki≠id->(y∈a.Lv↔y∈M.Lv)) (k:∀y:It,y.ki=id->(y∈a.Lv↔(m.c.leaf=true/\m.q.l≠[]/\1<QJ m.c.rt/\y=⟨m.du.YC,id,m.du.dead,id⟩))):El a:=λx=>by
 by_cases e:x.ki=id
 .rw[k x e];unfold CU;rw[e,h];constructor
  .rintro⟨f,d,c,b⟩;exact⟨m,rfl,f,d,c,b⟩
  .rintro⟨n,l,f,d,c,b⟩;cases l;exact⟨f,d,c,b⟩
 .rw[i x e,V x];exact⟨CU.to (g _ e),CU.to (g _ e).symm⟩
def H4.at_{M d:Qo}(V:H4 M){id}{m}(q:Qk d.N id=some m)(k:∀j,j≠id->(Qk d.N j).map Aa=(Qk M.N j).map Aa)
  (s:∀j,j≠id->(j∈d.A↔j∈M.A)) (r:id∈d.A↔(m.c.leaf=true/\m.q.l≠[]/\1<QJ m.c.ls)):H4 d:=λj=>by
 by_cases e:j=id
 .subst e;rw[r,q];constructor
  .rintro⟨c,b,a⟩;exact⟨m,rfl,c,b,a⟩
  .rintro⟨g,u,c,b,a⟩;cases u;exact⟨c,b,a⟩
 .rw[s j e,V j];have l:∀{N f:List Nd},(Qk f j).map Aa=(Qk N j).map Aa->(∃n,Qk N j=some n/\n.c.leaf=true/\n.q.l≠[]/\1<QJ n.c.ls)->∃n,Qk f j=some n/\n.c.leaf=true/\n.q.l≠[]/\1<QJ n.c.ls:=λ{N f} h ⟨n,c,b,a,t⟩=>by
   obtain⟨g,p,i⟩:=Eo h c;simp only[Aa,Ze]at i;obtain⟨o,v⟩:=i;exact⟨g,p,by rw[o];exact b,Rc.2 (by rw[v];exact Rc.1 a),by rw[o];exact t⟩
  exact⟨l (k _ e),l (k _ e).symm⟩
def H4.of{M b:Qo}(V:H4 M)(k:b.A=M.A)(d:∀id,(Qk b.N id).map Aa=(Qk M.N id).map Aa):H4 b:=λj=>by
 rw[k,V j];have e:∀{N a:List Nd},(Qk a j).map Aa=(Qk N j).map Aa->(∃n,Qk N j=some n/\n.c.leaf=true/\n.q.l≠[]/\1<QJ n.c.ls)->∃n,Qk a j=some n/\n.c.leaf=true/\n.q.l≠[]/\1<QJ n.c.ls:=λ{N a} h ⟨n,p,o,m,l⟩=>by
  obtain⟨g,i,c⟩:=Eo h p;simp only[Aa,Ze]at c;obtain⟨f,q⟩:=c;exact⟨g,i,by rw[f];exact o,Rc.2 (by rw[q];exact Rc.1 m),by rw[f];exact l⟩
 exact⟨e (d _),e (d _).symm⟩
def Qae{M a:Qo}{j}{n m}(e:y9 m=y9 n)(b:Kg a j=Kg M j)(c:a.KT j=M.KT j):W5 a j m=W5 M j n:=by
 simp only[y9,Ze]at e;unfold W5;rw[b,c,e.1,e.2.2]
def zq.to{M a:Qo}{p}{x:It}(h:(Qk a.N x.ki).map y9=(Qk M.N x.ki).map y9)(c:Kg a x.ki=Kg M x.ki)(f:a.KT x.ki=M.KT x.ki):zq M p x->zq a p x:=λ⟨n,k,j,i,g⟩=>by
 obtain⟨m,d,b⟩:=Eo h k;have e:=Qae b c f;simp only[y9,Ze]at b;obtain⟨o,l,q⟩:=b;exact⟨m,d,by rw[o];exact j,by rw[c];exact i,by rw[e,l];exact g⟩
def Ra.part{M a:Qo}(V:Ra M){U:List Int}(b:a.KT=M.KT)(c:∀j,j ∉ U->Kg a j=Kg M j)(d:∀j,j ∉ U->(Qk a.N j).map y9=(Qk M.N j).map y9):
  ∀p x,x.ki ∉ U->(x∈a.KT p↔zq a p x):=λp x hx=>by
 rw[b,V p x];exact⟨zq.to (d _ hx) (c _ hx) (by rw[b]),zq.to (d _ hx).symm (c _ hx).symm (by rw[b])⟩
def Ra.of{M a:Qo}(V:Ra M)(b:a.KT=M.KT)(c:∀j,Kg a j=Kg M j)(d:∀j,(Qk a.N j).map y9=(Qk M.N j).map y9):Ra a:=λp x=>by
 rw[b,V p x];exact⟨zq.to (d _) (c _) (by rw[b]),zq.to (d _).symm (c _).symm (by rw[b])⟩
def Qaf(n:Nd):Qm × Bool × Du × Sh × Cp:=(n.c,n.q.l.isEmpty,n.du,n.sh,n.cp)
def Ib{g d:Type}{a}(f:g->d){N c}{b:Int}(e:(Qk c b).map a=(Qk N b).map a):(Qk c b).map (λn=>f (a n))=(Qk N b).map λn=>f (a n):=by
 have:=congrArg (Option.map f) e;rwa [RS,RS]at this
def Inv.num{M a:Qo}(V:Inv M)(c:a.Lv=M.Lv)(d:a.KT=M.KT)(h:a.T=M.T)(e:a.A=M.A)(b:∀id,(Qk a.N id).map Qaf=(Qk M.N id).map Qaf)(f:Em a)(g:Wb a):Inv a:=
 ⟨V.lv.of c λid=>Ib (λk=>(k.1,k.2.1,k.2.2.1.YC,k.2.2.1.dead)) (b id),V.kt.of d (λj=>by unfold Kg;rw[h,e]) λid=>Ib (λk=>(k.1,k.2.2.2.1.time,k.2.2.2.2.fit)) (b id),V.act.of e λid=>Ib (λk=>(k.1,k.2.1)) (b id),f,⟨by rw[c];exact V.zw.1,λp=>by rw[d];exact V.zw.2 p⟩,g⟩
def Inv.told{M}(V:Inv M)(a):Inv (ZV M a):=by
 unfold ZV;split
 .exact⟨V.lv,V.kt,V.act,V.Bw,V.zw,V.ok⟩
 .exact V
def Inv.acc{M}(V:Inv M)(a):Inv (kF M a):=⟨V.lv,V.kt,V.act,V.Bw,V.zw,V.ok⟩
def Ab{b:Type}{key:Nd->b}{step:Qo->Int->Qo}(a:∀M j id,(Qk (step M j).N id).map key=(Qk M.N id).map key):∀(l:List Int) (M:Qo) (id:Int),(Qk (l.foldl step M).N id).map key=(Qk M.N id).map key
 | [],M,id=>rfl
 | j::l,M,id=>(Ab a l (step M j) id).trans (a M j id)
def lj{a}(b:∀M j id,id≠j->Qk (a M j).N id=Qk M.N id):∀(l:List Int) (M:Qo) (id:Int),id ∉ l->Qk (l.foldl a M).N id=Qk M.N id
 | [],M,id,_=>rfl
 | j::l,M,id,h=>by
  rw[QF,qP]at h;exact(lj b l (a M j) id h.2).trans (b M j id h.1)
def Qag{c:Type}{a:Nd->c}{N:List Nd}{j:Int}{f:Nd->Nd}(e:∀n,(f n).c=n.c)(d:∀n,a (f n)=a n)(b:Int):(Qk (Ve N j f) b).map a=(Qk N b).map a:=by
 rw[kB (λn=>by rw[e])];split
 .rw[RS];congr 1;funext n;exact d n
 .rfl
def Qah{N}{j}{f}(b:∀n,(f n).c=n.c)(a)(h:a≠j):Qk (Ve N j f) a=Qk N a:=by
 rw[kB (λn=>by rw[b]),Qd h]
def Ic{N}{j}{f}(d:∀n,(f n).c=n.c)(c:∀n,Qk N j=some n->n.Ok->(f n).Ok)(h:∀id n,Qk N id=some n->n.Ok):∀id n,Qk (Ve N j f) id=some n->n.Ok:=λid n a=>by
 rw[kB (λn=>by rw[d])]at a;split at a
 .rename_i e;subst e;obtain⟨m,b,rfl⟩:=X3.1 a;exact c m b (h _ _ b)
 .exact h _ _ a
def QjS{M b:Qo}(V:Em M)(e:∀id,(Qk b.N id).map (λn=>(n.c,n.q))=(Qk M.N id).map λn=>(n.c,n.q)):Em b:=λid n c d=>by
 obtain⟨m,f,a⟩:=Eo (e id).symm c;have h:m.c=n.c:=congrArg Prod.fst a;have g:m.q=n.q:=congrArg Prod.snd a;rw[<- g];exact V id m f (by rw[h];exact d)
def MV(M:Qo)(a:Int)(x:Pk)(j:Int):Qk (KY M a x).N j=if j=a then (Qk M.N j).map (λm=>{ m with q:=Yh (QD M a).c.ZR (QD M a).c.bytes (QD M a).q x }) else Qk M.N j:=
 kB (f:=λm:Nd=>{ m with q:=Yh (QD M a).c.ZR (QD M a).c.bytes (QD M a).q x }) (λ_=>rfl) j
def QjT{p b}{q:Qu}{x:Pk}(h:vI p b q x=false):(Yh p b q x).l=q.l++[x]:=by
 unfold Yh;rw[Qd (by rw[h];exact BF)]
def Qai{M}(V:Wb M)(a)(x):Wb (KY M a x):=
 Ic (f:=λm:Nd=>{ m with q:=Yh (QD M a).c.ZR (QD M a).c.bytes (QD M a).q x }) (λ_=>rfl) (λn _ h=>⟨h.Z7,h.du,h.sh,h.cp,h.c⟩) V
def QAP{M:Qo}(V:Em M){c}{n:Nd}(d:Qk M.N c=some n)(f:n.c.leaf=true)(x):Em (KY M c x):=λj m a b=>by
 rw[MV]at a;split at a
 .rename_i e;subst e;rw[d]at a;cases a;rw[f]at b;cases b
 .exact V j m a b
def Inv.push{M:Qo}(V:Inv M){a}{n:Nd}(b:Qk M.N a=some n)(d:n.c.leaf=true)(x)(h:vI n.c.ZR n.c.bytes n.q x=true\/n.q.l≠[]):Inv (KY M a x):=by
 refine V.num rfl rfl rfl rfl (λj=>?_) (QAP V.Bw b d x) (Qai V.ok a x);have f:QD M a=n:=by unfold QD;rw[b];rfl
 rw[MV,f];split
 .rename_i e;subst e;rw[b];have e:(Yh n.c.ZR n.c.bytes n.q x).l.isEmpty=n.q.l.isEmpty:=by
   unfold Yh;rcases h with h|h
   .rw[Qe h]
   .split
    .rfl
    .cases c:n.q.l with
     | nil=>exact absurd c h
     | cons y l=>simp
  simp only[K6,Qaf];rw[e]
 .rfl
def Qaj(M:Qo)(c)(b:Int)(a:Int)(j:Int):Qk (VW M c b a).N j=if j=b/\1<QJ (QD M b).c.rt then (Qk M.N j).map (λn=>{ n with du:=kh (QD M b).du (Ka (QD M b).c.rt) c a }) else Qk M.N j:=by
 unfold VW;by_cases h:1<QJ (QD M b).c.rt
 .rw[Qe h];dsimp only;rw[kB (f:=λn:Nd=>{ n with du:=kh (QD M b).du (Ka (QD M b).c.rt) c a }) (λ_=>rfl)];simp[h]
 .rw[Qd h,Qd (λe=>h e.2)]
def QjU(b:Nat){d:Type}{a:Nd->d}(e:∀M n,a (CN M b n)=a n)(M:Qo)(j c:Int):(Qk (W6 b M j).N c).map a=(Qk M.N c).map a:=
 Qag (f:=CN M b) (λ_=>rfl) (e M) c
def QjV(a):∀(l:List Int) (M:Qo),(l.foldl (W6 a) M).Lv=M.Lv
 | [],M=>rfl
 | j::l,M=>QjV a l (W6 a M j)
def Inv.Qak{M g:Qo}(P:Qz g)(V:Inv M){b}{n q:Nd}(L:Qk M.N b=some n)(F:Qk g.N b=some q)(hl:n.c.leaf=true)(sF:n.q.l=[])(hq:q.q.l≠[])(xv:(q.c,q.du,q.sh,q.cp)=(n.c,n.du,n.sh,n.cp))
  (AF:∀j,j≠b->Qk g.N j=Qk M.N j) (hL:g.Lv=M.Lv) (hK:g.KT=M.KT) (hT:g.T=M.T) (O:g.A=M.A) (Z:Wb g) (c:Nat) (WI:c<18446744073709551616) (o:Int):Inv (Ym g c b o):=by
 simp only[Ze]at xv;obtain⟨z,ed,es,ep⟩:=xv;have Jb:QD g b=q:=by unfold QD;rw[F];rfl
 have ZI:q.c.leaf=true:=by rw[z];exact hl
 have Jc:b ∉ M.A:=λh=>by
  obtain⟨m,s,_,h3,_⟩:=(V.act b).1 h;rw[L]at s;cases s;exact h3 sF
 have a0:∀y∈M.Lv,y.ki≠b:=λy v e=>by
  obtain⟨m,s,_,h3,_⟩:=(V.lv y).1 v;rw[e,L]at s;cases s;exact h3 sF
 obtain⟨r,K⟩:∃r,r=VW g c b o:=⟨_,rfl⟩;have I2:Qz r:=by rw[K];exact P.VW F c o
 obtain⟨B,W,J,w4⟩:=MM (M:=g) (now:=c) (id:=b) (head:=o);rw[<- K]at B W J w4;have hF:∀j,Qk r.N j=if j=b/\1<QJ q.c.rt then (Qk g.N j).map (λn=>{ n with du:=kh q.du (Ka q.c.rt) c o }) else Qk g.N j:=λj=>by
  rw[K,Qaj,Jb]
 have E:∀j,j≠b->Qk r.N j=Qk M.N j:=λj d=>by rw[hF,Qd (λe=>d e.1),AF j d]
 have U3:r.Lv=if 1<QJ q.c.rt then YB b (kh q.du (Ka q.c.rt) c o).YC (kh q.du (Ka q.c.rt) c o).dead M.Lv else M.Lv:=by
  rw[K];unfold VW;rw[Jb];split
  .dsimp only;rw[hL]
  .exact hL
 obtain⟨m,N,H,MW,a1,a2,gU⟩:∃m,Qk r.N b=some m/\m.c=n.c/\m.q=q.q/\m.sh=n.sh/\m.cp=n.cp/\(1<QJ q.c.rt->m.du=kh q.du (Ka q.c.rt) c o):=by
  rw[hF,F];by_cases h:1<QJ q.c.rt
  .rw[Qe ⟨rfl,h⟩];exact⟨_,rfl,z,rfl,es,ep,λ_=>rfl⟩
  .rw[Qd (λe=>h e.2)];exact⟨_,rfl,z,rfl,es,ep,λe=>absurd e h⟩
 have Bv:El r:=V.lv.at_ N (λj d=>by rw[E j d]) (λy v=>by
   rw[U3];split
   .rw[H9];exact⟨λh=>h.elim (λe=>absurd (congrArg It.ki e) v) (·.1),λh=>.inr ⟨h,v⟩⟩
   .exact Iff.rfl) λy v=>by
   rw[U3,H,MW];by_cases h:1<QJ q.c.rt
   .rw[Qe h,H9,gU h];rw[<- z];exact⟨λe=>e.elim (λe=>⟨ZI,hq,h,e⟩) λe=>absurd v e.2,λe=>.inl e.2.2.2⟩
   .rw[Qd h];rw[<- z];exact⟨λe=>absurd v (a0 y e),λe=>absurd e.2.2.1 h⟩
 have ZG:∀j,(Qk r.N j).map y9=(Qk M.N j).map y9:=λj=>by
  by_cases e:j=b
  .subst e;rw[N,L];simp only[K6,y9,H,a1,a2]
  .rw[E j e]
 have T:Em r:=λj k d Ek=>by
  by_cases e:j=b
  .subst e;rw[N]at d;cases d;rw[H,hl]at Ek;cases Ek
  .rw[E j e]at d;exact V.Bw j k d Ek
 have S:Wb r:=λj k d=>by
  rw[hF]at d;split at d
  .obtain⟨k0,s,rfl⟩:=X3.1 d;have h2:=Z j k0 s;exact⟨h2.Z7,sx (Z b q F).du (Z b q F).c.2.2.2.1.lt WI o,h2.sh,h2.cp,h2.c⟩
  .exact Z j k d
 have R:Vw r.Lv:=by
  rw[U3];split
  .exact lh V.zw.1
  .exact V.zw.1
 unfold Ym;rw[Jb,<- K];by_cases C:1<QJ q.c.ls
 .rw[Qe C];obtain⟨t,u⟩:∃t,t=(Xs g.T g.A b).foldl (W6 c) { r with A:=b::g.A }:=⟨_,rfl⟩;rw[<- u];obtain⟨t1,t2,t3,t4,t5,t6⟩:=HQ c (Xs g.T g.A b) { r with A:=b::g.A };rw[<- u]at t1 t2 t3 t4 t5 t6;dsimp only at t1 t2 t3;have tL:=QjV c (Xs g.T g.A b) { r with A:=b::g.A };rw[<- u]at tL;have WZ:Qy g.T b=some q.c:=P.some F;have Q:g.T=t.T:=by rw[t1,B]
  have I3:Qz t:=by
   rw[u];refine Qz.Uw _ (I2.act λa w=>?_);rw[B];rcases QF.1 w with rfl|w
   .exact⟨q.c,WZ,ZI,C⟩
   .exact P.Y0 a w
  rw[Q];have AY:∀j,j ∉ up g.T b->j ∉ Xs g.T g.A b:=λj d h=>d (List.takeWhile_subset _ h);have Y:∀j,(Qk t.N j).map (λn=>(n.c,n.q,n.du))=(Qk r.N j).map λn=>(n.c,n.q,n.du):=λj=>by
   rw[u];exact Ab (key:=λn:Nd=>(n.c,n.q,n.du)) (λM j b=>QjU c (λ_ _=>rfl) M j b) _ _ j
  have U4:∀j,j ∉ up g.T b->Qk t.N j=Qk M.N j:=λj d=>by
   have s:Qk t.N j=Qk r.N j:=by
    rw[u];exact lj (λM i b h=>Qah (f:=CN M c) (λ_=>rfl) b h) _ _ j (AY j d)
   rw[s];exact E j λe=>d (by rw[e];exact Ye P.tree WZ)
  have U:∀j,Kg t j=true↔j∈up g.T b\/Kg M j=true:=λj=>by
   unfold Kg;rw[t1,t2,B,O,hT,YS,YS];simp
  refine Part.settle _ b I3 rfl ?_;rw[<- Q];refine⟨?_,?_,λp x hx Gf=>(U _).2 (.inl Gf),?_,?_,⟨by rw[tL];exact R,λp=>by rw[t3,J,hK];exact V.zw.2 p⟩,?_⟩
  .exact Bv.of tL λj=>Ib (λk=>(k.1,k.2.1.l.isEmpty,k.2.2.YC,k.2.2.dead)) (Y j)
  .refine V.kt.part (by rw[t3,J,hK]) (λj d=>?_) λj d=>by rw[U4 j d]
   rw[vX,U];exact⟨λh=>h.resolve_left d,.inr⟩
  .obtain⟨m3,g1,g2⟩:=Eo (Y b) N;simp only[Ze]at g2;obtain⟨g3,g4,g5⟩:=g2;refine V.act.at_ g1 (λj d=>?_) (λj d=>?_) ?_
   .rw[<- E j d];exact Ib (λk=>(k.1,k.2.1.l.isEmpty)) (Y j)
   .rw[t2,O];simp[d]
   .rw[t2,g3,g4,H,MW,<- z];exact⟨λ_=>⟨ZI,hq,C⟩,λ_=>Kx⟩
  .exact QjS T λj=>Ib (λk=>(k.1,k.2.1)) (Y j)
  .rw[u];have:∀(l:List Int) (M:Qo),Qz M->Wb M->Wb (l.foldl (W6 c) M):=by
    intro l;induction l with
    | nil=>intro M _ h;exact h
    | cons j l ih=>
     intro M I h;refine ih _ (I.W6 c j) ?_;exact Ic (f:=CN M c) (λ_=>rfl) (λn _ L=>ud I WI L) h
   refine this _ _ (I2.act λa w=>?_) S;rw[B];rcases QF.1 w with rfl|w
   .exact⟨q.c,WZ,ZI,C⟩
   .exact P.Y0 a w
 .rw[Qd C];refine⟨Bv,V.kt.of (by rw[J,hK]) (λj=>by unfold Kg;rw[B,W,hT,O]) ZG,?_,T,⟨R,λp=>by rw[J,hK];exact V.zw.2 p⟩,S⟩;refine V.act.at_ N (λj d=>by rw[E j d]) (λj d=>by rw[W,O]) ?_;rw[W,O,H,MW,<- z];exact⟨λh=>absurd h Jc,λh=>absurd h.2.2 C⟩
def Qj1{M:Qo}{a}{x:Pk}{n:Nd}(b:Qk M.N a=some n):VY M a x=if n.c.leaf=false then 29 else if x.len<1\/M.lk.JI<x.len then 26 else if 1099511627776<M.acc+x.len.toNat then 28
   else if vI n.c.ZR n.c.bytes n.q x=true then 30 else 0:=by unfold VY;rw[b]
def Qj2{M:Qo}{a}{x}{n:Nd}(b:Qk M.N a=some n)(h:VY M a x=30):n.c.leaf=true/\vI n.c.ZR n.c.bytes n.q x=true:=by
 rw[Qj1 b]at h;split at h
 .cases h
 .rename_i d;split at h
  .cases h
  .split at h
   .cases h
   .split at h
    .rename_i c;exact⟨by simpa using d,c⟩
    .cases h
def Qam{M:Qo}{a}{x:Pk}{n:Nd}(b:Qk M.N a=some n)(h:VY M a x=0):n.c.leaf=true/\vI n.c.ZR n.c.bytes n.q x=false/\1<=x.len/\x.len<=M.lk.JI/\M.acc+x.len.toNat<=1099511627776:=by
 rw[Qj1 b]at h;split at h
 .cases h
 .rename_i d;split at h
  .cases h
  .rename_i f;split at h
   .cases h
   .rename_i e;split at h
    .cases h
    .rename_i c;exact⟨by simpa using d,by simpa using c,ω,ω,ω⟩
def Inv.put{M}(I:Qz M)(V:Inv M)(c)(o:c<18446744073709551616)(a)(x):Inv (Wa M c a x):=by
 unfold Wa;cases b:Qk M.N a with
 | none=>
  have e:VY M a x=23:=by unfold VY;rw[b]
  rw[e,Qd π,Qd π];exact V
 | some n=>
  have k:QD M a=n:=by unfold QD;rw[b];rfl
  by_cases i:VY M a x=30
  .rw[Qe i];obtain⟨f,g⟩:=Qj2 b i;exact V.push b f x (.inl g)
  .rw[Qd i];by_cases h:VY M a x=0
   .rw[Qe h,k];obtain⟨f,g,s,r,m⟩:=Qam b h;by_cases d:n.q.l=[]
    .rw[Qe d];have p:Qk (kF (KY M a x) (M.acc+x.len.toNat)).N a=some { n with q:=Yh n.c.ZR n.c.bytes n.q x }:=by
      show Qk (KY M a x).N a=_;rw[MV,Qe rfl,b,k];rfl
     refine Inv.Qak ((I.KY a x).kF m) V b p f d ?_ rfl (λj l=>?_) rfl rfl rfl rfl (Qai V.ok a x) c o x.len
     .dsimp only;rw[QjT g];simp
     .show Qk (KY M a x).N j=_;rw[MV,Qd l]
    .rw[Qd d];exact(V.push b f x (.inr d)).acc _
   .rw[Qd h];exact V
def Inv.Jg{M}(I:Qz M)(V:Inv M)(a)(c:a<18446744073709551616)(b)(x):Inv (Jg M a b x):=by
 unfold X.Jg;split
 .exact Inv.put (Bq I a) (V.told a) a c b x
 .exact V
end Go.Fg.X
