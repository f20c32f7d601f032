/- Contracts and laws on the way to the statement. No conditions. -/
import Derived.Test.YtpafochnmfelfaaGreatSU3G
import Derived.Sort.LotD5
import Derived.Sort.Walk13a
import Derived.Test.YtpafochnmfelfaaGreatCA5G
import Derived.Test.YtpafochnmfelfaaGreatFgHeapG
set_option maxRecDepth 100000
set_option maxHeartbeats 16000000
set_option linter.unusedVariables false
set_option linter.unusedSimpArgs false
set_option linter.unusedSectionVars false
set_option linter.defProp false
namespace Go.Fg.X
open Go.Proofs Go.Fg
open Go.Proofs.Tryz
def Qev(a):∀(j:Nat) (d:Array Int),(Sort.insInner Qq a j d).size=d.size
 | 0,d=>rfl
 | j+1,d=>by rw[Sort.insInner];split;rw[Qev a j,swp_size];rfl
section
variable {h:List Ob}{lo g:Nat}{d:Array Int}(ho:h[lo]? = some (Za g d))
include ho
theorem Qsw(a b)(Vn:a<=b)(Zp:b<=d.size)(U:d.size<1000000000):
  QI prog 249 h [.ref lo g 0 d.size,Qb a,Qb b] (λR P=>R=.tup []/\P=h.set lo (Za g (Sort.insertionSort Qq d a b))):=by
 have Q:IntKind.i64.wrap ((a:Int)+1)=((a+1:Nat):Int):=Zu;refine QZ func249 ntmps249 results249 λM w T e=>?_;have J:=Qc ho;simp only[go_sem,Qa,ho,J,Q];refine Z4 (λk B=>∃f:Array Int,f.size=d.size/\Sort.insOuter Qq a b (a+1+k) f=Sort.insertionSort Qq d a b/\a+1+k<=b+1/\B=⟨[(0,.ref lo g 0 d.size),(1,Qb a),(2,Qb b),(6,Qb (a+1+k:Nat))],h.set lo (Za g f)⟩) d.size (s0:=⟨[(0,.ref lo g 0 d.size),(1,Qb a),(2,Qb b),(6,Qb (a+1+0:Nat))],h.set lo (Za g d)⟩) ?_ ⟨d,rfl,rfl,ω,rfl⟩ ?_
 .rw[vk ho];exact QN
 rintro k _ W ⟨f,O,t,Z,rfl⟩;have L:=jY (g:=g) (d:=f) J;by_cases c:a+1+k<b
 .have I:decide (a+1+k<b)=true:=Q3 c;apply Qg e;simp only[go_sem,Qa,L,I];refine Z4 (λm B=>∃(d1:Array Int) (j:Nat),d1.size=d.size/\j+m=a+1+k/\Sort.insInner Qq a j d1=Sort.insInner Qq a (a+1+k) f/\a<=j/\B=⟨[(0,.ref lo g 0 d.size),(1,Qb a),(2,Qb b),(6,Qb (a+1+k:Nat)),(7,Qb j)],h.set lo (Za g d1)⟩) (a+1+k) (s0:=⟨[(0,.ref lo g 0 d.size),(1,Qb a),(2,Qb b),(6,Qb (a+1+k:Nat)),(7,Qb (a+1+k:Nat))],h.set lo (Za g f)⟩) QN ⟨f,_,O,rfl,rfl,K9 (Nat.le_succ a) (Nat.le_add_right _ _),rfl⟩ ?_;rintro m _ V ⟨d1,j,i,Y,y,S,rfl⟩;have l:=jY (g:=g) (d:=d1) J;generalize F:h.set lo (Za g d1)=H at l;have p:=Qc l;by_cases v:a<j
  .have o:decide (a<j)=true:=Q3 v;have r:IntKind.i64.wrap ((j:Int) - 1)=((j - 1:Nat):Int):=Zu;have E:j<d.size:=ω;have C:j - 1<d.size:=ω;apply Qg e;simp only[go_sem,Qa,l,p,o,r];apply Qw e [0,1,2,3,4,5,6,7,8,9,10,11,12,1013,14];simp only[go_sem,Qa,l,p,o,r,E,C,i];apply Vc e zV (vj d1[j]! d1[j - 1]!);apply VG e;have n:Sort.insInner Qq a j d1=if Qq d1[j]! d1[j - 1]! then Sort.insInner Qq a (j - 1) (Sort.swp d1 j (j - 1)) else d1:=by
    obtain⟨q,rfl⟩:∃q,j=q+1:=⟨j - 1,ω⟩;rw[Sort.insInner];simp[show q+1 > a from v]
   cases u:Qq d1[j]! d1[j - 1]!
   .rw[u,Qe π]at n;simp only[go_sem,u];apply QC e;have z:IntKind.i64.wrap (((a+1+k:Nat):Int)+1)=((a+1+(k+1):Nat):Int):=Zu;rw[z];have K:Sort.insOuter Qq a b (a+1+(k+1)) d1=Sort.insertionSort Qq d a b:=by
     rw[<- t]
     conv=>rhs;rw[Sort.insOuter,Qf c]
     rw[<- y,n];rfl
    refine⟨ω,_,?_,d1,i,K,ω,rfl⟩;rw[<- F];exact QN
   .rw[u,Qf rfl]at n;simp only[go_sem,u];refine Eu (⟨[(0,.ref lo g 0 d.size),(1,Qb a),(2,Qb b),(6,Qb (a+1+k:Nat)),(7,Qb j)],h.set lo (Za g (Sort.swp d1 j (j - 1)))⟩) J8 e mixed [(0,true),(1,true),(2,true),(3,true),(5,true),(6,true),(7,true),(8,true),(9,true),(10,true),(11,true),(12,true),(13,true),(14,true)] [4,15,16,17] τ τ (λs N=>Bp N rfl ?_) ?_
    rotate_left
    .simp only[go_sem,Qa,l,p,o,r,E,C,i,Qv p,Jn,jf];rw[jg g d1 _ _ _ i E C,<- F,Jn]
     repeat' refine And.intro ?_ ?_
     all_goals exact QN
    apply Qg e;simp only[go_sem,r];refine⟨ω,_,?_,Sort.swp d1 j (j - 1),j - 1,by rw[swp_size,i],ω,by rw[<- n,y],ω,rfl⟩;exact QN
  .have o:decide (a<j)=false:=QS v;have n:Sort.insInner Qq a j d1=d1:=by
    cases j with
    | zero=>rfl
    | succ q=>rw[Sort.insInner];simp[show ¬ q+1 > a from v]
   apply Qg e;simp only[go_sem,Qa,l,p,o];apply Qw e [0,1,2,3,4,5,6,7,8,9,10,11,12,1013,14];simp only[go_sem,Qa,l,p,o,i];apply QC e;have z:IntKind.i64.wrap (((a+1+k:Nat):Int)+1)=((a+1+(k+1):Nat):Int):=Zu;rw[z];have K:Sort.insOuter Qq a b (a+1+(k+1)) d1=Sort.insertionSort Qq d a b:=by
    rw[<- t]
    conv=>rhs;rw[Sort.insOuter,Qf c]
    rw[<- y,n];rfl
   refine⟨ω,_,?_,d1,i,K,ω,rfl⟩;rw[<- F];exact QN
 .have I:decide (a+1+k<b)=false:=QS c;rw[Sort.insOuter,Qe c]at t;apply Qg e;simp only[go_sem,Qa,L,I];exact congrArg (λx=>h.set lo (Za g x)) t
end
def nT(c first):∀(n a:Nat) (d:Array Int),c - a<=n->(Sort.siftDown Qq c first a d).size=d.size
 | n,a,d,e=>by
  rw[Sort.siftDown];split
  .rfl
  .rename_i f;split
   .split
    .rfl
    .split
     .obtain⟨b,rfl⟩:∃b,n=b+1:=⟨n - 1,ω⟩;rw[nT c first b _ _ ω,swp_size]
     .rfl
   .split
    .rfl
    .obtain⟨b,rfl⟩:∃b,n=b+1:=⟨n - 1,ω⟩;rw[nT c first b _ _ ω,swp_size]
section
variable {h:List Ob}{lo g:Nat}{d:Array Int}(ho:h[lo]? = some (Za g d))
include ho
theorem Qew(b first a)(V:first+b<=d.size)(P:a<=d.size)(T:d.size<1000000000):
  QI prog 261 h [.ref lo g 0 d.size,Qb a,Qb b,Qb first] (λR Q=>R=.tup []/\Q=h.set lo (Za g (Sort.siftDown Qq b first a d))):=by
 refine QZ func261 ntmps261 results261 λM w S c=>?_;have L:=Qc ho;simp only[go_sem,Qa,ho,L];refine Z4 (λm O=>∃(d1:Array Int) (r:Nat),d1.size=d.size/\m<=r/\r<=d.size/\Sort.siftDown Qq b first r d1=Sort.siftDown Qq b first a d/\O=⟨[(0,.ref lo g 0 d.size),(2,Qb b),(3,Qb first),(8,Qb r)],h.set lo (Za g d1)⟩) (d.size) (s0:=⟨[(0,.ref lo g 0 d.size),(2,Qb b),(3,Qb first),(8,Qb a)],h.set lo (Za g d)⟩) ?_ ⟨d,a,rfl,KF _,P,rfl,rfl⟩ ?_
 .rw[vk ho];exact QN
 rintro m _ U ⟨d1,r,f,Y,W,e,rfl⟩;have i:=jY (g:=g) (d:=d1) L;generalize q:h.set lo (Za g d1)=H at i;have j:=Qc i;have J:IntKind.i64.wrap (2*(r:Int))=((2*r:Nat):Int):=Zu;have I:IntKind.i64.wrap (((2*r:Nat):Int)+1)=((2*r+1:Nat):Int):=Zu;have y:IntKind.i64.wrap (((2*r+1:Nat):Int)+1)=((2*r+1+1:Nat):Int):=Zu;rw[Sort.siftDown]at e;by_cases v:b<=2*r+1
 .have C:decide (b<=2*r+1)=true:=Q3 v;rw[dif_pos v]at e;apply Qg c;simp only[go_sem,Qa,i,j,J,I,C];exact q.symm.trans (congrArg (λx=>h.set lo (Za g x)) e)
 .have C:decide (b<=2*r+1)=false:=QS v;rw[dif_neg v]at e;have l:first+r<d.size:=ω;have p:first+(2*r+1)<d.size:=ω;have u:IntKind.i64.wrap ((first:Int)+r)=((first+r:Nat):Int):=Zu;have t:IntKind.i64.wrap ((first:Int)+(2*r+1:Nat))=((first+(2*r+1):Nat):Int):=Zu;have F:IntKind.i64.wrap ((first:Int)+(2*r+1+1:Nat))=((first+(2*r+1+1):Nat):Int):=Zu;have E:IntKind.i64.wrap (((first+(2*r+1):Nat):Int)+1)=((first+(2*r+1)+1:Nat):Int):=Zu;apply Qg c;simp only[go_sem,Qa,i,j,J,I,C];first|refine Y3 ?_|skip
  refine A5 [0,2,3,8,9] [(36,QT (decide (2*r+1+1<b)&&Qq d1[first+(2*r+1)]! d1[first+(2*r+1)+1]!))] rfl ?_ ?_
  .by_cases K:2*r+1+1<b
   .have B:decide (2*r+1+1<b)=true:=Q3 K;have o:first+(2*r+1)+1<d.size:=ω;apply Qw c o08;simp only[go_sem,Qa,i,j,f,y,B,t,E,p,o];apply Vc c zV (vj d1[first+(2*r+1)]! d1[first+(2*r+1)+1]!);apply VG c;exact QN
   .have B:decide (2*r+1+1<b)=false:=QS K;apply Qw c o08;simp only[go_sem,Qa,i,j,f,y,B,t,E,p];exact QN
  .cases n:(decide (2*r+1+1<b)&&Qq d1[first+(2*r+1)]! d1[first+(2*r+1)+1]!)
   .rw[n,Qe π]at e;apply Qg c;simp only[go_sem,n];apply Qw c i9;simp only[go_sem,Qa,i,j,f,u,t,l,p];apply Vc c zV (vj d1[first+r]! d1[first+(2*r+1)]!);apply VG c;cases k:Qq d1[first+r]! d1[first+(2*r+1)]!
    .rw[k,GV,Qf rfl]at e;simp only[go_sem,k];exact q.symm.trans (congrArg (λx=>h.set lo (Za g x)) e)
    .rw[k,De,Qe π]at e
     skip
     simp only[go_sem,k];refine Eu (⟨[(0,.ref lo g 0 d.size),(2,Qb b),(3,Qb first),(9,Qb (2*r+1:Nat))],h.set lo (Za g (Sort.swp d1 (first+r) (first+(2*r+1))))⟩) J8 c mixed [(0,true),(1,true),(2,true),(3,true),(4,true),(5,true),(6,true),(8,true),(9,true),(10,true),(11,true),(12,true),(13,true),(14,true),(15,true),(16,true),(17,true),(18,true),(19,true),(20,true)] [7,21,22,23] τ τ (λs z=>Bp z rfl ?_) ?_
     rotate_left
     .simp only[go_sem,Qa,i,j,u,t,l,p,f,Qv j,Jn,jf];rw[jg g d1 _ _ _ f l p,<- q,Jn]
      repeat' refine And.intro ?_ ?_
      all_goals exact QN
     apply Zd c;refine⟨ω,_,?_,Sort.swp d1 (first+r) (first+(2*r+1)),2*r+1,by rw[swp_size,f],ω,ω,e,rfl⟩;exact QN
   .have N:2*r+1+1<b:=by
     rw[ZH]at n;exact Yo n.1
    rw[n,Qf rfl]at e;have o:first+(2*r+1+1)<d.size:=ω;apply Qg c;simp only[go_sem,n,y];apply Qw c i9;simp only[go_sem,Qa,i,j,f,u,F,l,o];apply Vc c zV (vj d1[first+r]! d1[first+(2*r+1+1)]!);apply VG c;cases k:Qq d1[first+r]! d1[first+(2*r+1+1)]!
    .rw[k,GV,Qf rfl]at e;simp only[go_sem,k];exact q.symm.trans (congrArg (λx=>h.set lo (Za g x)) e)
    .rw[k,De,Qe π]at e;rw[dif_pos (show 2*r+2<b from N)]at e;simp only[go_sem,k];refine Eu (⟨[(0,.ref lo g 0 d.size),(2,Qb b),(3,Qb first),(9,Qb (2*r+1+1:Nat))],h.set lo (Za g (Sort.swp d1 (first+r) (first+(2*r+1+1))))⟩) J8 c mixed [(0,true),(1,true),(2,true),(3,true),(4,true),(5,true),(6,true),(8,true),(9,true),(10,true),(11,true),(12,true),(13,true),(14,true),(15,true),(16,true),(17,true),(18,true),(19,true),(20,true)] [7,21,22,23] τ τ (λs z=>Bp z rfl ?_) ?_
     rotate_left
     .simp only[go_sem,Qa,i,j,u,F,l,o,f,Qv j,Jn,jf];rw[jg g d1 _ _ _ f l o,<- q,Jn]
      repeat' refine And.intro ?_ ?_
      all_goals exact QN
     apply Zd c;refine⟨ω,_,?_,Sort.swp d1 (first+r) (first+(2*r+1+1)),2*r+1+1,by rw[swp_size,f],ω,ω,e,rfl⟩;exact QN
end
def cM(b first a)(d:Array Int):(Sort.siftDown Qq b first a d).size=d.size:=nT b first _ a d (QB _)
def Qex(a first):∀(k:Nat) (d:Array Int),(Sort.heapBuild Qq a first k d).size=d.size
 | 0,d=>rfl
 | k+1,d=>by rw[Sort.heapBuild,Qex a first k,cM]
def Qey(n:Nat):decide ((0:Int)<=(n:Int))=true:=Q3 (Int.natCast_nonneg n)
section
variable {h:List Ob}{lo g:Nat}{d:Array Int}(ho:h[lo]? = some (Za g d))
include ho
theorem Qsx(a b)(Y:a<b)(V:b<=d.size)(R:d.size<1000000000):
  QI prog 250 h [.ref lo g 0 d.size,Qb a,Qb b] (λO K=>O=.tup []/\K=h.set lo (Za g (Sort.heapSort Qq d a b))):=by
 have N:IntKind.i64.wrap ((b:Int) - a)=((b - a:Nat):Int):=Zu;have t:IntKind.i64.wrap (((b - a:Nat):Int) - 1)=((b - a - 1:Nat):Int):=Zu;have M:((b - a - 1:Nat):Int).tdiv 2=(((b - a - 1) / 2:Nat):Int):=rfl;have L:IntKind.i64.wrap ((((b - a - 1) / 2:Nat):Int))=(((b - a - 1) / 2:Nat):Int):=by rw[wrap64 ω ω]
 have P:((0:Nat):Int)=0:=rfl;refine QZ func250 ntmps250 results250 λF w Q c=>?_;have j:=Qc ho;simp only[go_sem,Qa,ho,j,N,t,M,L];unfold Sort.heapSort;refine Z4 (λm p=>∃(d1:Array Int) (k:Nat),d1.size=d.size/\k+m=(b - a - 1) / 2+1/\Sort.heapBuild Qq (b - a) a k d1=Sort.heapBuild Qq (b - a) a ((b - a - 1) / 2+1) d/\p=⟨[(0,.ref lo g 0 d.size),(6,Qb a),(7,Qb 0),(8,Qb (b - a:Nat)),(9,Qb ((k:Int) - 1))],h.set lo (Za g d1)⟩) ((b - a - 1) / 2+1) (s0:=⟨[(0,.ref lo g 0 d.size),(6,Qb a),(7,Qb 0),(8,Qb (b - a:Nat)),(9,Qb ((((b - a - 1) / 2+1:Nat):Int) - 1))],h.set lo (Za g d)⟩) ?_ ⟨d,_,rfl,rfl,rfl,rfl⟩ ?_
 .rw[vk ho,show ((((b - a - 1) / 2+1:Nat):Int) - 1)=(((b - a - 1) / 2:Nat):Int) by omega];exact QN
 rintro m _ T ⟨d1,k,u,U,i,rfl⟩;have v:=jY (g:=g) (d:=d1) j;rcases k with _|k
 .rw[Sort.heapBuild]at i;apply Qg c;simp only[go_sem,Qa,v,show ((0:Nat):Int) - 1=-1 from rfl,show decide ((0:Int)<=-1)=false from rfl,t];apply Qg c;simp only[go_sem,Qa,t];rw[<- i];refine Z4 (λm p=>∃(d2:Array Int) (k:Nat),d2.size=d.size/\k+m=b - a/\Sort.heapPop Qq a k d2=Sort.heapPop Qq a (b - a) d1/\p=⟨[(0,.ref lo g 0 d.size),(6,Qb a),(7,Qb 0),(10,Qb ((k:Int) - 1))],h.set lo (Za g d2)⟩) (b - a) (s0:=⟨[(0,.ref lo g 0 d.size),(6,Qb a),(7,Qb 0),(10,Qb (((b - a:Nat):Int) - 1))],h.set lo (Za g d1)⟩) ?_ ⟨d1,_,u,rfl,rfl,rfl⟩ ?_
  .rw[show (((b - a:Nat):Int) - 1)=((b - a - 1:Nat):Int) by omega];exact QN
  rintro n _ S ⟨d2,k,y,W,l,rfl⟩;have f:=jY (g:=g) (d:=d2) j;generalize C:h.set lo (Za g d2)=H at f;have q:=Qc f;rcases k with _|k
  .rw[Sort.heapPop]at l;apply Qg c;simp only[go_sem,Qa,f,show ((0:Nat):Int) - 1=-1 from rfl,show decide ((0:Int)<=-1)=false from rfl];exact C.symm.trans (congrArg (λx=>h.set lo (Za g x)) l)
  .rw[Sort.heapPop]at l;have o:(((k+1:Nat):Int) - 1)=(k:Int):=ω;have I:IntKind.i64.wrap ((a:Int)+k)=((a+k:Nat):Int):=Zu;have e:IntKind.i64.wrap ((k:Int) - 1)=(k:Int) - 1:=wrap64 ω ω;have B:a<d.size:=ω;have z:a+k<d.size:=ω;apply Qg c;simp only[go_sem,Qa,f,q,o,Qey];refine Eu (⟨[(0,.ref lo g 0 d.size),(6,Qb a),(7,Qb 0),(10,Qb k)],h.set lo (Za g (Sort.swp d2 a (a+k)))⟩) J8 c mixed [(0,true),(1,true),(2,true),(3,true),(4,true),(6,true),(7,true),(8,true),(9,true),(10,true),(11,true),(12,true),(13,true),(14,true),(15,true),(16,true)] [5,17,18,19] τ τ (λs J=>Bp J rfl ?_) ?_
   rotate_left
   .simp only[go_sem,Qa,f,q,I,B,z,y,Qv q,Jn,jf];rw[jg g d2 _ _ _ y B z,<- C,Jn]
    repeat' refine And.intro ?_ ?_
    all_goals exact QN
   apply Zd c;have E:(Sort.swp d2 a (a+k)).size=d.size:=by rw[swp_size,y]
   refine Vo c QcE rfl ?_ (E▸Qew (jY (g:=g) (d:=Sort.swp d2 a (a+k)) j) k a 0 ω ω ω) rfl λd h r=>?_
   .simp only[go_sem,Jn,e]
   obtain⟨rfl,rfl⟩:=r;apply Qg c;simp only[go_sem,Jn,e];refine⟨ω,_,?_,Sort.siftDown Qq k a 0 (Sort.swp d2 a (a+k)),k,by rw[cM,E],ω,l,rfl⟩;exact QN
 .rw[Sort.heapBuild]at i;have o:(((k+1:Nat):Int) - 1)=(k:Int):=ω;have e:IntKind.i64.wrap ((k:Int) - 1)=(k:Int) - 1:=wrap64 ω ω;apply Qg c;simp only[go_sem,Qa,v,o,Qey];refine Vo c QcE rfl ?_ (u▸Qew v (b - a) a k ω ω ω) rfl λd h r=>?_
  .simp only[go_sem,Jn,e]
  obtain⟨rfl,rfl⟩:=r;apply Qg c;simp only[go_sem,Jn,e];refine⟨ω,_,?_,Sort.siftDown Qq (b - a) a k d1,k,by rw[cM,u],ω,i,rfl⟩;exact QN
end
def nW(p)(d:Array Int)(i j)(a:0<i):Sort.scanDown p d i j=if i<=j&&p d[j]! then Sort.scanDown p d i (j - 1) else j:=by
 cases j with
 | zero=>
  rw[Sort.scanDown,Qe];simp;omega
 | succ j=>rw[Sort.scanDown];rfl
def cO(p q:Int->Bool)(f:∀x,q x=!p x)(d:Array Int)(i j:Nat)(r:0<i)(s:i<=j+1)(h:¬ Sort.scanUp p d j i > Sort.scanDown q d (Sort.scanUp p d j i) j):
  Sort.scanUp p d j i<Sort.scanDown q d (Sort.scanUp p d j i) j:=by
 obtain⟨o,n,m,c⟩:=Sort.scanUp_spec p d j _ i rfl;obtain⟨l,k,g,b⟩:=Sort.scanDown_spec q d (Sort.scanUp p d j i) j;rcases Ar (Sort.scanUp p d j i) (Sort.scanDown q d (Sort.scanUp p d j i) j) with a|a
 .exact a
 .have e:Sort.scanUp p d j i=Sort.scanDown q d (Sort.scanUp p d j i) j:=ω;have f1:=c ω;have f2:=b ω ω;rw[f,<- e,f1]at f2;cases f2
def Qez(a):∀(n i j:Nat) (d:Array Int),j+1 - i<=n->(Sort.partEqLoop Qq a i j d).2.size=d.size
 | n,i,j,d,c=>by
  rw[Sort.partEqLoop_eq];split
  .rfl
  .rename_i h;have:=Sort.partEqLoop_guard Qq a i j d h;obtain⟨b,rfl⟩:∃b,n=b+1:=⟨n - 1,ω⟩;rw[Qez a b _ _ _ ω,swp_size]
def QeA(a):∀(n i j:Nat) (d:Array Int),j+1 - i<=n->(Sort.partLoop Qq a i j d).2.size=d.size
 | n,i,j,d,c=>by
  rw[Sort.partLoop_eq];split
  .rfl
  .rename_i h;have:=Sort.partLoop_guard Qq a i j d h;obtain⟨b,rfl⟩:∃b,n=b+1:=⟨n - 1,ω⟩;rw[QeA a b _ _ _ ω,swp_size]
section
variable {h:List Ob}{lo g:Nat}{d:Array Int}(ho:h[lo]? = some (Za g d))
include ho
theorem Qsy(a b n)(Vn:a<b)(Zp:b<=d.size)(hp:a<=n)(gY:n<b)(hz:d.size<1000000000):
  QI prog 255 h [.ref lo g 0 d.size,Qb a,Qb b,Qb n] (λdd Y=>dd=Qb (Sort.partitionEqual Qq d a b n).1/\Y=h.set lo (Za g (Sort.partitionEqual Qq d a b n).2)):=by
 have e0:IntKind.i64.wrap ((a:Int)+1)=((a+1:Nat):Int):=Zu;have e1:IntKind.i64.wrap ((b:Int) - 1)=((b - 1:Nat):Int):=Zu;have q:a<d.size:=ω;have N:n<d.size:=ω;have a5:d.size=d.size:=rfl;refine QZ func255 ntmps255 results255 λQ w pl f=>?_;have y:=Qc ho;simp only[go_sem,Qa,ho,y];apply Qw f ii;simp only[go_sem,Qa,ho,y,q,N,Qv y,Jn,jf];rw[jg g d _ _ _ rfl q N];apply Qg f;simp only[go_sem,e0,e1];unfold Sort.partitionEqual;refine Z4 (λm r=>∃(d1:Array Int) (i j:Nat),d1.size=d.size/\a<i/\i<=j+1/\j<b/\m+(j+1 - i)<=b/\Sort.partEqLoop Qq a i j d1=Sort.partEqLoop Qq a (a+1) (b - 1) (Sort.swp d a n)/\r=⟨[(0,.ref lo g 0 d.size),(1,Qb a),(9,Qb i),(10,Qb j)],h.set lo (Za g d1)⟩) b (s0:=⟨[(0,.ref lo g 0 d.size),(1,Qb a),(9,Qb (a+1:Nat)),(10,Qb (b - 1:Nat))],h.set lo (Za g (Sort.swp d a n))⟩) QN ⟨_,a+1,b - 1,swp_size d a n,ω,ω,ω,ω,rfl,rfl⟩ ?_;rintro m _ hm ⟨d1,i,j,p,Nt,P,a7,MD,t,rfl⟩;have l:=jY (g:=g) (d:=d1) y;generalize O:h.set lo (Za g d1)=H at l;have o:=Qc l;rw[Sort.partEqLoop_eq]at t;have Et:=cO (λx=>!Qq d1[a]! x) (λx=>Qq d1[a]! x) (λx=>σ) d1 i j ω P;obtain⟨u1,V,u3,u4⟩:=Sort.scanUp_spec (λx=>!Qq d1[a]! x) d1 j _ i rfl;have U:=V P;generalize YY:Sort.scanUp (λx=>!Qq d1[a]! x) d1 j i=z at *;obtain⟨w1,R,w3,w4⟩:=Sort.scanDown_spec (λx=>Qq d1[a]! x) d1 z j;have w5:=R U;generalize VO:Sort.scanDown (λx=>Qq d1[a]! x) d1 z j=W at *;apply QC f;refine Z4 (λm r=>∃c:Nat,c=i+m/\c<=j+1/\Sort.scanUp (λx=>!Qq d1[a]! x) d1 j c=z/\r=⟨[(0,.ref lo g 0 d.size),(1,Qb a),(9,Qb c),(10,Qb j)],H⟩) d.size (s0:=⟨[(0,.ref lo g 0 d.size),(1,Qb a),(9,Qb i),(10,Qb j)],H⟩) QN ⟨i,rfl,ω,YY,rfl⟩ ?_;rintro ma _ a6 ⟨c,a4,a3,u,rfl⟩;have ga:c<=j->c<d.size:=ω;rw[Sort.scanUp]at u;apply Qg f;simp only[go_sem,Qa,l,o];first|refine Y3 ?_|skip
 refine A5 [0,1,9,10] [(43,QT (decide (c<=j)&&!Qq d1[a]! d1[c]!))] rfl ?_ ?_
 .by_cases I:c<=j
  .have E:decide (c<=j)=true:=Q3 I;have K:=ga I;apply Qw f Id;simp only[go_sem,Qa,l,o,p,E,q,K];apply Vc f zV (vj d1[a]! d1[c]!);apply VG f;exact QN
  .have E:decide (c<=j)=false:=QS I;apply Qw f Id;simp only[go_sem,Qa,l,o,p,E,q];exact QN
 cases k:(decide (c<=j)&&!Qq d1[a]! d1[c]!)
 .rw[k,Qe π]at u;apply Qg f;simp only[go_sem,Qa,k];subst u;apply QC f;refine Z4 (λm r=>∃e:Nat,e+m=j/\c<=e+1/\Sort.scanDown (λx=>Qq d1[a]! x) d1 c e=W/\r=⟨[(0,.ref lo g 0 d.size),(1,Qb a),(9,Qb c),(10,Qb e)],H⟩) d.size (s0:=⟨[(0,.ref lo g 0 d.size),(1,Qb a),(9,Qb c),(10,Qb j)],H⟩) QN ⟨j,rfl,ω,VO,rfl⟩ ?_;rintro mb _ Cs ⟨e,BX,a2,v,rfl⟩;have Z:c<=e->e<d.size:=ω;rw[nW _ _ _ _ ω]at v;apply Qg f;simp only[go_sem,Qa,l,o];first|refine Y3 ?_|skip
  refine A5 [0,1,9,10] [(59,QT (decide (c<=e)&&Qq d1[a]! d1[e]!))] rfl ?_ ?_
  .by_cases F:c<=e
   .have C:decide (c<=e)=true:=Q3 F;have J:=Z F;apply Qw f i9;simp only[go_sem,Qa,l,o,p,C,q,J];apply Vc f zV (vj d1[a]! d1[e]!);apply VG f;exact QN
   .have C:decide (c<=e)=false:=QS F;apply Qw f i9;simp only[go_sem,Qa,l,o,p,C,q];exact QN
  cases k:(decide (c<=e)&&Qq d1[a]! d1[e]!)
  .rw[k,Qe π]at v;apply Qg f;simp only[go_sem,Qa,k];have Ct:IntKind.i64.wrap ((c:Int)+1)=((c+1:Nat):Int):=Zu;subst v;by_cases s:e<c
   .have B:decide (e<c)=true:=Q3 s;rw[Qf s]at t;apply Qg f;simp only[go_sem,Qa,B];apply QC f;rw[<- t,<- O];first|exact⟨rfl,rfl⟩|rfl
   .have B:decide (e<c)=false:=QS s;have a8:=Et s;have M:c<d.size:=ω;have L:e<d.size:=ω;have RD:IntKind.i64.wrap ((e:Int) - 1)=((e - 1:Nat):Int):=Zu;rw[Qe s]at t;apply Qg f;simp only[go_sem,Qa,B];apply Qw f ii;simp only[go_sem,Qa,l,o,p,M,L,Qv o,Jn,jf,Ct,RD];rw[jg g d1 _ _ _ p M L];refine⟨ω,_,?_,Sort.swp d1 c e,c+1,e - 1,by rw[swp_size,p],ω,ω,ω,ω,t,rfl⟩;rw[<- O,Jn];exact QN
  .rw[k,Qf rfl]at v;have a0:c<=e:=by
    rw[ZH]at k;exact Yo k.1
   have S:IntKind.i64.wrap ((e:Int) - 1)=((e - 1:Nat):Int):=Zu;apply Qg f;simp only[go_sem,Qa,k,S];refine⟨ω,_,?_,e - 1,ω,ω,v,rfl⟩;exact QN
 .rw[k,Qf rfl]at u;have a1:c<=j:=by
   rw[ZH]at k;exact Yo k.1
  have T:IntKind.i64.wrap ((c:Int)+1)=((c+1:Nat):Int):=Zu;apply Qg f;simp only[go_sem,Qa,k,T];refine⟨ω,_,?_,c+1,ω,ω,u,rfl⟩;exact QN
omit ho in
theorem QsD(d)(a b c):Sort.partition Qq d a b c =
  if Sort.scanUp (λx=>Qq x (Sort.swp d a c)[a]!) (Sort.swp d a c) (b - 1) (a+1) > Sort.scanDown (λx=>!Qq x (Sort.swp d a c)[a]!) (Sort.swp d a c) (Sort.scanUp (λx=>Qq x (Sort.swp d a c)[a]!) (Sort.swp d a c) (b - 1) (a+1)) (b - 1) then
   (Sort.scanDown (λx=>!Qq x (Sort.swp d a c)[a]!) (Sort.swp d a c) (Sort.scanUp (λx=>Qq x (Sort.swp d a c)[a]!) (Sort.swp d a c) (b - 1) (a+1)) (b - 1),true,Sort.swp (Sort.swp d a c) (Sort.scanDown (λx=>!Qq x (Sort.swp d a c)[a]!) (Sort.swp d a c) (Sort.scanUp (λx=>Qq x (Sort.swp d a c)[a]!) (Sort.swp d a c) (b - 1) (a+1)) (b - 1)) a)
  else ((Sort.partLoop Qq a (Sort.scanUp (λx=>Qq x (Sort.swp d a c)[a]!) (Sort.swp d a c) (b - 1) (a+1)+1) (Sort.scanDown (λx=>!Qq x (Sort.swp d a c)[a]!) (Sort.swp d a c) (Sort.scanUp (λx=>Qq x (Sort.swp d a c)[a]!) (Sort.swp d a c) (b - 1) (a+1)) (b - 1) - 1) (Sort.swp (Sort.swp d a c) (Sort.scanUp (λx=>Qq x (Sort.swp d a c)[a]!) (Sort.swp d a c) (b - 1) (a+1)) (Sort.scanDown (λx=>!Qq x (Sort.swp d a c)[a]!) (Sort.swp d a c) (Sort.scanUp (λx=>Qq x (Sort.swp d a c)[a]!) (Sort.swp d a c) (b - 1) (a+1)) (b - 1)))).1,false,
   Sort.swp (Sort.partLoop Qq a (Sort.scanUp (λx=>Qq x (Sort.swp d a c)[a]!) (Sort.swp d a c) (b - 1) (a+1)+1) (Sort.scanDown (λx=>!Qq x (Sort.swp d a c)[a]!) (Sort.swp d a c) (Sort.scanUp (λx=>Qq x (Sort.swp d a c)[a]!) (Sort.swp d a c) (b - 1) (a+1)) (b - 1) - 1) (Sort.swp (Sort.swp d a c) (Sort.scanUp (λx=>Qq x (Sort.swp d a c)[a]!) (Sort.swp d a c) (b - 1) (a+1)) (Sort.scanDown (λx=>!Qq x (Sort.swp d a c)[a]!) (Sort.swp d a c) (Sort.scanUp (λx=>Qq x (Sort.swp d a c)[a]!) (Sort.swp d a c) (b - 1) (a+1)) (b - 1)))).2
    (Sort.partLoop Qq a (Sort.scanUp (λx=>Qq x (Sort.swp d a c)[a]!) (Sort.swp d a c) (b - 1) (a+1)+1) (Sort.scanDown (λx=>!Qq x (Sort.swp d a c)[a]!) (Sort.swp d a c) (Sort.scanUp (λx=>Qq x (Sort.swp d a c)[a]!) (Sort.swp d a c) (b - 1) (a+1)) (b - 1) - 1) (Sort.swp (Sort.swp d a c) (Sort.scanUp (λx=>Qq x (Sort.swp d a c)[a]!) (Sort.swp d a c) (b - 1) (a+1)) (Sort.scanDown (λx=>!Qq x (Sort.swp d a c)[a]!) (Sort.swp d a c) (Sort.scanUp (λx=>Qq x (Sort.swp d a c)[a]!) (Sort.swp d a c) (b - 1) (a+1)) (b - 1)))).1 a):=rfl
theorem QsE(a b E)(Vn:a+1<b)(Zp:b<=d.size)(hp:a<=E)(gY:E<b)(hz:d.size<1000000000):
  QI prog 256 h [.ref lo g 0 d.size,Qb a,Qb b,Qb E] (λdd h'=>dd=.tup [Qb (Sort.partition Qq d a b E).1,QT (Sort.partition Qq d a b E).2.1]/\h'=h.set lo (Za g (Sort.partition Qq d a b E).2.2)):=by
 have e0:IntKind.i64.wrap ((a:Int)+1)=((a+1:Nat):Int):=Zu;have e1:IntKind.i64.wrap ((b:Int) - 1)=((b - 1:Nat):Int):=Zu;have p:a<d.size:=ω;have pp:E<d.size:=ω;refine QZ func256 ntmps256 results256 λa9 w pl c=>?_;have O:=Qc ho;simp only[go_sem,Qa,ho,O];apply Qw c ii;simp only[go_sem,Qa,ho,O,p,pp,Qv O,Jn,jf];rw[jg g d _ _ _ rfl p pp,QsD];apply Qg c;simp only[go_sem,e0,e1];generalize a2:Sort.swp d a E=k at *;have C:k.size=d.size:=by rw[<- a2,swp_size]
 have y:=jY (g:=g) (d:=k) O;generalize R:h.set lo (Za g k)=P at y;have v:=Qc y;have a8:=cO (λx=>Qq x k[a]!) (λx=>!Qq x k[a]!) (λx=>rfl) k (a+1) (b - 1) ω ω;obtain⟨t1,t2,t3,t4⟩:=Sort.scanUp_spec (λx=>Qq x k[a]!) k (b - 1) _ (a+1) rfl;have t5:=t2 ω;generalize YY:Sort.scanUp (λx=>Qq x k[a]!) k (b - 1) (a+1)=F at *;obtain⟨s1,s2,s3,s4⟩:=Sort.scanDown_spec (λx=>!Qq x k[a]!) k F (b - 1);have s5:=s2 t5;generalize VO:Sort.scanDown (λx=>!Qq x k[a]!) k F (b - 1)=S at *;generalize c3:a+1=I0 at *;generalize c2:b - 1=q at *;rw[show h.set lo (⟨.arr,g,1,k.size,Bq k⟩:Ob)=P from R];refine Z4 (λm z=>∃e:Nat,e=I0+m/\e<=q+1/\Sort.scanUp (λx=>Qq x k[a]!) k q e=F/\z=⟨[(0,.ref lo g 0 d.size),(1,Qb a),(10,Qb e),(11,Qb q)],P⟩) d.size (s0:=⟨[(0,.ref lo g 0 d.size),(1,Qb a),(10,Qb I0),(11,Qb q)],P⟩) QN ⟨I0,rfl,ω,YY,rfl⟩ ?_;rintro me _ c0 ⟨e,b7,Wj,N,rfl⟩;have ge:e<=q->e<d.size:=ω;rw[Sort.scanUp]at N;apply Qg c;simp only[go_sem,Qa,y,v];first|refine Y3 ?_|skip
 refine A5 [0,1,10,11] [(43,QT (decide (e<=q)&&Qq k[e]! k[a]!))] rfl ?_ ?_
 .by_cases Z:e<=q
  .have U:decide (e<=q)=true:=Q3 Z;have a4:=ge Z;apply Qw c i9;simp only[go_sem,Qa,y,v,C,U,p,a4];apply Vc c zV (vj k[e]! k[a]!);apply VG c;exact QN
  .have U:decide (e<=q)=false:=QS Z;apply Qw c i9;simp only[go_sem,Qa,y,v,C,U,p];exact QN
 cases o:(decide (e<=q)&&Qq k[e]! k[a]!)
 .rw[o,Qe π]at N;apply Qg c;simp only[go_sem,Qa,o];subst N;apply QC c;refine Z4 (λm z=>∃l:Nat,l+m=q/\e<=l+1/\Sort.scanDown (λx=>!Qq x k[a]!) k e l=S/\z=⟨[(0,.ref lo g 0 d.size),(1,Qb a),(10,Qb e),(11,Qb l)],P⟩) d.size (s0:=⟨[(0,.ref lo g 0 d.size),(1,Qb a),(10,Qb e),(11,Qb q)],P⟩) QN ⟨q,rfl,ω,VO,rfl⟩ ?_;rintro mf _ b9 ⟨l,b6,b4,M,rfl⟩;have gf:e<=l->l<d.size:=ω;rw[nW _ _ _ _ ω]at M;apply Qg c;simp only[go_sem,Qa,y,v];first|refine Y3 ?_|skip
  refine A5 [0,1,10,11] [(60,QT (decide (e<=l)&&!Qq k[l]! k[a]!))] rfl ?_ ?_
  .by_cases Y:e<=l
   .have T:decide (e<=l)=true:=Q3 Y;have a3:=gf Y;apply Qw c Id;simp only[go_sem,Qa,y,v,C,T,p,a3];apply Vc c zV (vj k[l]! k[a]!);apply VG c;exact QN
   .have T:decide (e<=l)=false:=QS Y;apply Qw c Id;simp only[go_sem,Qa,y,v,C,T,p];exact QN
  cases o:(decide (e<=l)&&!Qq k[l]! k[a]!)
  .rw[o,Qe π]at M;apply Qg c;simp only[go_sem,Qa,o];subst M;have a1:IntKind.i64.wrap ((e:Int)+1)=((e+1:Nat):Int):=Zu;by_cases s:l<e
   .have I:decide (l<e)=true:=Q3 s;rw[Qf s];apply Qg c;simp only[go_sem,Qa,I];have r:l<d.size:=ω;apply Qw c ii;simp only[go_sem,Qa,y,v,C,r,p,Qv v,Jn,jf];rw[jg g k _ _ _ C r p];rw[<- R,Jn];first|exact⟨rfl,rfl⟩|rfl
   .have I:decide (l<e)=false:=QS s;have a7:=a8 s;have J:e<d.size:=ω;have r:l<d.size:=ω;have a0:IntKind.i64.wrap ((l:Int) - 1)=((l - 1:Nat):Int):=Zu;rw[Qe s];apply Qg c;simp only[go_sem,Qa,I];apply Qw c ii;simp only[go_sem,Qa,y,v,C,J,r,Qv v,Jn,jf,a1,a0];rw[jg g k _ _ _ C J r,<- R,Jn];refine Z4 (λm z=>∃(d1:Array Int) (i j:Nat),d1.size=d.size/\a<i/\i<=j+1/\j<b/\m+(j+1 - i)<=b/\Sort.partLoop Qq a i j d1=Sort.partLoop Qq a (e+1) (l - 1) (Sort.swp k e l)/\z=⟨[(0,.ref lo g 0 d.size),(1,Qb a),(10,Qb i),(11,Qb j)],h.set lo (Za g d1)⟩) b (s0:=⟨[(0,.ref lo g 0 d.size),(1,Qb a),(10,Qb (e+1:Nat)),(11,Qb (l - 1:Nat))],h.set lo (Za g (Sort.swp k e l))⟩) QN ⟨_,e+1,l - 1,by rw[swp_size,C],ω,ω,ω,ω,rfl,rfl⟩ ?_;rintro m _ hm ⟨d1,i,j,B,Nt,KM,c1,MD,K,rfl⟩;have t:=jY (g:=g) (d:=d1) O;generalize hH:h.set lo (Za g d1)=H at t;have u:=Qc t;rw[Sort.partLoop_eq]at K;have Et:=cO (λx=>Qq x d1[a]!) (λx=>!Qq x d1[a]!) (λx=>rfl) d1 i j ω KM;obtain⟨u1,u2,u3,u4⟩:=Sort.scanUp_spec (λx=>Qq x d1[a]!) d1 j _ i rfl;have u5:=u2 KM;generalize YY:Sort.scanUp (λx=>Qq x d1[a]!) d1 j i=F at *;obtain⟨w1,w2,w3,w4⟩:=Sort.scanDown_spec (λx=>!Qq x d1[a]!) d1 F j;have w5:=w2 u5;generalize VO:Sort.scanDown (λx=>!Qq x d1[a]!) d1 F j=S at *;apply QC c;refine Z4 (λm z=>∃f:Nat,f=i+m/\f<=j+1/\Sort.scanUp (λx=>Qq x d1[a]!) d1 j f=F/\z=⟨[(0,.ref lo g 0 d.size),(1,Qb a),(10,Qb f),(11,Qb j)],H⟩) d.size (s0:=⟨[(0,.ref lo g 0 d.size),(1,Qb a),(10,Qb i),(11,Qb j)],H⟩) QN ⟨i,rfl,ω,YY,rfl⟩ ?_;rintro mc _ xO ⟨f,bg,b5,Q,rfl⟩;have gc:f<=j->f<d.size:=ω;rw[Sort.scanUp]at Q;apply Qg c;simp only[go_sem,Qa,t,u];first|refine Y3 ?_|skip
    refine A5 [0,1,10,11] [(112,QT (decide (f<=j)&&Qq d1[f]! d1[a]!))] rfl ?_ ?_
    .by_cases cc:f<=j
     .have W:decide (f<=j)=true:=Q3 cc;have a6:=gc cc;apply Qw c i9;simp only[go_sem,Qa,t,u,B,W,p,a6];apply Vc c zV (vj d1[f]! d1[a]!);apply VG c;exact QN
     .have W:decide (f<=j)=false:=QS cc;apply Qw c i9;simp only[go_sem,Qa,t,u,B,W,p];exact QN
    cases o:(decide (f<=j)&&Qq d1[f]! d1[a]!)
    .rw[o,Qe π]at Q;apply Qg c;simp only[go_sem,Qa,o];subst Q;apply QC c;refine Z4 (λm z=>∃n:Nat,n+m=j/\f<=n+1/\Sort.scanDown (λx=>!Qq x d1[a]!) d1 f n=S/\z=⟨[(0,.ref lo g 0 d.size),(1,Qb a),(10,Qb f),(11,Qb n)],H⟩) d.size (s0:=⟨[(0,.ref lo g 0 d.size),(1,Qb a),(10,Qb f),(11,Qb j)],H⟩) QN ⟨j,rfl,ω,VO,rfl⟩ ?_;rintro md _ cP ⟨n,b8,RG,L,rfl⟩;have gd:f<=n->n<d.size:=ω;rw[nW _ _ _ _ ω]at L;apply Qg c;simp only[go_sem,Qa,t,u];first|refine Y3 ?_|skip
     refine A5 [0,1,10,11] [(129,QT (decide (f<=n)&&!Qq d1[n]! d1[a]!))] rfl ?_ ?_
     .by_cases cd:f<=n
      .have V:decide (f<=n)=true:=Q3 cd;have a5:=gd cd;apply Qw c Id;simp only[go_sem,Qa,t,u,B,V,p,a5];apply Vc c zV (vj d1[n]! d1[a]!);apply VG c;exact QN
      .have V:decide (f<=n)=false:=QS cd;apply Qw c Id;simp only[go_sem,Qa,t,u,B,V,p];exact QN
     cases o:(decide (f<=n)&&!Qq d1[n]! d1[a]!)
     .rw[o,Qe π]at L;apply Qg c;simp only[go_sem,Qa,o];have Ct:IntKind.i64.wrap ((f:Int)+1)=((f+1:Nat):Int):=Zu;subst L;by_cases s:n<f
      .have I:decide (n<f)=true:=Q3 s;rw[Qf s]at K;apply Qg c;simp only[go_sem,Qa,I];apply QC c;have r:n<d.size:=ω;apply Qw c ii;simp only[go_sem,Qa,t,u,B,r,p,Qv u,Jn,jf];rw[jg g d1 _ _ _ B r p];rw[<- K,<- hH,Jn];first|exact⟨rfl,rfl⟩|rfl
      .have I:decide (n<f)=false:=QS s;have a7:=Et s;have J:f<d.size:=ω;have r:n<d.size:=ω;have RD:IntKind.i64.wrap ((n:Int) - 1)=((n - 1:Nat):Int):=Zu;rw[Qe s]at K;apply Qg c;simp only[go_sem,Qa,I];apply Qw c ii;simp only[go_sem,Qa,t,u,B,J,r,Qv u,Jn,jf,Ct,RD];rw[jg g d1 _ _ _ B J r];refine⟨ω,_,?_,Sort.swp d1 f n,f+1,n - 1,by rw[swp_size,B],ω,ω,ω,ω,K,rfl⟩;rw[<- hH,Jn];exact QN
     .rw[o,Qf rfl]at L;have b2:f<=n:=by
       rw[ZH]at o;exact Yo o.1
      have vd:IntKind.i64.wrap ((n:Int) - 1)=((n - 1:Nat):Int):=Zu;apply Qg c;simp only[go_sem,Qa,o,vd];refine⟨ω,_,?_,n - 1,ω,ω,L,rfl⟩;exact QN
    .rw[o,Qf rfl]at Q;have b3:f<=j:=by
      rw[ZH]at o;exact Yo o.1
     have vc:IntKind.i64.wrap ((f:Int)+1)=((f+1:Nat):Int):=Zu;apply Qg c;simp only[go_sem,Qa,o,vc];refine⟨ω,_,?_,f+1,ω,ω,Q,rfl⟩;exact QN
  .rw[o,Qf rfl]at M;have b0:e<=l:=by
    rw[ZH]at o;exact Yo o.1
   have vf:IntKind.i64.wrap ((l:Int) - 1)=((l - 1:Nat):Int):=Zu;apply Qg c;simp only[go_sem,Qa,o,vf];refine⟨ω,_,?_,l - 1,ω,ω,M,rfl⟩;exact QN
 .rw[o,Qf rfl]at N;have b1:e<=q:=by
   rw[ZH]at o;exact Yo o.1
  have ve:IntKind.i64.wrap ((e:Int)+1)=((e+1:Nat):Int):=Zu;apply Qg c;simp only[go_sem,Qa,o,ve];refine⟨ω,_,?_,e+1,ω,ω,N,rfl⟩;exact QN
end
def nY:∀(j:Nat) (d:Array Int),(Sort.shiftDown Qq j d).size=d.size
 | 0,d=>rfl
 | j+1,d=>by rw[Sort.shiftDown];split;rfl;rw[nY j,swp_size]
def QeC(b):∀(n j:Nat) (d:Array Int),b - j<=n->(Sort.shiftUp Qq b j d).size=d.size
 | n,j,d,c=>by
  rw[Sort.shiftUp];split
  .split
   .rfl
   .obtain⟨a,rfl⟩:∃a,n=a+1:=⟨n - 1,ω⟩;rw[QeC b a _ _ ω,swp_size]
  .rfl
def QeD(d)(b):∀(n i:Nat),b - i<=n->i<=b->i<=Sort.scanSorted Qq d b i/\Sort.scanSorted Qq d b i<=b
 | n,i,e,f=>by
  rw[Sort.scanSorted];split
  .rename_i c;simp at c;obtain⟨a,rfl⟩:∃a,n=a+1:=⟨n - 1,ω⟩;have:=QeD d b a (i+1) ω ω;omega
  .omega
section
variable {h:List Ob}{lo g:Nat}{d:Array Int}(ho:h[lo]? = some (Za g d))
include ho
theorem QsO(a b)(Vn:a<b)(Zp:b<=d.size)(hz:d.size<1000000000):
  QI prog 254 h [.ref lo g 0 d.size,Qb a,Qb b] (λe h'=>e=QT (Sort.partialInsertionSort Qq d a b).2/\h'=h.set lo (Za g (Sort.partialInsertionSort Qq d a b).1)):=by
 have e0:IntKind.i64.wrap ((a:Int)+1)=((a+1:Nat):Int):=Zu;have R:IntKind.i64.wrap ((b:Int) - a)=((b - a:Nat):Int):=Zu;unfold Sort.partialInsertionSort;refine QZ func254 ntmps254 results254 λa2 w pl c=>?_;have N:=Qc ho;simp only[go_sem,Qa,ho,N,e0];refine Z4 (λm u=>∃(d1:Array Int) (x:Nat),d1.size=d.size/\a+1<=x/\x<=b/\m<=5/\Sort.partialIns Qq a b (5 - m) x d1=Sort.partialIns Qq a b 5 (a+1) d/\u=⟨[(0,.ref lo g 0 d.size),(1,Qb a),(2,Qb b),(7,Qb x),(8,Qb m)],h.set lo (Za g d1)⟩) 5 (s0:=⟨[(0,.ref lo g 0 d.size),(1,Qb a),(2,Qb b),(7,Qb (a+1:Nat)),(8,Qb 0)],h.set lo (Za g d)⟩) ?_ ⟨d,a+1,rfl,ω,ω,ω,rfl,rfl⟩ ?_
 .rw[vk ho];exact QN
 rintro m _ hm ⟨d1,i,J,Nt,O,a4,k,rfl⟩;have t:=jY (g:=g) (d:=d1) N;generalize U:h.set lo (Za g d1)=H at t;have C:=Qc t;by_cases cm:m<5
 .have em:decide ((m:Int)<5)=true:=Q3 ω;obtain⟨sq,a0⟩:∃s,5 - m=s+1:=⟨5 - m - 1,ω⟩;have nZ:4 - m=sq:=ω;rw[a0,Sort.partialIns]at k;dsimp only at k;obtain⟨k1,k2⟩:=QeD d1 b _ i (QB _) O;generalize hK:Sort.scanSorted Qq d1 b i=K at *;apply Qg c;simp only[go_sem,Qa,t,C,em];refine Z4 (λn u=>∃x:Nat,x=i+n/\x<=b/\Sort.scanSorted Qq d1 b x=K/\u=⟨[(0,.ref lo g 0 d.size),(1,Qb a),(2,Qb b),(7,Qb x),(8,Qb m)],H⟩) d.size (s0:=⟨[(0,.ref lo g 0 d.size),(1,Qb a),(2,Qb b),(7,Qb i),(8,Qb m)],H⟩) QN ⟨i,rfl,O,hK,rfl⟩ ?_;rintro n0 _ xP ⟨x,hx,BX,M,rfl⟩;have n8:IntKind.i64.wrap ((x:Int) - 1)=((x - 1:Nat):Int):=Zu;have n9:x - 1<d.size:=ω;have gx:x<b->x<d.size:=ω;rw[Sort.scanSorted]at M;apply Qg c;simp only[go_sem,Qa,t,C];first|refine Y3 ?_|skip
  refine A5 [0,1,2,7,8] [(32,QT (decide (x<b)&&!Qq d1[x]! d1[x - 1]!))] rfl ?_ ?_
  .by_cases cx:x<b
   .have ex:decide (x<b)=true:=Q3 cx;have a1:=gx cx;apply Qw c [0,1,2,3,4,5,6,7,8,9,10,11,12,1013,14,15];simp only[go_sem,Qa,t,C,J,ex,n8,n9,a1];apply Vc c zV (vj d1[x]! d1[x - 1]!);apply VG c;exact QN
   .have ex:decide (x<b)=false:=QS cx;apply Qw c [0,1,2,3,4,5,6,7,8,9,10,11,12,1013,14,15];simp only[go_sem,Qa,t,C,J,ex];exact QN
  cases E:(decide (x<b)&&!Qq d1[x]! d1[x - 1]!)
  .rw[E,Qe π]at M;subst M;apply Qg c;simp only[go_sem,Qa,E];by_cases cb:x=b
   .have V:((x:Int)==(b:Int))=true:=by rw[cb];exact Fc _
    rw[Qf cb]at k;apply Qg c;simp only[go_sem,Qa,V];rw[<- k,<- U];first|exact⟨rfl,rfl⟩|rfl
   .have V:((x:Int)==(b:Int))=false:=beq_eq_false_iff_ne.mpr ω;rw[Qe cb]at k;by_cases Rx:b - a<50
    .have oa:decide (((b - a:Nat):Int)<50)=true:=Q3 ω;rw[Qf Rx]at k;apply Qg c;simp only[go_sem,Qa,V,R,oa];rw[<- k,<- U];first|exact⟨rfl,rfl⟩|rfl
    .have oa:decide (((b - a:Nat):Int)<50)=false:=QS ω;rw[Qe Rx]at k;have px:x<d.size:=ω;apply Qg c;simp only[go_sem,Qa,V,R,oa];refine Eu (⟨[(0,.ref lo g 0 d.size),(1,Qb a),(2,Qb b),(7,Qb x),(8,Qb m)],h.set lo (Za g (Sort.swp d1 x (x - 1)))⟩) J8 c mixed [(0,true),(1,true),(2,true),(3,true),(5,true),(6,true),(7,true),(8,true),(9,true),(10,true),(11,true),(12,true),(13,true),(14,true)] [4,15,16,17] τ τ (λs I=>Bp I rfl ?_) ?_
     rotate_left
     .simp only[go_sem,Qa,t,C,n8,px,n9,J,Qv C,Jn,jf];rw[jg g d1 _ _ _ J px n9,<- U,Jn]
      repeat' refine And.intro ?_ ?_
      all_goals exact QN
     generalize KC:Sort.swp d1 x (x - 1)=d2 at *;have Jp:d2.size=d.size:=by rw[<- KC,swp_size,J]
     have Z7:=jY (g:=g) (d:=d2) N;have P:IntKind.i64.wrap ((x:Int) - a)=((x - a:Nat):Int):=Zu;have Q:IntKind.i64.wrap ((b:Int) - x)=((b - x:Nat):Int):=Zu;have oc:IntKind.i64.wrap ((x:Int)+1)=((x+1:Nat):Int):=Zu;generalize L:(if x - a >= 2 then Sort.shiftDown Qq (x - 1) d2 else d2)=d3 at *;have Ry:d3.size=d.size:=by
      rw[<- L];split
      .rw[nY,Jp]
      .exact Jp
     first|refine Y3 ?_|skip
     refine lJ (⟨[(0,.ref lo g 0 d.size),(1,Qb a),(2,Qb b),(7,Qb x),(8,Qb m)],h.set lo (Za g d3)⟩) ?_ ?_
     .by_cases S:x - a >= 2
      .have Z:decide ((2:Int)<=((x - a:Nat):Int))=true:=Q3 ω;rw[Qf S]at L;apply Qg c;simp only[go_sem,Qa,P,Z,n8];rw[<- L];refine Z4 (λn u=>∃(e:Array Int) (y:Nat),e.size=d.size/\y+n=x - 1/\Sort.shiftDown Qq y e=Sort.shiftDown Qq (x - 1) d2/\u=⟨[(0,.ref lo g 0 d.size),(1,Qb a),(2,Qb b),(7,Qb x),(8,Qb m),(9,Qb y)],h.set lo (Za g e)⟩) d.size (s0:=⟨[(0,.ref lo g 0 d.size),(1,Qb a),(2,Qb b),(7,Qb x),(8,Qb m),(9,Qb (x - 1:Nat))],h.set lo (Za g d2)⟩) QN ⟨d2,_,Jp,ω,rfl,rfl⟩ ?_;rintro n _ hn ⟨e,y,q,hy,f,rfl⟩;have l:=jY (g:=g) (d:=e) N;generalize p:h.set lo (Za g e)=Hd at l;have o:=Qc l;by_cases cy:1<=y
       .have B:decide ((1:Int)<=(y:Int))=true:=Q3 ω;obtain⟨j,rfl⟩:∃j,y=j+1:=⟨y - 1,ω⟩;rw[Sort.shiftDown]at f;have F:IntKind.i64.wrap (((j+1:Nat):Int) - 1)=((j:Nat):Int):=Zu;have z:(j+1)<d.size:=ω;have v:j<d.size:=ω;apply Qg c;simp only[go_sem,Qa,l,o,B];apply Qw c [0,1,2,3,4,5,6,7,8,1009,10];simp only[go_sem,Qa,l,o,q,F,z,v];apply Vc c zV (vj e[j+1]! e[j]!);apply VG c;cases r:Qq e[j+1]! e[j]!
        .rw[r,GV,Qf rfl]at f;simp only[go_sem,r];try (apply Qg c;simp only[go_sem,Qa])
         first|rw[<- f,<- p]|rw[<- p]
         exact QN
        .rw[r,De,Qe π]at f;simp only[go_sem,r];refine Eu (⟨[(0,.ref lo g 0 d.size),(1,Qb a),(2,Qb b),(7,Qb x),(8,Qb m),(9,Qb (j+1:Nat))],h.set lo (Za g (Sort.swp e (j+1) j))⟩) J8 c mixed [(0,true),(1,true),(2,true),(3,true),(5,true),(6,true),(7,true),(8,true),(9,true),(10,true),(11,true),(12,true),(13,true),(14,true)] [4,15,16,17] τ τ (λs I=>Bp I rfl ?_) ?_
         rotate_left
         .simp only[go_sem,Qa,l,o,q,F,z,v,Qv o,Jn,jf];rw[jg g e _ _ _ q z v,<- p,Jn]
          repeat' refine And.intro ?_ ?_
          all_goals exact QN
         apply Qg c;simp only[go_sem,F];refine⟨ω,_,?_,Sort.swp e (j+1) j,j,by rw[swp_size,q],ω,f,rfl⟩;exact QN
       .have B:decide ((1:Int)<=(y:Int))=false:=QS ω;obtain rfl:y=0:=ω;rw[Sort.shiftDown]at f;apply Qg c;simp only[go_sem,Qa,l,o,B];try (apply Qg c;simp only[go_sem,Qa])
        first|rw[<- f,<- p]|rw[<- p]
        exact QN
      .have Z:decide ((2:Int)<=((x - a:Nat):Int))=false:=QS ω;rw[Qe S]at L;apply Qg c;simp only[go_sem,Qa,P,Z];rw[<- L];exact QN
     have Y:IntKind.i64.wrap ((m:Int)+1)=((m+1:Nat):Int):=Zu;by_cases T:b - x >= 2
     .have W:decide ((2:Int)<=((b - x:Nat):Int))=true:=Q3 ω;rw[Qf T]at k;apply Qg c;simp only[go_sem,Qa,Q,W,oc];refine Z4 (λn u=>∃(e:Array Int) (y:Nat),e.size=d.size/\y=x+1+n/\y<=b/\Sort.shiftUp Qq b y e=Sort.shiftUp Qq b (x+1) d3/\u=⟨[(0,.ref lo g 0 d.size),(1,Qb a),(2,Qb b),(7,Qb x),(8,Qb m),(10,Qb y)],h.set lo (Za g e)⟩) d.size (s0:=⟨[(0,.ref lo g 0 d.size),(1,Qb a),(2,Qb b),(7,Qb x),(8,Qb m),(10,Qb (x+1:Nat))],h.set lo (Za g d3)⟩) QN ⟨d3,_,Ry,ω,ω,rfl,rfl⟩ ?_;rintro n _ hn ⟨e,y,q,hy,a3,f,rfl⟩;have l:=jY (g:=g) (d:=e) N;generalize p:h.set lo (Za g e)=Hd at l;have o:=Qc l;by_cases cy:y<b
      .have B:decide (y<b)=true:=Q3 ω;rw[Sort.shiftUp,Qf cy]at f;have F:IntKind.i64.wrap ((y:Int) - 1)=((y - 1:Nat):Int):=Zu;have RD:IntKind.i64.wrap ((y:Int)+1)=((y+1:Nat):Int):=Zu;have z:y<d.size:=ω;have v:(y - 1)<d.size:=ω;apply Qg c;simp only[go_sem,Qa,l,o,B];apply Qw c [0,1,2,3,4,5,6,7,8,1009,10];simp only[go_sem,Qa,l,o,q,F,z,v];apply Vc c zV (vj e[y]! e[y - 1]!);apply VG c;cases r:Qq e[y]! e[y - 1]!
       .rw[r,GV,Qf rfl]at f;simp only[go_sem,r];try (apply Qg c;simp only[go_sem,Qa])
        first|rw[<- f,<- p]|rw[<- p]
        try simp only[Y]
        refine⟨ω,_,?_,e,x,q,ω,ω,ω,by rw[nZ,f];exact k,rfl⟩;exact QN
       .rw[r,De,Qe π]at f;simp only[go_sem,r];refine Eu (⟨[(0,.ref lo g 0 d.size),(1,Qb a),(2,Qb b),(7,Qb x),(8,Qb m),(10,Qb (y:Nat))],h.set lo (Za g (Sort.swp e y (y - 1)))⟩) J8 c mixed [(0,true),(1,true),(2,true),(3,true),(5,true),(6,true),(7,true),(8,true),(9,true),(10,true),(11,true),(12,true),(13,true),(14,true)] [4,15,16,17] τ τ (λs I=>Bp I rfl ?_) ?_
        rotate_left
        .simp only[go_sem,Qa,l,o,q,F,z,v,Qv o,Jn,jf];rw[jg g e _ _ _ q z v,<- p,Jn]
         repeat' refine And.intro ?_ ?_
         all_goals exact QN
        apply Qg c;simp only[go_sem,RD];refine⟨ω,_,?_,Sort.swp e y (y - 1),y+1,by rw[swp_size,q],ω,ω,f,rfl⟩;exact QN
      .have B:decide (y<b)=false:=QS ω;rw[Sort.shiftUp,Qe cy]at f;apply Qg c;simp only[go_sem,Qa,l,o,B];try (apply Qg c;simp only[go_sem,Qa])
       first|rw[<- f,<- p]|rw[<- p]
       try simp only[Y]
       refine⟨ω,_,?_,e,x,q,ω,ω,ω,by rw[nZ,f];exact k,rfl⟩;exact QN
     .have W:decide ((2:Int)<=((b - x:Nat):Int))=false:=QS ω;rw[Qe T]at k;apply Qg c;simp only[go_sem,Qa,Q,W,Y];refine⟨ω,_,?_,d3,x,Ry,ω,ω,ω,by rw[nZ];exact k,rfl⟩;exact QN
  .rw[E,Qf rfl]at M;have lq:x<b:=by
    rw[ZH]at E;exact Yo E.1
   have oc:IntKind.i64.wrap ((x:Int)+1)=((x+1:Nat):Int):=Zu;apply Qg c;simp only[go_sem,Qa,E,oc];refine⟨ω,_,?_,x+1,ω,ω,M,rfl⟩;exact QN
 .have em:decide ((m:Int)<5)=false:=QS ω;obtain rfl:m=5:=ω;rw[Di,Sort.partialIns]at k;apply Qg c;simp only[go_sem,Qa,t,C,em];apply QC c;rw[<- k,<- U];first|exact⟨rfl,rfl⟩|rfl
end
def cR(n k)(h:2 ^ k<=n):Sort.bitsLen n=k+Sort.bitsLen (n / 2 ^ k):=by
 have e:∀m,Sort.bitsLen n<=m↔k+Sort.bitsLen (n / 2 ^ k)<=m:=by
  intro m;rw[Sort.bitsLen_le_iff];by_cases c:k<=m
  .obtain⟨j,rfl⟩:∃j,m=k+j:=⟨m - k,ω⟩;have a:=Sort.bitsLen_le_iff (n / 2 ^ k) j;rw[Nat.div_lt_iff_lt_mul (TI k),<- Nat.pow_add,Nat.add_comm j k]at a;rw[<- a];omega
  .have:2 ^ m<=2 ^ k:=Nat.pow_le_pow_right π ω;constructor
   .intro b;omega
   .intro b;omega
 have f:=(e (Sort.bitsLen n)).1 (QB _);have d:=(e (k+Sort.bitsLen (n / 2 ^ k))).2 (QB _);omega
def cS(t:Array UInt8)(c:(List.range 256).all (λi=>Nat.beq (t.getD i 0).toNat (Sort.bitsLen i))=true)(d:t.size=256)(k i n)(f:i<256)(g:k<1000)(e:Sort.bitsLen n=k+Sort.bitsLen i):
  IntKind.u8.wrap (i:Int)<(t.size:Int)/\D.raw (.int .i64 (IntKind.i64.wrap ((k:Int)+IntKind.i64.wrap ((t.getD (IntKind.u8.wrap (i:Int)).toNat 0).toNat:Int))))=D.raw (.int .i64 (Sort.bitsLen n)):=by
 have a:=YS.1 c i (G1.2 f);rw[VL]at a;have w:IntKind.u8.wrap (i:Int)=i:=by rw[IntKind.wrap_u8];omega
 rw[w,d,show ((i:Int)).toNat=i from rfl,a,e];have h:Sort.bitsLen i<=8:=(Sort.bitsLen_le_iff i 8).2 ω;refine⟨ω,?_⟩;have b:IntKind.i64.wrap (Sort.bitsLen i:Int)=Sort.bitsLen i:=wrap64 ω ω;rw[b,wrap64 ω ω];congr 2
def QsR(n)(i:n<4294967296):Q6 prog 175 [u64 n] (Zm (Qb (Sort.bitsLen n))):=by
 have d:decide ((4294967296:Int)<=n)=false:=QS ω;refine Zs 0 func175 ntmps175 results175 λf w j=>?_;simp only[go_sem];have c:((n:Int).fdiv (2 ^ min 16 64))=((n / 65536:Nat):Int):=Ia n 16;have b:∀m:Nat,((m:Int).fdiv (2 ^ min 8 64))=((m / 256:Nat):Int):=λm=>Ia m 8;have a:IntKind.i64.wrap 16=16:=rfl;have e:IntKind.i64.wrap 24=24:=rfl;have g:IntKind.i64.wrap 8=8:=rfl;by_cases k:65536<=n
 .have d1:decide ((65536:Int)<=n)=true:=Q3 ω;by_cases h:256<=n / 65536
  .have d2:decide ((256:Int)<=(n / 65536:Nat))=true:=Q3 ω;simp only[go_sem,d,d1,c,d2,b,a,e];exact cS _ τ τ 24 (n / 65536 / 256) n ω π (by rw[cR n 16 ω,cR (n / 2 ^ 16) 8 ω,show n / 2 ^ 16 / 2 ^ 8=n / 65536 / 256 from rfl];omega)
  .have d2:decide ((256:Int)<=(n / 65536:Nat))=false:=QS ω;simp only[go_sem,d,d1,c,d2,b,a,e];exact cS _ τ τ 16 (n / 65536) n ω π (by rw[cR n 16 ω])
 .have d1:decide ((65536:Int)<=n)=false:=QS ω;by_cases h:256<=n
  .have d2:decide ((256:Int)<=n)=true:=Q3 ω;simp only[go_sem,d,d1,c,d2,b,g,e];exact cS _ τ τ 8 (n / 256) n ω π (by rw[cR n 8 ω])
  .have d2:decide ((256:Int)<=n)=false:=QS ω;simp only[go_sem,d,d1,c,d2,b];exact cS _ τ τ 0 n n ω π ω
def Ua(n)(c:n<4294967296):Q6 prog 123 [u64 n] (Zm (Qb (Sort.bitsLen n))):=by
 refine Zs 0 func123 ntmps123 results123 λb w a=>?_;simp only[go_sem];apply J2 a QoW (QsR n c);exact ze a
def QsS(n:Nat)(f:n<1000000000):Q6 prog 218 [Qb n] (Zm (u64 (2 ^ Sort.bitsLen n))):=by
 have d:IntKind.u64.wrap (n:Int)=(n:Int):=η;have a:=(Sort.bitsLen_le_iff n 30).2 ω;have e:2 ^ Sort.bitsLen n<=2 ^ 30:=Nat.pow_le_pow_right π a;have b:IntKind.u64.wrap (1*2 ^ min (Sort.bitsLen n) 64)=((2 ^ Sort.bitsLen n:Nat):Int):=by
  rw[Nat.min_eq_left ω,Int.one_mul,show (2:Int) ^ Sort.bitsLen n=((2 ^ Sort.bitsLen n:Nat):Int) by push_cast;rfl,IntKind.wrap_u64];generalize 2 ^ Sort.bitsLen n=p at *;omega
 refine Zs 0 func218 ntmps218 results218 λc w a=>?_;simp only[go_sem];simp only[go_sem,d];refine Jk a Qcb ?_ (Ua n ω) ?_
 .simp only[go_sem,b]
 apply Qg a;simp only[go_sem,b]
@[go_sem] def Gl(n:Nat):Ob:=⟨.one,0,1,1,λ_=>[u64 n]⟩
def QsT{h:List Ob}{d}(n)(f:h[d]? = some (Gl n))(o:n<18446744073709551616):
  QI prog 219 h [.ptr d 0 0 0] (λq p=>q=u64 (Sort.xorNextN n)/\p=h.set d (Gl (Sort.xorNextN n))):=by
 refine QZ func219 ntmps219 results219 λi w s g=>?_;have c:=Qc f;simp only[go_sem,Qa,f,c];have l:∀a:Nat,a<18446744073709551616->bits .xor .u64 (a:Int) (IntKind.u64.wrap ((a:Int)*2 ^ min 13 64))=((a ^^^ (a*8192 % 18446744073709551616):Nat):Int):=λa b=>by
  rw[show IntKind.u64.wrap ((a:Int)*2 ^ min 13 64)=((a*8192 % 18446744073709551616:Nat):Int) from P3 a 8192];exact u64_xor_nat _ _ b (Yn _ π)
 have k:∀a:Nat,a<18446744073709551616->bits .xor .u64 (a:Int) ((a:Int).fdiv (2 ^ min 7 64))=((a ^^^ (a / 128):Nat):Int):=λa b=>by
  rw[show (a:Int).fdiv (2 ^ min 7 64)=((a / 128:Nat):Int) from Ia a 7];exact u64_xor_nat _ _ b ω
 have j:∀a:Nat,a<18446744073709551616->bits .xor .u64 (a:Int) (IntKind.u64.wrap ((a:Int)*2 ^ min 17 64))=((a ^^^ (a*131072 % 18446744073709551616):Nat):Int):=λa b=>by
  rw[show IntKind.u64.wrap ((a:Int)*2 ^ min 17 64)=((a*131072 % 18446744073709551616:Nat):Int) from P3 a 131072];exact u64_xor_nat _ _ b (Yn _ π)
 have b:n ^^^ (n*8192 % 18446744073709551616)<18446744073709551616:=OO (n:=64) ω ω;have r:(n ^^^ (n*8192 % 18446744073709551616)) ^^^ ((n ^^^ (n*8192 % 18446744073709551616)) / 128)<18446744073709551616:=OO (n:=64) b ω;unfold Sort.xorNextN;dsimp only;apply Qw g Eq;simp only[go_sem,Qa,f,c,l n o];generalize n ^^^ (n*8192 % 18446744073709551616)=e at *;apply Qw g Eq;simp only[go_sem,Qa,Qv c,Jn,c,k e b];generalize e ^^^ (e / 128)=m at *;apply Qw g Eq;simp only[go_sem,Qa,Qv c,Jn,c,j m r];try exact⟨rfl,rfl⟩
def yZ(a L M b:Nat)(s0:UInt64 × Array Int):Nat->UInt64 × Array Int
 | 0=>s0
 | k+1=>Sort.breakStep a L M (yZ a L M b s0 k) (b+k)
def oq(a L M b)(c:UInt64 × Array Int):∀k,(yZ a L M b c k).2.size=c.2.size
 | 0=>rfl
 | k+1=>by
  rw[yZ,Sort.breakStep];dsimp only;rw[swp_size,oq a L M b c k]
def QeM(d)(a b)(h:b - a >= 8):Sort.breakPatterns d a b=(yZ a (b - a) (1 <<< Sort.bitsLen (b - a)) (a+(b - a) / 4*2 - 1) (UInt64.ofNat (b - a),d) 3).2:=by
 unfold Sort.breakPatterns;dsimp only;rw[Qf h];rfl
section
variable {h:List Ob}{lo g:Nat}{d:Array Int}(ho:h[lo]? = some (Za g d))
include ho
theorem QsU(a b)(Vn:a<b)(Zp:b<=d.size)(hz:d.size<1000000000):
  QI prog 251 h [.ref lo g 0 d.size,Qb a,Qb b] (λdd h'=>dd=.tup []/\∃t,h'=h.set lo (Za g (Sort.breakPatterns d a b))++t):=by
 have V:IntKind.i64.wrap ((b:Int) - a)=((b - a:Nat):Int):=Zu;by_cases W:b - a >= 8
 .rw[QeM d a b W];have d8:decide ((8:Int)<=(b - a:Nat))=true:=Q3 ω;generalize hL:b - a=L at *;have a1:=Sort.two_pow_bitsLen_le (n:=L) ω;have a2:=TI (Sort.bitsLen L);rw[show 1 <<< Sort.bitsLen L=2 ^ Sort.bitsLen L by rw[Nat.shiftLeft_eq,Nat.one_mul]];have f0:((L:Int)).tdiv 4=((L / 4:Nat):Int):=rfl;have f1:IntKind.i64.wrap (((L / 4:Nat):Int))=((L / 4:Nat):Int):=by rw[wrap64 ω ω]
  have f2:IntKind.i64.wrap (((L / 4:Nat):Int)*2)=((L / 4*2:Nat):Int):=Zu;have f3:IntKind.i64.wrap ((a:Int)+(L / 4*2:Nat))=((a+L / 4*2:Nat):Int):=Zu;have f4:IntKind.i64.wrap (((a+L / 4*2:Nat):Int) - 1)=((a+L / 4*2 - 1:Nat):Int):=Zu;have f5:IntKind.i64.wrap (((a+L / 4*2:Nat):Int)+1)=((a+L / 4*2+1:Nat):Int):=Zu;have f6:IntKind.u64.wrap (L:Int)=(L:Int):=η;refine QZ func251 ntmps251 results251 λC w pl i=>?_;have z:=Qc ho;simp only[go_sem,Qa,ho,z,V,d8,f6];refine Jk i Qpc ?_ (QsS L ω) ?_
  .simp only[go_sem,f0,f1,f2,f3,f4]
  apply Qg i;simp only[go_sem,f0,f1,f2,f3,f4];generalize hM:2 ^ Sort.bitsLen L=M at *;generalize N:(UInt64.ofNat L,d)=f;have W8:f.2.size=d.size:=by rw[<- N]
  have y0:f.1.toNat=L:=by rw[<- N];simp;omega
  have Ih:f.2=d:=by rw[<- N]
  refine Z4 (λm st=>m<=3/\st=⟨[(0,.ref lo g 0 d.size),(1,Qb a),(6,Qb L),(7,.ptr h.length 0 0 0),(8,u64 M),(9,Qb (a+L / 4*2 - 1+m:Nat))],h.set lo (Za g (yZ a L M (a+L / 4*2 - 1) f m).2)++[Gl (yZ a L M (a+L / 4*2 - 1) f m).1.toNat]⟩) 3 (s0:=⟨[(0,.ref lo g 0 d.size),(1,Qb a),(6,Qb L),(7,.ptr h.length 0 0 0),(8,u64 M),(9,Qb (a+L / 4*2 - 1+0:Nat))],h.set lo (Za g (yZ a L M (a+L / 4*2 - 1) f 0).2)++[Gl (yZ a L M (a+L / 4*2 - 1) f 0).1.toNat]⟩) ?_ ⟨ω,rfl⟩ ?_
  .rw[yZ,Ih,y0,vk ho];exact QN
  rintro m _ hm ⟨DX,rfl⟩;have k:=oq a L M (a+L / 4*2 - 1) f m;rw[W8]at k;by_cases cm:m<3
  .have B:yZ a L M (a+L / 4*2 - 1) f (m+1)=Sort.breakStep a L M (yZ a L M (a+L / 4*2 - 1) f m) (a+L / 4*2 - 1+m):=rfl;generalize Jj:yZ a L M (a+L / 4*2 - 1) f m=sm at *;obtain⟨r,c⟩:=sm;dsimp only at k ⊢;have R:=jY (g:=g) (d:=c) z;have l:(h.set lo (Za g c)).length=h.length:=Xd;generalize E:h.set lo (Za g c)=H at *;have j:=Qc R;have Zq:lo<h.length:=z;rw[<- l];have g1:(H++[Gl r.toNat])[H.length]? = some (Gl r.toNat):=σ;have hx:=Sort.xorNext_toNat r;have Y:=r.toNat_lt;have Z:=Sort.xorNextN_lt r.toNat Y;have U:∀o F:Ob,(H++[o]).set H.length F=H++[F]:=λo F=>by rw[ay rfl];rfl
   have P:decide (a+L / 4*2 - 1+m<=a+L / 4*2+1)=true:=Q3 ω;apply Qg i;simp only[go_sem,Qa,f0,f1,f2,f3,f5,P];refine Vo i Qpd rfl ?_ (QsT r.toNat g1 Y) rfl λd h hR=>?_
   .simp only[go_sem,U]
   obtain⟨rfl,rfl⟩:=hR;apply Qg i;simp only[go_sem,U];have wM:IntKind.u64.wrap ((M:Int) - 1)=((M - 1:Nat):Int):=η;generalize a0:Sort.xorNextN r.toNat=x at *;have wA:bits .and .u64 (x:Int) ((M - 1:Nat):Int)=((x &&& (M - 1):Nat):Int):=u64_and_nat x (M - 1) Z ω;have yb:x &&& (M - 1)<=M - 1:=Nat.and_le_right;generalize T:x &&& (M - 1)=y at *;have wI:IntKind.i64.wrap ((y:Nat):Int)=((y:Nat):Int):=by rw[wrap64 ω ω]
   have J:IntKind.i64.wrap (((y:Nat):Int) - L)=((y - L:Nat):Int)\/¬ L<=y:=by
    by_cases q:L<=y
    .left;rw[wrap64 ω ω];omega
    .right;exact q
   have S:IntKind.i64.wrap (((a+L / 4*2 - 1+m:Nat):Int)+1)=((a+L / 4*2 - 1+(m+1):Nat):Int):=Zu;simp only[go_sem,wM,wA,wI];by_cases v:L<=y
   .replace J:=J.resolve_right (λq=>q v);have O:decide (L<=y)=true:=Q3 v;have Q:Sort.breakStep a L M (r,c) (a+L / 4*2 - 1+m)=(Sort.xorNext r,Sort.swp c (a+L / 4*2 - 1+m) (a+(y - L))):=by
     unfold Sort.breakStep;dsimp only;rw[hx,T,Qf v]
    have u:a+L / 4*2 - 1+m<d.size:=ω;have p:a+(y - L)<d.size:=ω;have I:IntKind.i64.wrap ((a:Int)+((y - L):Nat))=((a+(y - L):Nat):Int):=Zu;simp only[go_sem,O,J];refine Eu (⟨[(0,.ref lo g 0 d.size),(1,Qb a),(6,Qb L),(7,.ptr H.length 0 0 0),(8,u64 M),(9,Qb (a+L / 4*2 - 1+m:Nat))],H.set lo (Za g (Sort.swp c (a+L / 4*2 - 1+m) (a+(y - L))))++[Gl x]⟩) J8 i mixed [(0,true),(1,true),(2,true),(3,true),(4,true),(6,true),(7,true),(8,true),(9,true),(10,true),(11,true),(12,true),(13,true),(14,true),(15,true),(16,true)] [5,17,18,19] τ τ (λs K=>Bp K rfl ?_) ?_
    rotate_left
    .simp only[go_sem,Qa,R,j,k,u,p,I,QG j,B8 j,Qv j,Jn,jf,Xd,QG (show lo<(H.set lo (Za g c)).length by simp;exact j)];rw[jg g c _ _ _ k u p]
     repeat' refine And.intro ?_ ?_
     all_goals exact QN
    apply Qg i;simp only[go_sem,S];refine⟨ω,_,?_,ω,rfl⟩;rw[B,Q,<- E,Jn,hx];rw[<- E]at l;rw[l];exact QN
   .have O:decide (L<=y)=false:=QS v;have Q:Sort.breakStep a L M (r,c) (a+L / 4*2 - 1+m)=(Sort.xorNext r,Sort.swp c (a+L / 4*2 - 1+m) (a+y)):=by
     unfold Sort.breakStep;dsimp only;rw[hx,T,Qe v]
    have u:a+L / 4*2 - 1+m<d.size:=ω;have p:a+y<d.size:=ω;have I:IntKind.i64.wrap ((a:Int)+(y:Nat))=((a+y:Nat):Int):=Zu;simp only[go_sem,O];refine Eu (⟨[(0,.ref lo g 0 d.size),(1,Qb a),(6,Qb L),(7,.ptr H.length 0 0 0),(8,u64 M),(9,Qb (a+L / 4*2 - 1+m:Nat))],H.set lo (Za g (Sort.swp c (a+L / 4*2 - 1+m) (a+y)))++[Gl x]⟩) J8 i mixed [(0,true),(1,true),(2,true),(3,true),(4,true),(6,true),(7,true),(8,true),(9,true),(10,true),(11,true),(12,true),(13,true),(14,true),(15,true),(16,true)] [5,17,18,19] τ τ (λs K=>Bp K rfl ?_) ?_
    rotate_left
    .simp only[go_sem,Qa,R,j,k,u,p,I,QG j,B8 j,Qv j,Jn,jf,Xd,QG (show lo<(H.set lo (Za g c)).length by simp;exact j)];rw[jg g c _ _ _ k u p]
     repeat' refine And.intro ?_ ?_
     all_goals exact QN
    apply Qg i;simp only[go_sem,S];refine⟨ω,_,?_,ω,rfl⟩;rw[B,Q,<- E,Jn,hx];rw[<- E]at l;rw[l];exact QN
  .obtain rfl:m=3:=ω;have P:decide (a+L / 4*2 - 1+2<=a+L / 4*2)=false:=QS ω;apply Qg i;simp only[go_sem,Qa,f0,f1,f2,f3,f5,P];try exact⟨_,rfl⟩
 .have d8:decide ((8:Int)<=(b - a:Nat))=false:=QS ω;have e:Sort.breakPatterns d a b=d:=by
   unfold Sort.breakPatterns;dsimp only;rw[Qe W]
  rw[e];refine QZ func251 ntmps251 results251 λC w pl i=>?_;have z:=Qc ho;simp only[go_sem,Qa,ho,z,V,d8];exact⟨[],by rw[Jl];exact(vk ho).symm⟩
end
def QeP(a b):∀(n i:Nat) (d:Array Int),b - i<=n->(Sort.insOuter Qq a b i d).size=d.size
 | n,i,d,e=>by
  rw[Sort.insOuter];split
  .obtain⟨c,rfl⟩:∃c,n=c+1:=⟨n - 1,ω⟩;rw[QeP a b c _ _ ω,Qev]
  .rfl
def QsV(d:Array Int)(a b:Nat):(Sort.insertionSort Qq d a b).size=d.size:=QeP a b _ _ d (QB _)
def QeQ(first):∀(k:Nat) (d:Array Int),(Sort.heapPop Qq first k d).size=d.size
 | 0,d=>rfl
 | k+1,d=>by rw[Sort.heapPop,QeQ first k,cM,swp_size]
def QsW(d:Array Int)(a b:Nat):(Sort.heapSort Qq d a b).size=d.size:=by rw[Sort.heapSort,QeQ,Qex]
def QsX(d:Array Int)(a b:Nat):(Sort.breakPatterns d a b).size=d.size:=by
 by_cases c:b - a >= 8
 .rw[QeM d a b c,oq]
 .unfold Sort.breakPatterns;dsimp only;rw[Qe c]
def QeR:∀(n i j:Nat) (d:Array Int),j - i<=n->(Sort.reverseLoop i j d).size=d.size
 | n,i,j,d,b=>by
  rw[Sort.reverseLoop];split
  .obtain⟨a,rfl⟩:∃a,n=a+1:=⟨n - 1,ω⟩;rw[QeR a _ _ _ ω,swp_size]
  .rfl
def QsY(d:Array Int)(a b:Nat):(Sort.reverseRange d a b).size=d.size:=QeR _ _ _ d (QB _)
def QeS(a b):∀(s i:Nat) (d:Array Int),(Sort.partialIns Qq a b s i d).1.size=d.size
 | 0,i,d=>rfl
 | s+1,i,d=>by
  rw[Sort.partialIns];dsimp only;split
  .rfl
  .split
   .rfl
   .rw[QeS a b s];have e:∀c:Array Int,(if b - Sort.scanSorted Qq d b i >= 2 then Sort.shiftUp Qq b (Sort.scanSorted Qq d b i+1) c else c).size=c.size:=λc=>by
     split
     .exact QeC b _ _ _ (QB _)
     .rfl
    rw[e];split
    .rw[nY,swp_size]
    .rw[swp_size]
def ot(d:Array Int)(a b p:Nat):(Sort.partitionEqual Qq d a b p).2.size=d.size:=by
 rw[Sort.partitionEqual,Qez a _ _ _ _ (QB _),swp_size]
def cT(d:Array Int)(a b p:Nat):(Sort.partition Qq d a b p).2.2.size=d.size:=by
 rw[Sort.partition_arr,swp_size,QeA a _ _ _ _ (QB _),swp_size]
def QeT(d:Array Int)(a b l)(c e:Bool):(Sort.rd Qq d a b l c e).d1.size=d.size/\(Sort.rd Qq d a b l c e).d2.size=d.size/\(Sort.rd Qq d a b l c e).pi.1.size=d.size:=by
 have g:(Sort.rd Qq d a b l c e).d1.size=d.size:=by
  cases c
  .exact QsX d a b
  .rfl
 have f:(Sort.rd Qq d a b l c e).d2.size=d.size:=by
  by_cases h:(Sort.rd Qq d a b l c e).c.2=.decreasing
  .rw[(Sort.rd_dec h).1,QsY,g]
  .rw[(Sort.rd_not h).1,g]
 refine⟨g,f,?_⟩;cases i:(c&&e&&decide ((Sort.rd Qq d a b l c e).hint=.increasing))
 .rw[Sort.rd_pi_no i,f]
 .rw[Sort.rd_pi_yes i,Sort.partialInsertionSort,QeS,f]
def QeU(a):∀(n i j:Nat) (d:Array Int),j+1 - i<=n->a<i->i<=j+1->a<(Sort.partEqLoop Qq a i j d).1/\(Sort.partEqLoop Qq a i j d).1<=j+1
 | n,i,j,d,u,w,c=>by
  have k:=cO (λx=>!Qq d[a]! x) (λx=>Qq d[a]! x) (λx=>σ) d i j ω c;obtain⟨s,f,r,q⟩:=Sort.scanUp_spec (λx=>!Qq d[a]! x) d j _ i rfl;obtain⟨p,o,m,l⟩:=Sort.scanDown_spec (λx=>Qq d[a]! x) d (Sort.scanUp (λx=>!Qq d[a]! x) d j i) j;have e:=f c;rw[Sort.partEqLoop_eq];split
  .exact⟨by dsimp only;omega,e⟩
  .rename_i h;have v:=k h;have:=Sort.partEqLoop_guard Qq a i j d h;obtain⟨b,rfl⟩:∃b,n=b+1:=⟨n - 1,ω⟩;obtain⟨g,t⟩:=QeU a b _ _ (Sort.swp d (Sort.scanUp (λx=>!Qq d[a]! x) d j i) (Sort.scanDown (λx=>Qq d[a]! x) d (Sort.scanUp (λx=>!Qq d[a]! x) d j i) j)) (show (Sort.scanDown (λx=>Qq d[a]! x) d (Sort.scanUp (λx=>!Qq d[a]! x) d j i) j - 1)+1 - (Sort.scanUp (λx=>!Qq d[a]! x) d j i+1)<=b by omega) ω ω;exact⟨g,ω⟩
def QsZ(d)(a b p:Nat)(c:a<b):a<(Sort.partitionEqual Qq d a b p).1/\(Sort.partitionEqual Qq d a b p).1<=b:=by
 have:=QeU a _ (a+1) (b - 1) (Sort.swp d a p) (QB _) ω ω;rw[Sort.partitionEqual];omega
def QeV:Sort.SWO Qq:=⟨λx=>by simp[Qq],λx y z b a=>by simp[Qq]at *;omega,λx y z b a=>by simp[Qq]at *;omega⟩
def Qs0(d:Array Int)(a b p:Nat)(f:a<=p)(e:p<b)(c:b<=d.size):a<=(Sort.partition Qq d a b p).1/\(Sort.partition Qq d a b p).1<b:=by
 have:=Sort.partition_holds Qq QeV d a b p f e c;exact⟨this.1,this.2.1⟩
def Qs1(d)(a b l)(e c:Bool)(g:a<b):a<=(Sort.rd Qq d a b l e c).pivot/\(Sort.rd Qq d a b l e c).pivot<b:=by
 have h:=Sort.choosePivot_holds Qq (Sort.rd Qq d a b l e c).d1 a b g;rw[<- Sort.rd_c]at h;by_cases f:(Sort.rd Qq d a b l e c).c.2=.decreasing
 .rw[(Sort.rd_dec f).2.1];omega
 .rw[(Sort.rd_not f).2.1];exact h
def Gm:∀(n:Nat) (d:Array Int) (a b l:Nat) (g f:Bool),b - a<=n->(Sort.pdq Qq d a b l g f).size=d.size
 | n,d,a,b,l,g,f,k=>by
  obtain⟨j,i,e⟩:=QeT d a b l g f;rw[Sort.pdq_unfold];split
  .exact QsV d a b
  .split
   .exact QsW d a b
   .obtain⟨c,rfl⟩:∃c,n=c+1:=⟨n - 1,ω⟩;split
    .exact e
    .split
     .split
      .rename_i h;rw[Gm c _ _ _ _ _ _ ω,ot,e]
      .rw[ot,e]
     .split
      .rename_i h;split
       .rw[Gm c _ _ _ _ _ _ ω,Gm c _ _ _ _ _ _ ω,cT,e]
       .rw[Gm c _ _ _ _ _ _ ω,Gm c _ _ _ _ _ _ ω,cT,e]
      .rw[cT,e]
def QeW(n:Nat):Prop:=∀(h:List Ob) (c g:Nat) (d:Array Int),h[c]? = some (Za g d)->∀a b l:Nat,a<=b->b<=d.size->l<1000->d.size<1000000000->b - a<n ->
 QI prog 237 h [.ref c g 0 d.size,Qb a,Qb b,Qb l] (λf e=>f=.tup []/\∃t,e=h.set c (Za g (Sort.pdq Qq d a b l true true))++t)
def EA{h t:List Ob}{a}{x y}(b:a<h.length):(h.set a x++t).set a y=h.set a y++t:=by
 rw[Tw _ _ (by simpa using b),Jn]
def RK{h t:List Ob}{a}{x}(b:a<h.length):(h.set a x++t)[a]? = some x:=by
 rw[JD (by simpa using b),Qv b]
def QeX(c:Sort.Hint)(k:Sort.Hint):((Ew c:Int)==(Ew k:Int))=decide (c=k):=by cases c<;>cases k<;>rfl
def Qs2(n:Nat)(IH:QeW n){h:List Ob}{j g:Nat}{d:Array Int}(ho:h[j]? = some (Za g d))(a b l:Nat)(Vn:a<=b)(Zp:b<=d.size)(hl:l<1000)(hz:d.size<1000000000)(hn:b - a<n+1):
  QI prog 237 h [.ref j g 0 d.size,Qb a,Qb b,Qb l] (λdd h'=>dd=.tup []/\∃t,h'=h.set j (Za g (Sort.pdq Qq d a b l true true))++t):=by
 refine QZ func237 ntmps237 results237 λa5 w pl f=>?_;have v:=Qc ho;simp only[go_sem,Qa,ho,v];refine Z4 (λm y=>∃(d1:Array Int) (c e p:Nat) (i k:Bool) (t:List Ob),d1.size=d.size/\c<=e/\e<=d.size/\p<1000/\m+(e - c)<=b - a/\Sort.pdq Qq d1 c e p i k=Sort.pdq Qq d a b l true true/\y=⟨[(0,.ref j g 0 d.size),(1,Qb c),(2,Qb e),(3,Qb p),(8,QT i),(9,QT k)],h.set j (Za g d1)++t⟩) (b - a) (s0:=⟨[(0,.ref j g 0 d.size),(1,Qb a),(2,Qb b),(3,Qb l),(8,QT true),(9,QT true)],h.set j (Za g d)++[]⟩) ?_ ⟨d,a,b,l,true,true,[],rfl,Vn,Zp,hl,ω,rfl,rfl⟩ ?_
 .rw[vk ho,Jl];exact QN
 rintro m _ hm ⟨d1,c,e,p,i,k,t1,T,a8,a7,ZC,MD,r,rfl⟩;have e0:IntKind.i64.wrap ((e:Int) - c)=((e - c:Nat):Int):=Zu;have ou:(h.set j (Za g d1)++t1)[j]? = some (Za g d1):=RK v;rw[Sort.pdq_unfold]at r;by_cases I:e - c<=12
 .have d12:decide (((e - c:Nat):Int)<=12)=true:=Q3 ω;rw[Qf I]at r;apply Qg f;simp only[go_sem,Qa,e0,d12];refine Jb f Qpj (T▸Qsw ou c e ω ω ω) λd h s=>?_;obtain⟨rfl,rfl⟩:=s;apply Zd f;refine⟨t1,?_⟩;rw[<- r];exact EA v
 .have d12:decide (((e - c:Nat):Int)<=12)=false:=QS ω;rw[Qe I]at r;by_cases cl:p=0
  .have dl:((p:Int)==0)=true:=by rw[cl];rfl
   rw[Qf cl]at r;apply Qg f;simp only[go_sem,Qa,e0,d12,dl];refine Jb f Qpk (T▸Qsx ou c e ω ω ω) λd h s=>?_;obtain⟨rfl,rfl⟩:=s;apply Zd f;refine⟨t1,?_⟩;rw[<- r];exact EA v
  .have dl:((p:Int)==0)=false:=beq_eq_false_iff_ne.mpr ω;rw[Qe cl]at r;refine HH J8 f 30 ?_;simp only[go_sem,Qa,e0,d12,dl];obtain⟨U,z2,B⟩:=QeT d1 c e p i k;have a6:=Sort.rd_lim_le (lt:=Qq) (d:=d1) (a:=c) (b:=e) (limit:=p) (wb:=i) (wp:=k);have F:=Qs1 d1 c e p i k ω;rw[T]at U z2 B;first|refine Y3 ?_|skip
   refine cJ (λy=>∃t,y=⟨[(0,.ref j g 0 d.size),(1,Qb c),(2,Qb e),(3,Qb (Sort.rd Qq d1 c e p i k).lim),(8,QT i),(9,QT k),(10,Qb (e - c:Nat))],h.set j (Za g (Sort.rd Qq d1 c e p i k).d1)++t⟩) ?_ ?_
   .cases i
    .have vl:IntKind.i64.wrap ((p:Int) - 1)=((p - 1:Nat):Int):=Zu;rw[Sort.rd_false.1,Sort.rd_false.2];apply Zd f;refine Vo f Qpl rfl ?_ (T▸QsU ou c e ω ω ω) rfl λd h s=>?_
     .simp only[go_sem,vl]
     obtain⟨rfl,t2,rfl⟩:=s;apply Qg f;simp only[go_sem,vl];refine⟨_,⟨t1++t2,rfl⟩,?_⟩;rw[EA v,Wx];exact QN
    .rw[Sort.rd_true.1,Sort.rd_true.2];apply Zd f;refine⟨_,⟨t1,rfl⟩,?_⟩;exact QN
   have hc:=Sort.rd_c (lt:=Qq) (d:=d1) (a:=c) (b:=e) (limit:=p) (wb:=i) (wp:=k);have a4:=Sort.rd_dec (lt:=Qq) (d:=d1) (a:=c) (b:=e) (limit:=p) (wb:=i) (wp:=k);have a3:=Sort.rd_not (lt:=Qq) (d:=d1) (a:=c) (b:=e) (limit:=p) (wb:=i) (wp:=k);have a2:=Sort.rd_pi_yes (lt:=Qq) (d:=d1) (a:=c) (b:=e) (limit:=p) (wb:=i) (wp:=k);have JH:=Sort.rd_pi_no (lt:=Qq) (d:=d1) (a:=c) (b:=e) (limit:=p) (wb:=i) (wp:=k);have YF:=Sort.choosePivot_holds Qq (Sort.rd Qq d1 c e p i k).d1 c e ω;rw[<- hc]at YF;generalize Sort.rd Qq d1 c e p i k=R at *;rintro _ ⟨t2,rfl⟩;apply QC f;refine Vo f Qpm rfl ?_ (U▸Qsu (RK (x:=Za g R.d1) v) c e ω ω ω) rfl λd h s=>?_
   .simp only[go_sem,Wx]
   obtain⟨rfl,t3,rfl⟩:=s;refine HH J8 f 12 ?_;simp only[go_sem,Wx];rw[<- hc];first|refine Y3 ?_|skip
   refine cJ (λy=>∃t,y=⟨[(0,.ref j g 0 d.size),(1,Qb c),(2,Qb e),(3,Qb R.lim),(8,QT i),(9,QT k),(10,Qb (e - c:Nat)),(11,Qb R.pivot),(12,Qb (Ew R.hint:Nat))],h.set j (Za g R.d2)++t⟩) ?_ ?_
   .by_cases P:R.c.2=.decreasing
    .obtain⟨Y,W,V⟩:=a4 P;have b2:((Ew R.c.2:Int)==2)=true:=by rw[P];rfl
     have v1:IntKind.i64.wrap ((e:Int) - 1)=((e - 1:Nat):Int):=Zu;have v2:IntKind.i64.wrap ((R.c.1:Int) - c)=((R.c.1 - c:Nat):Int):=Zu;have v3:IntKind.i64.wrap (((e - 1:Nat):Int) - (R.c.1 - c:Nat))=(((e - 1) - (R.c.1 - c):Nat):Int):=Zu;apply Qg f;simp only[go_sem,b2];refine Vo f Qpn rfl ?_ (U▸Qsv (RK (x:=Za g R.d1) v) c e ω ω ω) rfl λd h s=>?_
     .simp only[go_sem,v1,v2,v3]
     obtain⟨rfl,rfl⟩:=s;apply Qg f;simp only[go_sem,v1,v2,v3];rw[Y,W,V];refine⟨_,⟨t2++t3,rfl⟩,?_⟩;rw[EA v];exact QF.frame (by simp only[go_sem];first|rfl|exact⟨rfl,rfl⟩)
    .obtain⟨Y,W,V⟩:=a3 P;have b2:((Ew R.c.2:Int)==2)=false:=by rw[show (2:Int)=(Ew .decreasing:Int) from rfl,QeX];exact QS P
     apply Qg f;simp only[go_sem,b2];rw[Y,W,V];refine⟨_,⟨t2++t3,rfl⟩,?_⟩;exact QN
   rintro _ ⟨t4,rfl⟩;refine Y3 ?_;first|refine Y3 ?_|skip
   refine lJ (⟨[(0,.ref j g 0 d.size),(1,Qb c),(2,Qb e),(3,Qb R.lim),(8,QT i),(9,QT k),(10,Qb (e - c:Nat)),(11,Qb R.pivot),(12,Qb (Ew R.hint:Nat)),(68,QT (i&&k&&decide (R.hint=.increasing)))],h.set j (Za g R.d2)++t4⟩) ?_ ?_
   .cases i
    .apply QC f;exact QF.frame (by simp only[go_sem,EW])
    .cases k
     .apply QC f;exact QF.frame (by simp only[go_sem,EW,Df])
     .have UA:((Ew R.hint:Int)==1)=decide (R.hint=.increasing):=QeX R.hint .increasing;apply Qg f;simp only[go_sem,Qa,UA];exact QF.frame (by simp only[go_sem,EW,Df])
   first|refine Y3 ?_|skip
   refine cJ (λy=>R.pi.2=false/\∃t,y=⟨[(0,.ref j g 0 d.size),(1,Qb c),(2,Qb e),(3,Qb R.lim),(8,QT i),(9,QT k),(10,Qb (e - c:Nat)),(11,Qb R.pivot)],h.set j (Za g R.pi.1)++t⟩) ?_ ?_
   .cases z:(i&&k&&decide (R.hint=.increasing))
    .have hp:=JH z;apply Zd f;rw[hp];refine⟨_,⟨rfl,t4,rfl⟩,?_⟩;exact QN
    .have hp:=a2 z;apply Zd f;refine Jb f Qpo (z2▸QsO (RK (x:=Za g R.d2) v) c e ω ω ω) λd h s=>?_;obtain⟨rfl,rfl⟩:=s;apply Zd f;rw[<- hp];cases ZJ:R.pi.2
     .simp only[go_sem];refine⟨_,⟨t4,rfl⟩,?_⟩;rw[EA v];exact QN
     .rw[Qf ZJ]at r;simp only[go_sem];refine⟨t4,?_⟩;rw[<- r];exact EA v
   rintro _ ⟨a0,t5,rfl⟩;rw[Qe (by rw[a0];decide)]at r;generalize hD:R.pi.1=u at *;have C:(h.set j (Za g u)++t5)[j]? = some (Za g u):=RK v;generalize ov:h.set j (Za g u)++t5=HD at C;have ox:=Qc C;have p2:R.pivot<d.size:=ω;have f1:c > 0->IntKind.i64.wrap ((c:Int) - 1)=((c - 1:Nat):Int):=λq=>by exact Zu
   have p1:c - 1<d.size:=ω;refine Y3 ?_;first|refine Y3 ?_|skip
   refine A5 [0,1,2,3,8,9,10,11] [(87,QT (decide (c > 0)&&!Qq u[c - 1]! u[R.pivot]!))] rfl ?_ ?_
   .by_cases ca:c > 0
    .have da:decide ((0:Int)<(c:Int))=true:=Q3 ω;have f2:=f1 ca;apply Qw f Id;simp only[go_sem,Qa,C,ox,B,da,f2,p1,p2];apply Vc f zV (vj u[c - 1]! u[R.pivot]!);apply VG f;exact QF.frame (by simp only[go_sem,Q3 ca,Df])
    .have da:decide ((0:Int)<(c:Int))=false:=QS ω;apply Qw f Id;simp only[go_sem,Qa,C,ox,B,da];exact QF.frame (by simp only[go_sem,QS ca,EW])
   cases z:(decide (c > 0)&&!Qq u[c - 1]! u[R.pivot]!)
   .rw[z,Qe π]at r;have hr:=Qs0 u c e R.pivot F.1 F.2 ω;have Jg:=cT u c e R.pivot;rw[Qf hr]at r;apply Qg f;simp only[go_sem,Qa,z];refine Jb f Qpq (B▸QsE C c e R.pivot ω ω F.1 F.2 ω) λd h s=>?_;obtain⟨rfl,rfl⟩:=s;apply Zd f;generalize Sort.partition Qq u c e R.pivot=pt at *;obtain⟨o,K,E⟩:=pt;dsimp only at *;have O:IntKind.i64.wrap ((o:Int) - c)=((o - c:Nat):Int):=Zu;have N:IntKind.i64.wrap ((e:Int) - o)=((e - o:Nat):Int):=Zu;have M:((e - c:Nat):Int).tdiv 8=(((e - c) / 8:Nat):Int):=rfl;have L:IntKind.i64.wrap ((((e - c) / 8:Nat):Int))=(((e - c) / 8:Nat):Int):=by rw[wrap64 ω ω]
    have k5:IntKind.i64.wrap ((o:Int)+1)=((o+1:Nat):Int):=Zu;have S:E.size=d.size:=by rw[Jg,B]
    have J:(HD.set j (Za g E))[j]? = some (Za g E):=Qv ox;by_cases Q:o - c<e - o
    .have H:decide (o - c<e - o)=true:=Q3 Q;rw[Qf Q]at r;simp only[go_sem,O,N,M,L,H];apply Qg f;simp only[go_sem,O,N,M,L,H];refine Vo f ld rfl ?_ (S▸IH _ j g E J c o R.lim ω ω ω ω ω) rfl λd h s=>?_
     .simp only[go_sem,k5]
     obtain⟨rfl,t6,rfl⟩:=s;apply Qg f;simp only[go_sem,k5];have Z:=Gm _ E c o R.lim true true (QB _);refine⟨ω,_,?_,Sort.pdq Qq E c o R.lim true true,o+1,e,R.lim,decide ((e - c) / 8<=o - c),K,t5++t6,by rw[Z,S],ω,ω,ω,ω,r,rfl⟩;rw[Jn,<- ov,EA v,Wx];exact QN
    .have H:decide (o - c<e - o)=false:=QS Q;rw[Qe Q]at r;simp only[go_sem,O,N,M,L,H];apply Qg f;simp only[go_sem,O,N,M,L,k5,H];refine Jb f ld (S▸IH _ j g E J (o+1) e R.lim ω ω ω ω ω) λd h s=>?_;obtain⟨rfl,t6,rfl⟩:=s;apply Zd f;have Z:=Gm _ E (o+1) e R.lim true true (QB _);refine⟨ω,_,?_,Sort.pdq Qq E (o+1) e R.lim true true,c,o,R.lim,decide ((e - c) / 8<=e - o),K,t5++t6,by rw[Z,S],ω,ω,ω,ω,r,rfl⟩;rw[Jn,<- ov,EA v,Wx];exact QN
   .rw[z,Qf rfl]at r;have hr:=QsZ u c e R.pivot ω;have Jg:=ot u c e R.pivot;rw[Qf hr]at r;apply Qg f;simp only[go_sem,Qa,z];refine Jb f Qpp (B▸Qsy C c e R.pivot ω ω F.1 F.2 ω) λd h s=>?_;obtain⟨rfl,rfl⟩:=s;apply Zd f;refine⟨ω,_,?_,(Sort.partitionEqual Qq u c e R.pivot).2,(Sort.partitionEqual Qq u c e R.pivot).1,e,R.lim,i,k,t5,ω,ω,ω,ω,ω,r,rfl⟩;rw[<- ov,EA v];exact QN
def Qe1:∀n,QeW n
 | 0=>λ_ _ _ _ _ _ _ _ _ _ _ _ c=>absurd c (XL _)
 | n+1=>λh k g d e a b l j i f hz c=>Qs2 n (Qe1 n) e a b l j i f hz c
def Qs7(n)(h:n<1000000000):Sort.bitsLen n<=30:=(Sort.bitsLen_le_iff n 30).2 ω
def Qs8{h:List Ob}{lo g}{d:Array Int}(b:h[lo]? = some (Za g d))(c:d.size<1000000000):
  QI prog 208 h [.ref lo g 0 d.size] (λk j=>k=.tup []/\∃t,j=h.set lo (Za g (Sort.sort Qq d))++t):=by
 have n:=Qs7 _ c;have f:IntKind.u64.wrap (d.size:Int)=d.size:=η;refine QZ func208 ntmps208 results208 λe w m a=>?_;have l:=Qc b;simp only[go_sem,Qa,b,l,f];apply J2 a Qcb (Ua d.size ω);apply Zd a;refine Jb a ld (Qe1 (d.size+1) h lo g d b 0 d.size (Sort.bitsLen d.size) (KF _) (QB _) ω c ω) λd h i=>?_;obtain⟨rfl,t,rfl⟩:=i;apply Zd a;exact⟨t,rfl⟩
def cN(f:Nat->Int):Nat->List Int
 | 0=>[]
 | n+1=>if n≠0/\f n=f (n - 1) then cN f n else cN f n++[f n]
def Nw(f):∀n,(cN f n).length<=n
 | 0=>QB _
 | n+1=>by
  have:=Nw f n;rw[cN];split
  .omega
  .simp;omega
def oz(f)(x):∀n,x∈cN f n↔∃i,i<n/\f i=x
 | 0=>by simp[cN]
 | n+1=>by
  have d:=oz f x n;rw[cN];split
  .rename_i c;rw[d];constructor
   .rintro⟨i,b,a⟩;exact⟨i,ω,a⟩
   .rintro⟨i,b,a⟩;by_cases e:i=n
    .subst e;exact⟨i - 1,ω,by rw[<- c.2];exact a⟩
    .exact⟨i,ω,a⟩
  .rw[QW,d];simp only[qz];constructor
   .rintro (⟨i,b,a⟩|h)
    .exact⟨i,ω,a⟩
    .exact⟨n,ω,h.symm⟩
   .rintro⟨i,b,a⟩;by_cases e:i=n
    .subst e;exact Or.inr a.symm
    .exact Or.inl ⟨i,ω,a⟩
def IC(f):∀n,(cN f n).length=n->∀i,i<n->(cN f n).getD i 0=f i
 | 0,_,i,a=>absurd a (XL _)
 | n+1,h,i,a=>by
  have b:=Nw f n;rw[cN]at h ⊢;split at h
  .omega
  .rename_i c;rw[Qe c];simp at h;by_cases e:i=n
   .subst e;rw[Q5,JE ω,h,Di];rfl
   .rw[Q5,JD ω,<- Q5];exact IC f n h i ω
def Qs9(g)(d:Array Int)(i n)(x)(c:d.size=n)(e:i<n):
  (⟨.arr,g,1,n,λk=>bif k==i then [.raw (.int .u64 x)] else [.raw (.int .u64 d[k]!)]⟩:Ob)=Za g (d.setIfInBounds i x):=by
 subst c;unfold Za;congr 1
 .simp
 .funext k;unfold Bq uI;by_cases a:k=i
  .subst a;simp[e]
  .have f:(k==i)=false:=beq_eq_false_iff_ne.mpr a;rw[f];by_cases b:k<d.size
   .simp[a,b,Q1 a,fq]
   .simp[a,b]
def Qta{h:List Ob}{lo g}{d:Array Int}(a:h[lo]? = some (Za g d))(hz:d.size<1000000000):
  QI prog 209 h [.ref lo g 0 d.size] (λdd h'=>dd=.ref lo g 0 (cN (λi=>d[i]!) d.size).length/\∃q,h'=h.set lo ⟨.arr,g,1,d.size,q⟩/\(∀i,i<(cN (λi=>d[i]!) d.size).length->q i=[uI ((cN (λi=>d[i]!) d.size).getD i 0)])/\∀i,∃x,q i=[uI x]):=by
 by_cases c2:d.size<2
 .have J:decide ((d.size:Int)<2)=true:=Q3 ω;have o:(cN (λi=>d[i]!) d.size).length=d.size:=by
   have:d.size=0\/d.size=1:=ω;rcases this with h0|h0<;>rw[h0]<;>rfl
  rw[o];refine QZ func209 ntmps209 results209 λs w pl b=>?_;have n:=Qc a;simp only[go_sem,Qa,a,n,J];exact⟨Bq d,(vk a).symm,λi c=>by rw[IC _ _ o i c];rfl,λi=>⟨_,rfl⟩⟩
 .have J:decide ((d.size:Int)<2)=false:=QS ω;refine QZ func209 ntmps209 results209 λs w pl b=>?_;have n:=Qc a;simp only[go_sem,Qa,a,n,J];refine Z4 (λk B=>k+1<=d.size/\(cN (λi=>d[i]!) (k+1)).length=k+1/\B=⟨[(0,.ref lo g 0 d.size),(3,Qb (k+1:Nat))],h⟩) d.size (s0:=⟨[(0,.ref lo g 0 d.size),(3,Qb (0+1:Nat))],h⟩) QN ⟨ω,rfl,rfl⟩ ?_;rintro k _ hk ⟨Ql,r,rfl⟩;by_cases K:k+1<d.size
  .have I:decide (k+1<d.size)=true:=Q3 K;have v1:IntKind.i64.wrap (((k+1:Nat):Int) - 1)=((k:Nat):Int):=Zu;have Z:IntKind.i64.wrap (((k+1:Nat):Int)+1)=((k+1+1:Nat):Int):=Zu;have p0:k<d.size:=ω;apply Qg b;simp only[go_sem,Qa,a,n,I];apply Qw b o01;simp only[go_sem,Qa,a,n,v1,K,p0];by_cases Yr:d[k+1]! = d[k]!
   .have M:(d[k+1]! == d[k]!)=true:=beq_iff_eq.mpr Yr;have U:(cN (λi=>d[i]!) (k+1+1)).length=k+1:=by
     rw[cN,Qf ⟨ω,by simpa using Yr⟩,r]
    have q0:k+1<=d.size:=ω;generalize hN:d.size - (k+1)=N;have Y:((d.size:Int) - ((k+1:Nat):Int)).toNat=N:=ω;simp only[go_sem,M,q0,hN,Qa,a,n,Y];refine Z4 (λm B=>∃(d1:Array Int),d1.size=d.size/\m+1<=N/\(cN (λi=>d[i]!) (k+1+(m+1))).length<=k+1+m/\(∀i,i<(cN (λi=>d[i]!) (k+1+(m+1))).length->d1[i]! = (cN (λi=>d[i]!) (k+1+(m+1))).getD i 0)/\(∀j,(cN (λi=>d[i]!) (k+1+(m+1))).length<=j->d1[j]! = d[j]!)/\B=⟨[(0,.ref lo g 0 d.size),(3,Qb (cN (λi=>d[i]!) (k+1+(m+1))).length),(4,.ref lo g (k+1) N),(5,Qb (m+1:Nat))],h.set lo (Za g d1)⟩) N (s0:=⟨[(0,.ref lo g 0 d.size),(3,Qb (cN (λi=>d[i]!) (k+1+(0+1))).length),(4,.ref lo g (k+1) N),(5,Qb (0+1:Nat))],h.set lo (Za g d)⟩) ?_ ⟨d,rfl,ω,Nat.le_of_eq U,λi c=>?_,λj R=>rfl,rfl⟩ ?_
    .rw[vk a,U];exact QN
    .rw[cN,Qf ⟨ω,by simpa using Yr⟩]at c ⊢;exact(IC _ _ r i ω).symm
    rintro m _ hm ⟨d1,f,a0,Ra,L,y,rfl⟩;have l:=jY (g:=g) (d:=d1) n;have v:cN (λi=>d[i]!) (k+1+(m+1+1))=if d[k+1+(m+1)]! = d[k+1+m]! then cN (λi=>d[i]!) (k+1+(m+1)) else cN (λi=>d[i]!) (k+1+(m+1))++[d[k+1+(m+1)]!]:=by
     rw[show k+1+(m+1+1)=(k+1+(m+1))+1 by omega,cN];simp
    generalize S:cN (λi=>d[i]!) (k+1+(m+1))=C at *;generalize F:h.set lo (Za g d1)=H at l;have p:=Qc l;by_cases u:m+1<N
    .have em:decide (m+1<N)=true:=Q3 u;have Q:=y (k+1+(m+1)) ω;have r2:=y (k+1+m) ω;have P:k+1+(m+1)<d.size:=ω;have u2:k+1+m<d.size:=ω;have u3:m<N:=ω;have W:IntKind.i64.wrap (((m+1:Nat):Int) - 1)=(m:Int):=Zu;have O:IntKind.i64.wrap (((m+1:Nat):Int)+1)=((m+1+1:Nat):Int):=Zu;have V:IntKind.i64.wrap ((C.length:Int)+1)=((C.length+1:Nat):Int):=Zu;apply Qg b;simp only[go_sem,Qa,l,p,em];apply Qw b o01;simp only[go_sem,Qa,l,p,f,W,u,P,u2,u3,Q,r2];by_cases t:d[k+1+(m+1)]! = d[k+1+m]!
     .have E:(d[k+1+(m+1)]! != d[k+1+m]!)=false:=by rw[t];exact bne_self_eq_false _
      rw[Qf t]at v;simp only[go_sem,E,O];rw[v];refine⟨ω,_,?_,d1,f,ω,ω,L,y,rfl⟩;rw[<- F];exact QN
     .have E:(d[k+1+(m+1)]! != d[k+1+m]!)=true:=bne_iff_ne.mpr t;have z:C.length<d.size:=ω;rw[Qe t]at v;simp only[go_sem,E,O,V,Qa,l,p,f,P,u,z,Q];rw[Qs9 g d1 _ _ _ f z,v];refine⟨ω,_,?_,d1.setIfInBounds C.length d[k+1+(m+1)]!,by simp;exact f,ω,ξ,λi c=>?_,λj R=>?_,rfl⟩
      .rw[<- F,Jn,JJ,jt];exact QN
      .simp only[JJ,jt]at c;by_cases e:i=C.length
       .subst e;rw[Q5,JE (QB _),Di];simp[f,z]
       .rw[Q5,JD ω,<- Q5,<- L i ω];simp[Q1 e,Lk,w9,yd]
      .simp only[JJ,jt]at R;rw[<- y j ω];simp[show C.length≠j by omega,Lk,w9,yd]
    .have em:decide (m+1<N)=false:=QS u;have oA:k+1+(m+1)=d.size:=ω;rw[oA]at S;rw[S];have T:C.length<=d.size:=ω;have g2:((d.size:Int) - (C.length:Int)).toNat=d.size - C.length:=ω;apply Qg b;simp only[go_sem,Qa,l,p,em];apply Qg b;simp only[go_sem,Qa,l,p,f,T,g2];refine lF xB b rfl l rfl rfl rfl rfl (by dsimp only[Za];omega) rfl rfl rfl rfl ?_;apply Qg b;simp only[go_sem,Qa,Qv p,p,f,T];refine⟨σ,qb C.length (d.size - C.length) [D.raw (.int .u64 0)] (Bq d1),?_,λi c=>?_,λi=>?_⟩
     .rw[<- F,Jn]
     .rw[lB c];show [uI d1[i]!]=_;rw[L i c];rfl
     .unfold qb;cases Nat.ble C.length i&&Nat.blt i (C.length+(d.size - C.length))
      .exact⟨d1[i]!,rfl⟩
      .exact⟨0,rfl⟩
   .have M:(d[k+1]! == d[k]!)=false:=beq_eq_false_iff_ne.mpr Yr;simp only[go_sem,M,Z];refine⟨ω,_,?_,ω,?_,rfl⟩
    .exact QN
    .rw[cN,Qe (by simpa using Yr)];simp[r]
  .have I:decide (k+1<d.size)=false:=QS K;obtain Jw:k+1=d.size:=ω;rw[Jw]at r;apply Qg b;simp only[go_sem,Qa,a,n,I];apply Zd b;rw[r];exact⟨rfl,Bq d,(vk a).symm,λi c=>by rw[IC _ _ r i c];rfl,λi=>⟨_,rfl⟩⟩
def ED:IntKind.i64.wrap 1=1:=π
def CA:IntKind.i64.wrap 0=0:=π
def Qe2(F:List Ob)(f a:Nat)(b:List D)(g:Nc->Bool):Prop:=∀(h:List Ob) (c:Nc),KN F h->QR prog f h (ZS a b [Cn c]) (λd=>d=QT (g c))
def IF(g:Nc->Bool)(l:List Nc):Int:=match l.findIdx? g with
 | some i=>i
 | none=>-1
def Qtc{g}{l:List Nc}{k}(a:k<l.length)(h:∀i,i<k->g (l.getD i default)=false)(c:g (l.getD k default)=true):IF g l=k:=by
 have e:l.findIdx? g=some k:=by
  rw[E0];refine⟨a,by simpa[Q5,a] using c,λi b=>?_⟩;have:=h i b;simpa[Q5,show i<l.length by omega] using this
 rw[IF,e]
def Qtd{g}{l:List Nc}(h:∀i,i<l.length->g (l.getD i default)=false):IF g l=-1:=by
 have e:l.findIdx? g=none:=by
  rw[GX];intro x hx;obtain⟨i,a,rfl⟩:=yh hx;have:=h i a;simpa[Q5,a] using this
 rw[IF,e]
def Qte(g)(l:List Nc):decide (0<=IF g l)=l.any g:=by
 unfold IF;cases h:l.findIdx? g with
 | some i=>
  obtain⟨b,a,_⟩:=E0.1 h;have e:l.any g=true:=EY.2 ⟨_,XK b,a⟩;rw[e];simp
 | none=>
  have:=GX.1 h;have e:l.any g=false:=by rw[List.any_eq_false];intro x hx;simp[this x hx]
  rw[e];decide
section
variable (h:List Ob)(l:List Nc)(hlen:l.length<1048576)
include hlen
theorem Qtf(b:D)(f m:Nat)(p:List D)(t:Qk prog f)(z:Jo b=some (f,m,p))(e:Nc->Bool)(r:Qe2 (h.map Ob.ro) f m p e):
  QR prog 207 h [XD l,b] (λd=>d=Qb (IF e l)):=by
 refine Zk func207 ntmps207 results207 λq w B F v C c=>?_;simp only[go_sem,Qa];refine Z4 (λk s=>(∀i,i<k->e (l.getD i default)=false)/\s=⟨[(0,XD l),(1,b),(7,Qb l.length),(8,Qb k)],F⟩) l.length QN ⟨λi o=>absurd o ω,rfl⟩ ?_;rintro k s n ⟨g,rfl⟩;apply QC c;have y:=KJ (show k<4611686018427387904 from ω);first|refine jL n (λa=>?_) (λa=>?_)|refine jM n (λa=>?_) (λa=>?_)
 .simp only[go_sem,Qa,a];refine Xj c t z ?_ (r F (l.getD k default) (by rw[<- v];exact KN.refl F)) rfl λd2 u=>?_
  .simp only[go_sem];exact Cd _
  subst u;apply Qg c;cases j:e (l.getD k default)
  .simp only[go_sem,Qa];refine⟨a,_,QF.frame (fr':=[(0,XD l),(1,b),(7,Qb l.length),(8,Qb (k+1:Nat))]) (by simp only[go_sem,y]),λi o=>?_,rfl⟩;by_cases x:i<k
   .exact g i x
   .have:i=k:=ω;subst this;exact j
  .rw[Qtc a g j];simp only[go_sem,Qa];exact⟨[],(Jl F).symm⟩
 .have a:k=l.length:=ω;subst a;simp only[go_sem,G4];rw[Qtd g];apply QC c;exact⟨[],(Jl F).symm⟩
theorem Qtg(a:D)(f b:Nat)(e:List D)(k:Qk prog f)(q:Jo a=some (f,b,e))(c:Nc->Bool)(j:Qe2 (h.map Ob.ro) f b e c):
  QR prog 156 h [XD l,a] (λd=>d=QT (l.any c)):=by
 rw[<- Qte];refine Zk func156 ntmps156 results156 λi w r F o s g=>?_;simp only[go_sem,Qa];refine Xj g Qo5 rfl ?_ (Qtf F l hlen a f b e k q c (λp n hx=>?_)) rfl λd2 m=>?_
 .simp only[go_sem];exact Cc a
 .rw[o,bE]at hx;exact j p n hx
 subst m;apply QC g;exact⟨[],(Jl F).symm⟩
end
def Qth(h)(c:Nc):QR prog 157 h [Cn c] (λd=>d=QT (c.of==0)):=by
 refine Zk func157 ntmps157 results157 λb w e F f g a=>?_;simp only[go_sem,Qa];apply YC a MA (nw c.a c.d c.b);apply QC a;refine⟨_,rfl,?_⟩;simp only[bne,Bool.not_not];rfl
def Qe3(l:List Nc):Bool:=l.any λc=>c.of==0
def y5(t:Int)(l:List Nc):Int:=if t<1\/65536<t then 1 else if Qe3 l=true then 21 else 0
def cW(t)(l:List Nc)(f:l.length<1048576):Q6 prog 119 [Qb t,XD l] (Zm (Qb (y5 t l))):=by
 have a:=Qtg [] l f (.raw (.func (.func 157) ⟨[]⟩ ⟨[]⟩)) 157 0 [] QoQ rfl (λc=>c.of==0) (λi c _=>Qth i c);rw[show (l.any λc=>c.of==0)=Qe3 l from rfl]at a;refine Zs 0 func119 ntmps119 results119 λe w b=>?_;simp only[go_sem]
 repeat' (first|((first|refine FK (λh=>?_) (λh=>?_)|refine FL (λh=>?_) (λh=>?_)|refine FM (λh=>?_) (λh=>?_)|refine vZ (λh=>?_) (λh=>?_)|refine FN (λh=>?_) (λh=>?_)|refine FO (λh=>?_) (λh=>?_)|refine FP (λh=>?_) (λh=>?_)|refine FH (λh=>?_) (λh=>?_))<;>(try simp only[go_sem,Go.undef]))|(refine And.intro δ ?_;try simp only[go_sem,Go.undef])|(refine Xj b QoP rfl ?_ (a) rfl ?_;(· simp only[go_sem,Qa,Go.undef]);intro d g;subst g;apply Qg b;simp only[go_sem,Qa,Go.undef])|fail)
 all_goals (congr 2;unfold y5;simp_all;try omega)
end Go.Fg.X
namespace Go.Fg.X
open Go.Proofs Go.Fg
open Go.RowKit (Below)
open Go.Proofs.Tryz
def Zg.nil{Z}{a}{w}:Zg Z a [] [] w:=⟨rfl,λl f b q d c g=>by simp at c,λl o e=>by simp at e,λl o b q e=>by simp at e⟩
def Qti{P}{f}{j}{R}(r:D)(C:r.upto 0=true)
  (U:∀d u,R d u->JG 6 d r\/∃c g m n a,u[c]? = some ⟨.arr,g,m,n,a⟩/\(∀i,i<n->(a i).all D.Yu=true)/\JG 6 (D.fz c g n m a d) r) (h:Q6 P f j R):Q6 P f j (Zm r):=by
 intro Z s w N M h1 J I S V;have Zf:N=[]:=by have:=I.len;simpa using this
 subst Zf;refine(h Z s w [] M h1 J I S V).mono λe L T=>?_;obtain⟨v,d,u,K,rfl,W,x,F,H,Y⟩:=T;suffices z:Qy Z [] [] L r v by
  exact⟨v,_,[],[],rfl,⟨rfl,rfl⟩,Zg.nil,z,⟨λb E Qc=>⟨E,(H.Kg b E Qc).2⟩,λl o p e=>by simp at e,λl o B b q e=>by simp at e⟩,Y⟩
 rcases U _ _ W with k|⟨c,g,m,n,a,y,Z1,k⟩
 .exact(kR 6 k F).take C
 have Qc:c<K.length:=by rw[x.len];exact(Wh.1 y).1
 obtain⟨p,t⟩:∃p,K[c]? = some p:=⟨_,QP Qc⟩;have Ga:=F.fz (l:=c) (o:=⟨.arr,g,m,n,a⟩) (p:=p) y t rfl (λb q e=>by
  subst e;refine⟨J b ?_,λO q' e'=>?_,(x.at_ c _ b q y t).2.cells rfl⟩
  .rcases Ar b w.heap.size with Qc|Q
   .exact absurd t ((H.Kg b (λi q e=>by simp at e) Qc).1 c q)
   .exact Q
  .exact x.inj _ _ _ _ _ e' t) Z1 (h':=u.set c (Ob.gone ⟨.arr,g,m,n,a⟩)) (λO B QA e=>by
  exact⟨B,by rw[Jf (Q1 QA)];exact e,rfl,rfl,rfl⟩)
 exact(kR 6 k Ga).take C
end Go.Fg.X
namespace Go.Fg
def Kd.Qe5(k:Kd):k.Pt k:=by cases k<;>simp[Kd.Pt,Kd.ty]
def Qe6(o):LS o o:=⟨rfl,rfl,rfl,Kd.Qe5 _,λ_ _=>rfl⟩
def Qe7:∀h:List Ob,AM h h
 | []=>trivial
 | o::r=>⟨Qe6 o,Qe7 r⟩
def Qe8:∀{h:List Ob} {l:Nat} {o:Ob} (a:Nat->List D),h[l]? = some o->(∀i,i<o.n->o.row i=a i)->AM h (h.set l ⟨o.kd,o.gen,o.sz,o.n,a⟩)
 | [],l,o,a,e,_=>by simp at e
 | x::r,0,o,a,e,b=>by
  simp only[List.getElem?_cons_zero,QX]at e;subst e;exact⟨⟨rfl,rfl,rfl,Kd.Qe5 _,λi c=>(b i c).symm⟩,Qe7 r⟩
 | x::r,l+1,o,a,e,b=>⟨Qe6 x,Qe8 (h:=r) a (by simpa using e) b⟩
def QF.rows{c}{b}{h:List Ob}(l){o:Ob}(a)(d:h[l]? = some o)(e:∀i,i<o.n->o.row i=a i):QF c ⟨b,h⟩ ⟨b,h.set l ⟨o.kd,o.gen,o.sz,o.n,a⟩⟩:=(Wk.FF (Qe8 a d e)).up
end Go.Fg
namespace Go.Fg.X
open Go.Proofs Go.Fg
open Go.Proofs.Tryz
def EE(c:Nc):Bool:=c.of==3 || c.of==4
def WW(l:List Nc):List Int:=(l.filter EE).map λc=>(c.d:Int)
def Qtj(l:List Nc)(i)(h:i<l.length):WW (l.take (i+1))=if EE (l.getD i default)=true then WW (l.take i)++[((l.getD i default).d:Int)] else WW (l.take i):=by
 unfold WW;rw[E9,QP h];simp only[Option.toList_some,OF,Q5,QP h,KV,ju];by_cases a:EE l[i]=true
 .rw[Qf a,OH a];rfl
 .rw[Qe a,OG a];simp
def oB(l:List Nc)(i):(WW (l.take i)).length<=i:=by
 have:=YU EE (l.take i);simp only[WW,JV];simp at this;omega
def ji(l:List Nc):Array Int:=Sort.sort Qq (WW l).toArray
def WI(l:List Nc):List Int:=cN (λi=>(ji l)[i]!) (ji l).size
def oD(l:List Nc):(ji l).size=(WW l).length:=by
 unfold ji Sort.sort;rw[Gm _ _ _ _ _ _ _ (QB _)];rfl
def Qtk(l:List Nc):(ji l).toList.Perm (WW l):=by
 have h:=(Sort.sort_sorts Qq QeV (WW l).toArray).1.2.2;have a:((Sort.sort Qq (WW l).toArray).extract 0 (WW l).toArray.size).toList=(ji l).toList:=by
  have:=oD l;unfold ji at this ⊢;rw[show (WW l).toArray.size=(Sort.sort Qq (WW l).toArray).size from this.symm];simp
 rw[a]at h;simpa using h
def Qtl(l)(x):x∈WI l↔∃c,c∈l/\EE c=true/\(c.d:Int)=x:=by
 unfold WI;rw[oz];have d:(∃i,i<(ji l).size/\(ji l)[i]! = x)↔x∈(ji l).toList:=by
  rw[List.mem_iff_getElem];constructor
  .rintro⟨i,a,e⟩;exact⟨i,by simpa using a,by rw[<- e,Lk,w9,zF a];simp⟩
  .rintro⟨i,a,e⟩;have b:i<(ji l).size:=by simpa using a
   exact⟨i,b,by rw[<- e,Lk,w9,zF b];simp⟩
 rw[d,(Qtk l).mem_iff];simp[WW,and_assoc]
@[go_sem] def Nx(K:List Int):D:=.imm 1 K.length λi=>[uI (K.getD i 0)]
def Qtm{M:List Int}{a}(c:xL (λn:Int=>[uI n]) M 0 a):∀i,i<M.length->a i=Bq M.toArray i:=λi b=>by
 have:=c.at_ i b;rw[Jv]at this;rw[this];unfold Bq;simp[Q5,QP b,b]
def Qtn(l:List Nc)(T:l.length<1048576):Q6 prog 159 [XD l] (Zm (Nx (WI l))):=by
 refine Qti (Nx (WI l)) rfl (?_:∀d H,(∃g n b,d=.ref 0 g 0 (WI l).length/\H=[⟨.arr,g,1,n,b⟩]/\(∀i,i<n->(b i).all D.Yu=true)/\(WI l).length<=n/\∀i,i<(WI l).length->b i=[uI ((WI l).getD i 0)])->_) ?_
 .rintro d H ⟨g,n,b,rfl,rfl,C,O,ZR⟩;right;refine⟨0,g,1,n,b,rfl,C,?_⟩;have Q:D.fz 0 g n 1 b (.ref 0 g 0 (WI l).length)=.imm 1 (WI l).length (rowFrom 0 b):=by simp[D.fz,DI,O]
  rw[Q];simp only[Nx];rw[DN];refine⟨rfl,rfl,λi k=>?_⟩;rw[DL,Jv,ZR i k];exact wc (qH _) _
 refine Zs 1 func159 ntmps159 results159 λL w f=>?_;simp only[go_sem];refine Z4 (λi s=>∃g b,xL (λn:Int=>[uI n]) (WW (l.take i)) 0 b/\s=⟨[(3,.ref 0 g 0 (WW (l.take i)).length),(7,XD l),(8,Qb l.length),(9,Qb i)],[⟨.arr,g,1,(WW (l.take i)).length,b⟩]⟩) l.length
  (s0:=⟨[(3,.ref 0 0 0 0),(7,XD l),(8,Qb l.length),(9,Qb 0)],[⟨.arr,0,1,0,λ_=>[]⟩]⟩)
  (QF.trans (QF.BH 3 1 (λi=>[]) rfl) QN) ⟨0,λ_=>[],.nil,rfl⟩ ?_
 rintro i s k ⟨g,b,o,rfl⟩;have C:=oB l i;have B:=KJ (show i<4611686018427387904 from ω);apply Zd f;first|refine jL k (λr=>?_) (λr=>?_)|refine jM k (λr=>?_) (λr=>?_)
 .obtain⟨M,J⟩:∃M,M=WW (l.take i):=⟨_,rfl⟩;obtain⟨e,I⟩:∃e,e=l.getD i default:=⟨_,rfl⟩;have c:=Qtj l i r;rw[<- J,<- I]at c;rw[<- J]at o C ⊢;have F:M.length<=4294967295:=ω;have y:xL (λn:Int=>[uI n]) (M++[(e.d:Int)]) 0 (J7 M.length 0 b λ_=>[uI e.d]):=o.app (e.d:Int) rfl;simp only[go_sem,r,<- I];apply J2 f DP (Rt e.a e.d e.b);apply Zd f;cases p:Vq e.a e.d e.b==3
  .cases u:Vq e.a e.d e.b==4
   .have f:EE e=false:=by show (Vq e.a e.d e.b==3 || Vq e.a e.d e.b==4)=false;rw[p,u];rfl
    rw[f,Qe π]at c;simp only[go_sem,p,u,Go.undef];repeat (refine And.intro ω ?_)
    refine⟨_,QF.to 1 ⟨?_,by simp only[go_sem],?_,?_⟩,g,b,by rw[c];exact o,rfl⟩
    .simp only[go_sem,B,c,JJ,jt]
    .exact⟨λj q=>o.upto (λa=>rfl) j (by have m:=q;simp only[c]at m;simpa using m),trivial⟩
    .simp only[go_sem,c,JJ,jt]
   .have f:EE e=true:=by show (Vq e.a e.d e.b==3 || Vq e.a e.d e.b==4)=true;rw[p,u];rfl
    rw[f,Qf rfl]at c;simp only[go_sem,p,u,Go.undef,F];repeat (refine And.intro ω ?_)
    refine⟨_,QF.to 1 ⟨?_,by simp only[go_sem],?_,?_⟩,g+1,_,by rw[c];exact y,rfl⟩
    .simp only[go_sem,B,c,JJ,jt]
    .exact⟨λj q=>y.upto (λa=>rfl) j (by have m:=q;simp only[c]at m;simpa using m),trivial⟩
    .simp only[go_sem,c,JJ,jt]
  .have f:EE e=true:=by show (Vq e.a e.d e.b==3 || Vq e.a e.d e.b==4)=true;rw[p];rfl
   rw[f,Qf rfl]at c;simp only[go_sem,p,Go.undef,F];repeat (refine And.intro ω ?_)
   refine⟨_,QF.to 1 ⟨?_,by simp only[go_sem],?_,?_⟩,g+1,_,by rw[c];exact y,rfl⟩
   .simp only[go_sem,B,c,JJ,jt]
   .exact⟨λj q=>y.upto (λa=>rfl) j (by have m:=q;simp only[c]at m;simpa using m),trivial⟩
   .simp only[go_sem,c,JJ,jt]
 .have P:i=l.length:=ω;subst P;rw[zG]at o ⊢;have R:(WW l).toArray.size=(WW l).length:=rfl;have U:(WW l).length<=l.length:=by have:=oB l l.length;rw[zG]at this;exact this
  have v:=oD l;have S:=Nw (λi=>(ji l)[i]!) (ji l).size;apply Zd f;refine B6 (QF.rows 0 (Bq (WW l).toArray) (by exact rfl) ?_) ?_
  .intro i k;dsimp only at k ⊢;exact Qtm o i k
  simp only[go_sem];refine Vo f Qo6 rfl ?_ (Qs8 (h:=[Za g (WW l).toArray]) (lo:=0) (g:=g) (d:=(WW l).toArray) rfl (by rw[R];omega)) rfl λd h z=>?_
  .simp only[go_sem,E8]
  obtain⟨rfl,t,rfl⟩:=z;apply Qg f;simp only[go_sem,E8];refine Jb f Qo7 (v▸Qta (h:=[Za g (WW l).toArray].set 0 (Za g (ji l))++t) (lo:=0) (g:=g) (d:=ji l) rfl ω) λd h z=>?_;obtain⟨rfl,N,rfl,E,K⟩:=z;apply Zd f;refine⟨λi k=>?_,g,(WW l).length,N,?_,rfl,λi k=>?_,?_,?_⟩
  .obtain⟨x,hx⟩:=K i;rw[hx];rfl
  .unfold WI;rw[v]
  .obtain⟨x,hx⟩:=K i;rw[hx];rfl
  .unfold WI;omega
  .intro i k;have:=E i (by unfold WI at k;rw[v]at k;exact k);rw[this];unfold WI;rw[v];rfl
def Qtp(F:List Ob)(f a:Nat)(b:List D)(K:List Int)(g:Int->Bool):Prop:=∀(h:List Ob) (x:Int),x∈K->KN F h->QR prog f h (ZS a b [uI x]) (λd=>d=QT (g x))
def wP(g:Int->Bool)(l:List Int):Int:=match l.findIdx? g with
 | some i=>i
 | none=>-1
def Qtq{g}{l:List Int}{k}(a:k<l.length)(h:∀i,i<k->g (l.getD i 0)=false)(c:g (l.getD k 0)=true):wP g l=k:=by
 have e:l.findIdx? g=some k:=by
  rw[E0];refine⟨a,by simpa[Q5,a] using c,λi b=>?_⟩;have:=h i b;simpa[Q5,show i<l.length by omega] using this
 rw[wP,e]
def Qtr{g}{l:List Int}(h:∀i,i<l.length->g (l.getD i 0)=false):wP g l=-1:=by
 have e:l.findIdx? g=none:=by
  rw[GX];intro x hx;obtain⟨i,a,rfl⟩:=yh hx;have:=h i a;simpa[Q5,a] using this
 rw[wP,e]
def Qts(g)(l:List Int):decide (0<=wP g l)=l.any g:=by
 unfold wP;cases h:l.findIdx? g with
 | some i=>
  obtain⟨b,a,_⟩:=E0.1 h;have e:l.any g=true:=EY.2 ⟨_,XK b,a⟩;rw[e];simp
 | none=>
  have:=GX.1 h;have e:l.any g=false:=by rw[List.any_eq_false];intro x hx;simp[this x hx]
  rw[e];decide
def Qtt{g}{l:List Int}(h:0<=wP g l):(wP g l).toNat<l.length:=by
 unfold wP at h ⊢;cases e:l.findIdx? g with
 | some i=>obtain⟨a,_⟩:=E0.1 e;simpa using a
 | none=>rw[e]at h;simp at h
def Qtu{l:List Int}{i}(h:i<l.length):l.getD i 0∈l:=by
 rw[Q5,QP h];exact XK h
section
variable (h:List Ob)(K:List Int)(hlen:K.length<1048576)
include hlen
theorem Qtv(b:D)(f l:Nat)(o:List D)(r:Qk prog f)(y:Jo b=some (f,l,o))(e:Int->Bool)(q:Qtp (h.map Ob.ro) f l o K e):
  QR prog 160 h [Nx K,b] (λd=>d=Qb (wP e K)):=by
 refine Zk func160 ntmps160 results160 λp w z F u B c=>?_;simp only[go_sem,Qa];refine Z4 (λk s=>(∀i,i<k->e (K.getD i 0)=false)/\s=⟨[(0,Nx K),(1,b),(7,Qb K.length),(8,Qb k)],F⟩) K.length QN ⟨λi n=>absurd n ω,rfl⟩ ?_;rintro k s m ⟨g,rfl⟩;apply QC c;have x:=KJ (show k<4611686018427387904 from ω);first|refine jL m (λa=>?_) (λa=>?_)|refine jM m (λa=>?_) (λa=>?_)
 .simp only[go_sem,Qa,a];refine Xj c r y ?_ (q F (K.getD k 0) (Qtu a) (by rw[<- u];exact KN.refl F)) rfl λd2 t=>?_
  .simp only[go_sem];exact Cd _
  subst t;apply Qg c;cases j:e (K.getD k 0)
  .simp only[go_sem,Qa];refine⟨a,_,QF.frame (fr':=[(0,Nx K),(1,b),(7,Qb K.length),(8,Qb (k+1:Nat))]) (by simp only[go_sem,x]),λi n=>?_,rfl⟩;by_cases v:i<k
   .exact g i v
   .have:i=k:=ω;subst this;exact j
  .rw[Qtq a g j];simp only[go_sem,Qa];exact⟨[],(Jl F).symm⟩
 .have a:k=K.length:=ω;subst a;simp only[go_sem,G4];rw[Qtr g];apply QC c;exact⟨[],(Jl F).symm⟩
end
def Qtw(l:List Nc):(WI l).length<=l.length:=by
 have c:=Nw (λi=>(ji l)[i]!) (ji l).size;have b:=oD l;have a:=oB l l.length;rw[zG]at a;unfold WI;omega
def Qtx{l}{x}(b:x∈WI l):∃n:Nat,x=(n:Int)/\0<n/\n<=1048576:=by
 obtain⟨c,e,a,d⟩:=(Qtl l x).1 b;refine⟨c.d,d.symm,?_⟩;unfold EE Nc.of Vq at a;simp only[Aq,zH]at a
 repeat' split at a
 all_goals first|omega|(exfalso;revert a;decide)|skip
def RM(l:List Nc)(k:Nat):Nat:=Co (λc=>wK c.a c.d c.b k) l
def Bu(t:Nat)(l:List Nc)(x:Int):Bool:=decide (65536*x.toNat<RM l x.toNat*t)
def Qty{l:List Nc}(f:l.length<1048576)(a:∀c∈l,c.Lt){k}(i:k<=1048576):RM l k<2 ^ 111:=by
 have m:=cz (g:=λc=>wK c.a c.d c.b k) (M:=2 ^ 60) (λc h=>by
  show wK c.a c.d c.b k<=_;unfold wK;split
  .decide
  .rename_i b;obtain⟨e,d,p⟩:=nv b;have o:c.a*min k c.d<=4294967295*1048576:=vL e ω;have n:c.b*(k - min k c.d)<=4294967295*1048576:=vL d ω;omega) (l:=l) (s:=0) a
 have j:=YV (2 ^ 60) (show l.length<=1048576 from ω);unfold RM Co;omega
def oE(t:Nat)(l:List Nc):Bool:=decide (65536<Co (λc=>c.b) l*t)
def oF(t:Nat)(l:List Nc):Bool:=(WI l).any (Bu t l) || oE t l
def oG(t:Nat)(l:List Nc):D:=if (WI l).any (Bu t l)=true then .tup [uI ((WI l).getD (wP (Bu t l) (WI l)).toNat 0),QT true] else .tup [u64 0,QT (oE t l)]
def Qtz{l:List Nc}(b:l.length<1048576)(a:∀c∈l,c.Lt):Co (λc=>c.b) l<2 ^ 111:=by
 have e:=cz (g:=λc=>c.b) (M:=2 ^ 64) (λc h=>by have:=h.2.2;omega) (l:=l) (s:=0) a;have d:=YV (2 ^ 64) (show l.length<=1048576 from ω);unfold Co;omega
def QtA(h:List Ob)(t:Nat)(l:List Nc)(i:l.length<1048576)(j:∀c∈l,c.Lt)(p:t<=65536)(m k:Nat)(b:(h.map Ob.ro)[m]? = some ⟨.Wy,0,1,1,λ_=>[XD l]⟩)(a:(h.map Ob.ro)[k]? = some ⟨.Wy,0,1,1,λ_=>[Qb t]⟩)(n:Nat)(r:n<=1048576):
  QR prog 161 h [uI n,.ptr m 0 0 0,.ptr k 0 0 0] (λd=>d=QT (Bu t l n)):=by
 have q:Q6 prog 163 [XD l,u64 n] (Zm (num (RM l n))):=QrQ l n ω i j;have s:=Qec (RM l n) t n (Qty i j r) p ω;refine Zk func161 ntmps161 results161 λo w v F u x e=>?_;rw[<- u]at b a;have f:=Qc b;have g:=Qc a;simp only[go_sem,Qa,b,f,a,g];apply Qw e [0,1,3,4,1002,1005,6];simp only[go_sem,Qa,b,f,a,g];refine KK e QoU ?_ q ?_
 .simp only[go_sem,Qa,b,f,a,g]
 apply Q7 e;simp only[go_sem,Qa,b,f,a,g];apply MI e Qcf s;apply Xy e;exact⟨[],(Jl F).symm,rfl⟩
def QtB(t:Nat)(l:List Nc)(e:l.length<1048576)(g:∀c∈l,c.Lt)(f:y5 t l=0):Q6 prog 120 [Qb t,XD l] (Zm (oG t l)):=by
 have o:t<=65536:=by unfold y5 at f;split at f;cases f;omega
 have y:=Qec (Co (λc=>c.b) l) t 1 (Qtz e g) o π;have r:(y5 t l != 0)=false:=by rw[f];rfl
 have F:=Qtw l;refine Zs 0 func120 ntmps120 results120 λs w a=>?_;simp only[go_sem];refine Jk a aU ?_ (cW t l e) ?_
 .simp only[go_sem,r]
 apply Qg a;simp only[go_sem,r];refine kQ a [] QoR rfl ?_ (Qtn l e) rfl λd h i=>?_
 .simp only[go_sem]
 obtain⟨rfl,rfl⟩:=i;simp only[go_sem];apply Zd a;have v:=Qtv [⟨.one,0,1,1,λ_=>[Qb t]⟩,⟨.one,0,1,1,λ_=>[XD l]⟩] (WI l) ω (.clo 161 0 [.ptr 1 0 0 0,.ptr 0 0 0 0]) 161 0 [.ptr 1 0 0 0,.ptr 0 0 0 0] QoT rfl (Bu t l) (λC x hx m=>by
  obtain⟨n,rfl,B,z⟩:=Qtx hx;obtain⟨E,rfl⟩:=m;exact QtA _ t l e g o 1 0 rfl rfl n z)
 refine Xj a QoS rfl ?_ v rfl λd2 i=>?_
 .simp only[go_sem];try exact Cd _
 subst i;have b:=Qts (Bu t l) (WI l);unfold oG;cases q:(WI l).any (Bu t l)
 .rw[q]at b;rw[Qe π];apply Qg a;simp only[go_sem,b];apply Qw a [0,2,1001,1003,4,5];simp only[go_sem];apply Vc a QoV (QrO l e g);apply VG a;apply Vc a Qcf y;apply VG a;rfl
 .rw[q]at b;rw[Qf rfl];have u:0<=wP (Bu t l) (WI l):=Yo b;have k:=Qtt u;obtain⟨j,p⟩:∃j:Nat,wP (Bu t l) (WI l)=(j:Int):=⟨(wP (Bu t l) (WI l)).toNat,ω⟩;rw[p]at b k ⊢;rw[Int.toNat_natCast]at k;apply Qg a;simp only[go_sem,b,p,k];first|rfl|exact⟨rfl,rfl⟩|trace_state
def CC(t:Int)(l:List Nc):Int:=if y5 t l≠0 then y5 t l else if oF t.toNat l=true then 22 else 0
def QtD(t)(l:List Nc)(h:l.length<1048576)(k:∀c∈l,c.Lt):Q6 prog 84 [Qb t,XD l] (Zm (Qb (CC t l))):=by
 by_cases b:y5 t l=0
 .have j:∃n:Nat,t=(n:Int):=⟨t.toNat,by unfold y5 at b;split at b;cases b;omega⟩;obtain⟨n,rfl⟩:=j;have f:(y5 n l != 0)=false:=by rw[b];rfl
  have e:CC n l=if oF n l=true then 22 else 0:=by rw[CC,Qe (by simpa using b)];rfl
  rw[e];have g:=QtB n l h k b;unfold oG at g;unfold oF;cases i:(WI l).any (Bu n l)
  .rw[i,Qe π]at g;rw[OC];refine Zs 0 func84 ntmps84 results84 λd w a=>?_;simp only[go_sem];refine Jk a aU ?_ (cW n l h) ?_
   .simp only[go_sem,f]
   apply Qg a;simp only[go_sem,f];apply J2 a Qb9 g;apply Zd a;cases oE n l
   .simp only[go_sem]
   .simp only[go_sem]
  .rw[i,Qf rfl]at g;rw[Bool.true_or,Qf rfl];refine Zs 0 func84 ntmps84 results84 λd w a=>?_;simp only[go_sem];refine Jk a aU ?_ (cW n l h) ?_
   .simp only[go_sem,f]
   apply Qg a;simp only[go_sem,f];apply J2 a Qb9 g;exact ze a
 .have f:(y5 t l != 0)=true:=by simpa using b
  have e:CC t l=y5 t l:=by rw[CC,Qf b]
  rw[e];refine Zs 0 func84 ntmps84 results84 λd w a=>?_;simp only[go_sem];refine Jk a aU ?_ (cW t l h) ?_
  .simp only[go_sem,f]
  apply Qg a;simp only[go_sem,f]
end Go.Fg.X
namespace Go.Fg.X
open Go.Proofs Go.Fg
open Go.Proofs.Tryz
@[go_sem] def oDg(n:Nat):Ob:=⟨.one,0,4,1,λ_=>[u64 (d0 n),u64 (d1 n),u64 (d2 n),u64 (d3 n)]⟩
end Go.Fg.X
namespace Go.Fg.X
open Go.Proofs Go.Fg
open Go.Proofs.Tryz
def Qe9:IntKind.i64.wrap 2=2:=π
end Go.Fg.X
namespace Go.Fg.X
open Go.Proofs Go.Fg
open Go.Proofs.Tryz
def Qfa{b:Type}[Inhabited b](L:List b)(g)(i:Nat)(h:i<L.length):(L.take (i+1)).filter g=if g (L.getD i default)=true then (L.take i).filter g++[L.getD i default] else (L.take i).filter g:=by
 rw[E9,QP h];simp only[Option.toList_some,OF,Q5,QP h,KV];by_cases a:g L[i]=true
 .rw[Qf a,OH a];rfl
 .rw[Qe a,OG a];simp
def QtE{a:Type}(L:List a)(g:a->Bool)(i:Nat):((L.take i).filter g).length<=i:=by
 have:=YU g (L.take i);simp at this;omega
end Go.Fg.X
namespace Go.Fg.X
open Go.Proofs Go.Fg
open Go.Proofs.Tryz
def vn(g:Int->Bool)(l:List Int):List Int:=l.filter λx=>!g x
def QtF{g}{l:List Int}:(wx g l=-1/\vn g l=l)\/∃i,i<l.length/\wx g l=(i:Int)/\g (l.getD i 0)=true/\(l.take (i+1)).filter (λx=>!g x)=l.take i:=by
 unfold wx;cases h:l.findIdx? g with
 | none=>
  refine .inl ⟨rfl,yf.2 λx hx=>?_⟩;simp[GX.1 h x hx]
 | some i=>
  obtain⟨a,b,d⟩:=E0.1 h;refine .inr ⟨i,a,rfl,by simpa[Q5,a] using b,?_⟩;rw[Qfa l _ i a,Qe (by simpa[Q5,a] using b)];refine yf.2 λx hx=>?_;obtain⟨j,c,rfl⟩:=yh hx;simp at c;simpa using d j ω
section
variable (h:List Ob)(l:List Int)(lo gn off:Nat)(row:Nat->List D)(hlen:l.length<1000000)(ho:h[lo]? = some ⟨.arr,gn,1,off+l.length,row⟩)(hr:∀i,i<l.length->row (off+i)=[Qb (l.getD i 0)])
include hlen ho hr
end
def KE(c:Cv):Nc:=⟨c.m1.toNat,c.d.toNat,c.m2.toNat⟩
def QtG{c:Cv}(h:c.Nn):((KE c).a:Int)=c.m1:=GW h.1
def QtH{c:Cv}(h:c.Nn):((KE c).d:Int)=c.d:=GW h.2.1
def QtI{c:Cv}(h:c.Nn):((KE c).b:Int)=c.m2:=GW h.2.2
def QtJ{c:Cv}(h:c.Nn):(KE c).cells=c.cells:=by simp only[Nc.cells,Cv.cells,u64,QtG h,QtH h,QtI h]
def cY(x:Qt):Bool:=decide (1<Q4 x.rt)
def Yg(L:List Qt):List Nc:=(L.filter cY).map λx=>KE x.rt
def QtK(L:List Qt):(Yg L).length<=L.length:=by
 have:=YU cY L;unfold Yg;rw[JV];exact this
section
variable (h:List Ob)(t m c:Nat){es:List Zy}{L:List Qt}(T:Vk es L)(hlen:L.length<1000000)
 (ht:(h.map Ob.ro)[t]? = some ⟨.Wy,0,1,1,λ_=>[.mref m 0]⟩) (hm:(h.map Ob.ro)[m]? = some (QM .i64 c es).ro)
include T ht hm hlen
theorem QtL(hn:∀c∈L,c.Nn):Kq prog 85 h [.ptr t 0 0 0] (λd g=>(d=.nil/\Yg L=[])\/∃f n k,d=.ref f n 0 (Yg L).length/\h.length<=f/\(h++g)[f]? = some ⟨.arr,n,3,(Yg L).length,k⟩/\xL Nc.cells (Yg L) 0 k):=by
 refine Yz J8 200 func85 rfl ntmps85 results85 rfl λz w pl F Z QQ b=>?_;rw[<- Z]at ht hm;have Zi:=Qc ht;have QJ:=Qc hm;simp only[go_sem,Qa,ht,Zi,hm,QJ];have hT:PW (F.map Ob.ro) 94 0 [] cY:=λh' x xr=>by
  refine Zk func94 ntmps94 results94 λz w pl F Z QQ b=>?_;simp only[go_sem,Qa];apply YC b aV (bw x.rt);apply QC b;exact⟨_,rfl,rfl⟩
 obtain⟨K,B⟩:∃K,K=L.filter cY:=⟨_,rfl⟩;have a1:K.length<=L.length:=by rw[B];exact YU _ _
 have u:Yg L=K.map λx=>KE x.rt:=by rw[B];rfl
 refine AW b aQ rfl ?_ (bB _ t m c T hlen (ZG ht) (HW hm) (.raw (.func (.func 94) ⟨[]⟩ ⟨[]⟩)) 94 0 [] B9 rfl _ hT) rfl λd g V=>?_
 .simp only[go_sem]
 rw[<- B]at V;rcases V with ⟨rfl,h3⟩|⟨f,n,l,k,rfl,Zq,o,W⟩
 .have Q:Yg L=[]:=by
   rw[u];have:K=[]:=by simpa using h3
   rw[this];rfl
  apply QC b;refine Z4 (λi s=>s=⟨[(3,.nil),(8,Qb 0),(9,Qb 0)],F++g⟩) 0 QN rfl ?_;rintro i s N rfl;apply QC b;apply QC b;exact⟨_,rfl,.inl Q⟩
 .obtain⟨G,C⟩:∃G,G=F++g:=⟨_,rfl⟩;have J:KN F G:=⟨g,C⟩;have I:=J.get ht;have H:=J.get hm;rw[<- C]at o ⊢;have y:=Qc I;have v:=Qc H;have Qd:=Qc o;rw[JV]at o W;have Ny:=J.len;apply QC b;refine Z4 (λi s=>∃j p a,xL Nc.cells ((K.take i).map λx=>KE x.rt) 0 p/\s=⟨[(0,.ptr t 0 0 0),(3,.ref G.length j 0 ((K.take i).map λx=>KE x.rt).length),(7,.ref f n l K.length),(8,Qb K.length),(9,Qb i)],G++(⟨.arr,j,3,((K.take i).map λx=>KE x.rt).length,p⟩::a)⟩) K.length
   (s0:=⟨[(0,.ptr t 0 0 0),(3,.ref G.length 0 0 0),(7,.ref f n l K.length),(8,Qb K.length),(9,Qb 0)],G++[⟨.arr,0,3,0,λ_=>[]⟩]⟩)
   (QF.trans (QF.BH 3 3 (λi=>[]) rfl) (QF.frame (by simp only[go_sem,JV]))) ⟨0,λ_=>[],[],.nil,rfl⟩ ?_
  rintro i s N ⟨j,p,a,E,rfl⟩;have Zl:=KJ (show i<4611686018427387904 from ω);apply Qg b;simp only[go_sem,Qa,I,H,y,v,o,Qd];first|refine jL N (λe=>?_) (λe=>?_)|refine jM N (λe=>?_) (λe=>?_)
  .obtain⟨x,hx⟩:∃x,x=K.getD i default:=⟨_,rfl⟩;have r:x∈K:=by rw[hx,Q5,QP e];exact XK e
   have q:x∈L:=by rw[B]at r;exact(JO.1 r).1
   have Ws:Qz L x.iD=some x:=(WC T.sorted).2 ⟨q,rfl⟩;have V7:=T.look x.iD;rw[Ws,Kx]at V7;have U:=W i (by simpa using e);have R:(K.map (·.iD)).getD i 0=x.iD:=by
    rw[hx,Q5,Q5,Kl,QP e];rfl
   rw[R]at U;have O:(K.take (i+1)).map (λx=>KE x.rt)=(K.take i).map (λx=>KE x.rt)++[KE x.rt]:=by
    rw[E9,QP e,hx,Q5,QP e,ju];rfl
   obtain⟨M,Y⟩:∃M,M=(K.take i).map λx=>KE x.rt:=⟨_,rfl⟩;have a0:M.length<=i:=by rw[Y,JV,Tp];omega
   have y6:M.length<=4294967295:=ω;rw[<- Y]at O E ⊢;have S:=E.app (KE x.rt) (r2:=λ_=>(KE x.rt).cells) rfl;rw[QtJ (hn x q).1]at S;simp only[go_sem,Qa,e,I,H,y,v,o,Qd,U,V7,y6];refine⟨ω,_,QF.frame (fr':=[(0,.ptr t 0 0 0),(3,.ref G.length (j+1) 0 (M.length+1)),(7,.ref f n l K.length),(8,Qb K.length),(9,Qb (i+1:Nat))]) (by simp only[go_sem,Zl]),j+1,_,a++[⟨.arr,0,3,1,λ_=>x.rt.cells⟩],by rw[O];exact S,?_⟩;rw[O,JJ];rfl
  .have h1:i=K.length:=ω;subst h1;rw[zG,<- u]at E ⊢;apply QC b;refine⟨g++(⟨.arr,j,3,(Yg L).length,p⟩::a),by rw[C,Wx],.inr ⟨G.length,j,p,rfl,ω,?_,E⟩⟩;have P:G.length=(h++g).length:=by rw[C,JJ,JJ,QQ]
   rw[<- Wx,P,JE (QB _),Di];rfl
theorem QtO(p:∀c∈L,c.Nn):QR prog 85 h [.ptr t 0 0 0] (λd=>d=XD (Yg L)):=by
 refine bU (XD (Yg L)) (λk=>rfl) ?_ (QtL h t m c T hlen ht hm p);rintro d g (⟨rfl,r⟩|⟨e,j,b,rfl,u,o,l⟩)
 .left;rw[r];simp only[go_sem]
 .right;refine⟨e,j,3,_,b,u,o,λi f=>?_,?_⟩
  .obtain⟨a,q⟩:=l.all i (by simpa using f);rw[q];rfl
  .have s:D.fz e j (Yg L).length 3 b (.ref e j 0 (Yg L).length)=.imm 3 (Yg L).length (rowFrom 0 b):=by simp[D.fz,DI]
   rw[s];simp only[XD];rw[DN];refine⟨rfl,rfl,λi f=>?_⟩;have n:=l.at_ i f;rw[Jv]at n;rw[DL,Jv,n,Nc.wh];exact wc (qH _) _
end
@[go_sem] def jI(n:Int):D:=.raw (.int .i64 n)
def IG(d:Array Int):Nat->List D:=λi=>[jI d[i]!]
@[go_sem] theorem QtP(d:Array Int)(i):IG d i=[jI d[i]!]:=rfl
@[go_sem] def Bv(g:Nat)(d:Array Int):Ob:=⟨.arr,g,1,d.size,IG d⟩
def QtQ{h:List Ob}{a g}{d}(b:a<h.length):(h.set a (Bv g d))[a]? = some (Bv g d):=Qv b
def QtR(g)(d:Array Int)(i n)(x)(c:d.size=n)(e:i<n):
  (⟨.arr,g,1,n,λk=>bif k==i then [.raw (.int .i64 x)] else [.raw (.int .i64 d[k]!)]⟩:Ob)=Bv g (d.setIfInBounds i x):=by
 subst c;unfold Bv;congr 1
 .simp
 .funext k;unfold IG jI;by_cases a:k=i
  .subst a;simp[e]
  .have f:(k==i)=false:=beq_eq_false_iff_ne.mpr a;rw[f];by_cases b:k<d.size
   .simp[a,b,Q1 a,fq]
   .simp[a,b]
def QtS{h:List Ob}{a g}{d:Array Int}(b:h[a]? = some (Bv g d))(hz:d.size<1000000000):
  QI prog 88 h [.ref a g 0 d.size] (λdd h'=>dd=.ref a g 0 (cN (λi=>d[i]!) d.size).length/\∃r,h'=h.set a ⟨.arr,g,1,d.size,r⟩/\(∀i,i<(cN (λi=>d[i]!) d.size).length->r i=[jI ((cN (λi=>d[i]!) d.size).getD i 0)])/\∀i,∃x,r i=[jI x]):=by
 by_cases c2:d.size<2
 .have K:decide ((d.size:Int)<2)=true:=Q3 ω;have p:(cN (λi=>d[i]!) d.size).length=d.size:=by
   have:d.size=0\/d.size=1:=ω;rcases this with h0|h0<;>rw[h0]<;>rfl
  rw[p];refine QZ func88 ntmps88 results88 λt w pl c=>?_;have o:=Qc b;simp only[go_sem,Qa,b,o,K];exact⟨IG d,(vk b).symm,λi f=>by rw[IC _ _ p i f];rfl,λi=>⟨_,rfl⟩⟩
 .have K:decide ((d.size:Int)<2)=false:=QS ω;refine QZ func88 ntmps88 results88 λt w pl c=>?_;have o:=Qc b;simp only[go_sem,Qa,b,o,K];refine Z4 (λk E=>k+1<=d.size/\(cN (λi=>d[i]!) (k+1)).length=k+1/\E=⟨[(0,.ref a g 0 d.size),(3,Qb (k+1:Nat))],h⟩) d.size (s0:=⟨[(0,.ref a g 0 d.size),(3,Qb (0+1:Nat))],h⟩) QN ⟨ω,rfl,rfl⟩ ?_;rintro k _ hk ⟨Ql,s,rfl⟩;by_cases L:k+1<d.size
  .have J:decide (k+1<d.size)=true:=Q3 L;have v1:IntKind.i64.wrap (((k+1:Nat):Int) - 1)=((k:Nat):Int):=Zu;have v2:IntKind.i64.wrap (((k+1:Nat):Int)+1)=((k+1+1:Nat):Int):=Zu;have p0:k<d.size:=ω;apply Qg c;simp only[go_sem,Qa,b,o,J];apply Qw c o01;simp only[go_sem,Qa,b,o,v1,L,p0];by_cases Yr:d[k+1]! = d[k]!
   .have O:(d[k+1]! == d[k]!)=true:=beq_iff_eq.mpr Yr;have V:(cN (λi=>d[i]!) (k+1+1)).length=k+1:=by
     rw[cN,Qf ⟨ω,by simpa using Yr⟩,s]
    have q0:k+1<=d.size:=ω;generalize hN:d.size - (k+1)=N;have Z:((d.size:Int) - ((k+1:Nat):Int)).toNat=N:=ω;simp only[go_sem,O,q0,hN,Qa,b,o,Z];refine Z4 (λm E=>∃(d1:Array Int),d1.size=d.size/\m+1<=N/\(cN (λi=>d[i]!) (k+1+(m+1))).length<=k+1+m/\(∀i,i<(cN (λi=>d[i]!) (k+1+(m+1))).length->d1[i]! = (cN (λi=>d[i]!) (k+1+(m+1))).getD i 0)/\(∀j,(cN (λi=>d[i]!) (k+1+(m+1))).length<=j->d1[j]! = d[j]!)/\E=⟨[(0,.ref a g 0 d.size),(3,Qb (cN (λi=>d[i]!) (k+1+(m+1))).length),(4,.ref a g (k+1) N),(5,Qb (m+1:Nat))],h.set a (Bv g d1)⟩) N (s0:=⟨[(0,.ref a g 0 d.size),(3,Qb (cN (λi=>d[i]!) (k+1+(0+1))).length),(4,.ref a g (k+1) N),(5,Qb (0+1:Nat))],h.set a (Bv g d)⟩) ?_ ⟨d,rfl,ω,Nat.le_of_eq V,λi f=>?_,λj S=>rfl,rfl⟩ ?_
    .rw[vk b,V];exact QN
    .rw[cN,Qf ⟨ω,by simpa using Yr⟩]at f ⊢;exact(IC _ _ s i ω).symm
    rintro m _ hm ⟨d1,l,a0,Ra,M,z,rfl⟩;have n:=QtQ (g:=g) (d:=d1) o;have y:cN (λi=>d[i]!) (k+1+(m+1+1))=if d[k+1+(m+1)]! = d[k+1+m]! then cN (λi=>d[i]!) (k+1+(m+1)) else cN (λi=>d[i]!) (k+1+(m+1))++[d[k+1+(m+1)]!]:=by
     rw[show k+1+(m+1+1)=(k+1+(m+1))+1 by omega,cN];simp
    generalize T:cN (λi=>d[i]!) (k+1+(m+1))=C at *;generalize I:h.set a (Bv g d1)=H at n;have q:=Qc n;by_cases v:m+1<N
    .have em:decide (m+1<N)=true:=Q3 v;have R:=z (k+1+(m+1)) ω;have r2:=z (k+1+m) ω;have Q:k+1+(m+1)<d.size:=ω;have u2:k+1+m<d.size:=ω;have u3:m<N:=ω;have Y:IntKind.i64.wrap (((m+1:Nat):Int) - 1)=(m:Int):=Zu;have P:IntKind.i64.wrap (((m+1:Nat):Int)+1)=((m+1+1:Nat):Int):=Zu;have W:IntKind.i64.wrap ((C.length:Int)+1)=((C.length+1:Nat):Int):=Zu;apply Qg c;simp only[go_sem,Qa,n,q,em];apply Qw c o01;simp only[go_sem,Qa,n,q,l,Y,v,Q,u2,u3,R,r2];by_cases u:d[k+1+(m+1)]! = d[k+1+m]!
     .have F:(d[k+1+(m+1)]! != d[k+1+m]!)=false:=by rw[u];exact bne_self_eq_false _
      rw[Qf u]at y;simp only[go_sem,F,P];rw[y];refine⟨ω,_,?_,d1,l,ω,ω,M,z,rfl⟩;rw[<- I];exact QN
     .have F:(d[k+1+(m+1)]! != d[k+1+m]!)=true:=bne_iff_ne.mpr u;have B:C.length<d.size:=ω;rw[Qe u]at y;simp only[go_sem,F,P,W,Qa,n,q,l,Q,v,B,R];rw[QtR g d1 _ _ _ l B,y];refine⟨ω,_,?_,d1.setIfInBounds C.length d[k+1+(m+1)]!,by simp;exact l,ω,ξ,λi f=>?_,λj S=>?_,rfl⟩
      .rw[<- I,Jn,JJ,jt];exact QN
      .simp only[JJ,jt]at f;by_cases e:i=C.length
       .subst e;rw[Q5,JE (QB _),Di];simp[l,B]
       .rw[Q5,JD ω,<- Q5,<- M i ω];simp[Q1 e,Lk,w9,yd]
      .simp only[JJ,jt]at S;rw[<- z j ω];simp[show C.length≠j by omega,Lk,w9,yd]
    .have em:decide (m+1<N)=false:=QS v;have oA:k+1+(m+1)=d.size:=ω;rw[oA]at T;rw[T];have U:C.length<=d.size:=ω;have g2:((d.size:Int) - (C.length:Int)).toNat=d.size - C.length:=ω;apply Qg c;simp only[go_sem,Qa,n,q,em];apply Qg c;simp only[go_sem,Qa,n,q,l,U,g2];refine lF xB c rfl n rfl rfl rfl rfl (by dsimp only[Bv];omega) rfl rfl rfl rfl ?_;apply Qg c;simp only[go_sem,Qa,Qv q,q,l,U];refine⟨σ,qb C.length (d.size - C.length) [D.raw (.int .i64 0)] (IG d1),?_,λi f=>?_,λi=>?_⟩
     .rw[<- I,Jn]
     .rw[lB f];show [jI d1[i]!]=_;rw[M i f];rfl
     .unfold qb;cases Nat.ble C.length i&&Nat.blt i (C.length+(d.size - C.length))
      .exact⟨d1[i]!,rfl⟩
      .exact⟨0,rfl⟩
   .have O:(d[k+1]! == d[k]!)=false:=beq_eq_false_iff_ne.mpr Yr;simp only[go_sem,O,v2];refine⟨ω,_,?_,ω,?_,rfl⟩
    .exact QN
    .rw[cN,Qe (by simpa using Yr)];simp[s]
  .have J:decide (k+1<d.size)=false:=QS L;obtain Jw:k+1=d.size:=ω;rw[Jw]at s;apply Qg c;simp only[go_sem,Qa,b,o,J];apply Zd c;rw[s];exact⟨rfl,IG d,(vk b).symm,λi f=>by rw[IC _ _ s i f];rfl,λi=>⟨_,rfl⟩⟩
def QtT(n:Nat)(c:0<n)(j:n<=1048576):Q6 prog 121 [.nil,Qb n] (λd h=>∃b,d=.ref 0 0 0 0/\h=[⟨.arr,0,1,0,b⟩]):=by
 have g:¬ ((n:Int)<0):=ω;have i:((n:Int) > 0):=ω;have f:IntKind.i64.wrap (n:Int)=n:=by rw[IntKind.wrap_i64];omega
 refine QI.cut (R:=λd h=>d=.ref 0 0 0 0/\h=[⟨.arr,0,1,n,λ_=>[Qb 0]⟩]) ?_ (by rintro d h ⟨rfl,rfl⟩;exact⟨0,_,0,rfl,rfl,KF _,_,rfl,rfl⟩);show Q6 _ _ _ _;refine Zs 1 func121 ntmps121 results121 λe w a=>?_;simp only[go_sem];simp only[QS g,go_sem];refine lH xB rfl rfl rfl ?_;apply Qg a;simp only[go_sem,CA,Int.sub_zero,f,Q3 i,c];refine lH xB rfl rfl rfl ?_;apply Zd a;refine QpP xB a rfl rfl rfl rfl rfl rfl π c ω π rfl ?_;exact ze a
def QtU:Q6 prog 121 [.nil,Qb 0] (Zm .nil):=by
 refine Zs 0 func121 ntmps121 results121 λa w b=>?_;simp only[go_sem];refine lH xB rfl rfl rfl ?_;apply Qg b;simp only[go_sem,CA,Int.sub_zero]
def QtV(h:List Ob)(f)(x)(a b:List Int)(Z:a.length+b.length<1000000)(e:(h.map Ob.ro)[f]? = some ⟨.vO,0,1,2,x⟩)(p:x 0=[ints a])(n:x 1=[ints b]):
  Kq prog 86 h [.ref f 0 0 2] (λd g=>J3 h.length (h++g) d (a++b)):=by
 have K:IntKind.i64.wrap (a.length:Int)=(a.length:Int):=by rw[IntKind.wrap_i64];omega
 have J:IntKind.i64.wrap ((a.length:Int)+(b.length:Int))=((a.length+b.length:Nat):Int):=by rw[IntKind.wrap_i64];omega
 have M:decide ((a.length:Int)<0)=false:=QS ω;have L:decide (((a.length+b.length:Nat):Int)<0)=false:=QS ω;refine Yz J8 200 func86 rfl ntmps86 results86 rfl λI w Y F Q U j=>?_;rw[<- Q]at e;have l:=Qc e;simp only[go_sem,Qa,e,l];obtain⟨q,H,E,B⟩:∃q:Nat->Int,q 0=0/\q 1=a.length/\q 2=(a.length+b.length:Nat):=⟨λi=>if i=0 then 0 else if i=1 then a.length else (a.length+b.length:Nat),rfl,rfl,rfl⟩;refine Z4 (λi s=>s=⟨[(0,.ref f 0 0 2),(3,.raw (.int .i64 (q i))),(9,.ref f 0 0 2),(10,Qb 2),(11,Qb i)],F⟩) 2 (QF.frame (by simp only[go_sem,H])) rfl ?_;rintro i s t rfl;have y:i=0\/i=1\/i=2:=ω;rcases y with rfl|rfl|rfl
 .apply Qg j;simp only[go_sem,Qa,e,l,p,n,CA,ED,H,Int.zero_add,K,M];exact⟨_,QF.frame (fr':=[(0,.ref f 0 0 2),(3,.raw (.int .i64 (q 1))),(9,.ref f 0 0 2),(10,Qb 2),(11,.raw (.int .i64 1))]) (by simp only[go_sem,E]),rfl⟩
 .apply Qg j;simp only[go_sem,Qa,e,l,p,n,CA,ED,E,J,L];exact⟨_,QF.frame (fr':=[(0,.ref f 0 0 2),(3,.raw (.int .i64 (q 2))),(9,.ref f 0 0 2),(10,Qb 2),(11,.raw (.int .i64 2))]) (by simp only[go_sem,B,Qe9]),rfl⟩
 .apply Qg j;simp only[go_sem,Qa,e,l,p,n,CA,ED,B];apply Qg j;simp only[go_sem,Qa,e,l,p,n,CA,ED,B];by_cases hz:a.length+b.length=0
  case' pos=>
   refine Jk j Qca ?_ QtU ?_
   .simp only[go_sem,Qa,e,l,hz]
   apply Qg j;simp only[go_sem,Qa,e,l,hz];refine FD (QF.BH 6 1 (λ_=>[]) (by simp only[go_sem])) ?_;simp only[go_sem,Qa];generalize (λ_:Nat=>([]:List D))=v
  case' neg=>
   refine Mf j Qca rfl ?_ (QtT (a.length+b.length) ω ω) (λd h ⟨c,u,e⟩=>⟨by rw[u];rfl,λo z=>by rw[e]at z;simp at z;subst z;exact λi t=>absurd t (XL i)⟩) rfl λd h' P=>?_
   .simp only[go_sem,Qa]
   obtain⟨c,rfl,rfl⟩:=P;apply Qg j;simp only[go_sem,Qa,e,l];generalize (λi=>xv F.length (c i))=v
  all_goals
   refine Z4 (λi s=>∃r m c,(i=0->m=0)/\(i=1->m=a.length/\∀k,k<a.length->c k=[Qb (a.getD k 0)])/\(i=2->m=a.length+b.length/\∀k,k<a.length+b.length->c k=[Qb ((a++b).getD k 0)])/\s=⟨[(6,.ref F.length r 0 m),(25,.ref f 0 0 2),(26,Qb 2),(27,Qb i)],F++[⟨.arr,r,1,m,c⟩]⟩) 2
    (s0:=⟨[(6,.ref F.length 0 0 0),(25,.ref f 0 0 2),(26,Qb 2),(27,Qb 0)],F++[⟨.arr,0,1,0,v⟩]⟩) QN ⟨0,0,_,λ_=>rfl,λh=>absurd h π,λh=>absurd h π,rfl⟩ ?_
   rintro i s t ⟨r,m,c,V,T,R,rfl⟩;have y:i=0\/i=1\/i=2:=ω;have C:a.length<=4294967295:=ω;have W:a.length+b.length<=4294967295:=ω;rcases y with rfl|rfl|rfl
   .obtain rfl:m=0:=V rfl;apply Qg j;simp only[go_sem,Qa,e,l,p,n,CA,ED,C];refine⟨ω,_,QF.frame (fr':=[(6,.ref F.length (r+1) 0 a.length),(25,.ref f 0 0 2),(26,Qb 2),(27,.raw (.int .i64 1))]) (by simp only[go_sem,ED]),_,_,_,⟨rfl,λk O=>?_⟩,rfl⟩;rw[zM (KF k)];rfl
   .obtain⟨rfl,N⟩:=T rfl;apply Qg j;simp only[go_sem,Qa,e,l,p,n,CA,ED,C,W];refine⟨ω,_,QF.frame (fr':=[(6,.ref F.length (r+1) 0 (a.length+b.length)),(25,.ref f 0 0 2),(26,Qb 2),(27,.raw (.int .i64 2))]) (by simp only[go_sem,Qe9]),_,_,_,⟨rfl,λk O=>?_⟩,rfl⟩;by_cases u:k<a.length
    .rw[xn u,Jv,N k u,Q5,Q5,JD u];rfl
    .rw[zM ω,Q5,JE ω,<- Q5];rfl
   .obtain⟨rfl,S⟩:=R rfl;apply Qg j;simp only[go_sem,Qa,e,l,p,n,CA,ED];apply Qg j;simp only[go_sem,Qa,e,l,p,n,CA,ED];refine⟨_,rfl,.inr ⟨h.length,r,0,c,by rw[U,JJ],⟨QB _,rfl⟩,?_,λi t=>by rw[Jv];exact S i (by simpa using t)⟩⟩;rw[JZ rfl,JJ,Jv];rfl
def QtW(h:List Ob)(e)(c)(a b:List Int)(f:a.length+b.length<1000000)(g:(h.map Ob.ro)[e]? = some ⟨.vO,0,1,2,c⟩)(j:c 0=[ints a])(i:c 1=[ints b]):
  QR prog 86 h [.ref e 0 0 2] (λd=>d=ints (a++b)):=J3.closed (QtV h e c a b f g j i)
deriving instance DecidableEq for Cv
deriving instance DecidableEq for Qt
def Wt(A B:List Qt)(a:Int):Bool:=decide (Qz A a≠Qz B a)
def xS(A B:List Qt):List Int:=(A.map (·.iD)++B.map (·.iD)).filter (Wt A B)
def zw(L:List Int):List Int:=cN (λi=>L.getD i 0) L.length
def J6(A B:List Qt):List Int:=zw (sorted (xS A B))
def QtX{L}{x}:x∈zw L↔x∈L:=by
 unfold zw;rw[oz];constructor
 .rintro⟨i,a,rfl⟩;rw[Q5,QP a];exact XK a
 .intro h;obtain⟨i,a,rfl⟩:=yh h;exact⟨i,a,by rw[Q5,QP a];rfl⟩
def QtY{L}{x}:x∈sorted L↔x∈L:=(List.mergeSort_perm _ _).mem_iff
def Gn{A B}{a}:a∈J6 A B↔Qz A a≠Qz B a:=by
 unfold J6;rw[QtX,QtY];unfold xS;rw[JO];unfold Wt;rw[XZ];constructor
 .exact λh=>h.2
 .intro h;refine⟨?_,h⟩;rw[QW];cases d:Qz A a with
  | some c=>
   refine .inl (Jm.2 ⟨c,xj d,?_⟩);have:=xi d;simpa using this
  | none=>
   cases b:Qz B a with
   | some c=>
    refine .inr (Jm.2 ⟨c,xj b,?_⟩);have:=xi b;simpa using this
   | none=>rw[d,b]at h;exact absurd rfl h
def Qfh(x y:Qt):(x.iD==y.iD&&(x.parent==y.parent&&(x.leaf==y.leaf&&(x.rt.m1==y.rt.m1&&(x.rt.d==y.rt.d&&(x.rt.m2==y.rt.m2&&(x.ls.m1==y.ls.m1&&(x.ls.d==y.ls.d&&(x.ls.m2==y.ls.m2&&(x.ul.m1==y.ul.m1&&(x.ul.d==y.ul.d&&(x.ul.m2==y.ul.m2&&(x.Zz==y.Zz&&x.bytes==y.bytes)))))))))))))=decide (x=y):=by
 rw[vE];simp only[ZH,zH,XZ];constructor
 .rintro⟨k,j,i,h,g,f,e,d,c,M,N,O,b,a⟩;obtain⟨L,K,J,⟨I,H,F⟩,⟨E,C,B⟩,⟨z,w,v⟩,u,t⟩:=x;obtain⟨s,r,q,⟨p,o,c6⟩,⟨n,m,l⟩,⟨d1,d2,d3⟩,d4,d5⟩:=y
  simp_all
 .rintro rfl;simp
theorem Nz:(true==false)=false:=rfl
theorem NA:(false==true)=false:=rfl
def QtZ:Q6 prog 88 [.nil] (Zm .nil):=by
 refine Zs 0 func88 ntmps88 results88 λa w b=>?_;simp only[go_sem]
def Qt0{h:List Ob}{lo g}{Z:List Int}(f:h[lo]? = some (Bv g Z.toArray))(k:Z.length<1000000000):
  QI prog 88 h [.ref lo g 0 Z.length] (λc b=>c=.ref lo g 0 (zw Z).length/\∃a,b=h.set lo ⟨.arr,g,1,(zw Z).length,a⟩/\∀i,i<(zw Z).length->a i=[Qb ((zw Z).getD i 0)]):=by
 have e:cN (λi=>Z.toArray[i]!) Z.toArray.size=zw Z:=by
  unfold zw;congr 1;funext i;simp
 have j:=QtS f (by simpa using k);rw[e]at j;have l:=Qc f;refine QI.cut (R:=λc b=>c=.ref lo g 0 (zw Z).length/\∃a,b=h.set lo ⟨.arr,g,1,Z.toArray.size,a⟩/\(∀i,i<(zw Z).length->a i=[jI ((zw Z).getD i 0)])/\∀i,∃x,a i=[jI x]) (by simpa using j) ?_;rintro d b ⟨rfl,a,rfl,m,_⟩;refine⟨lo,_,(zw Z).length,Qv l,rfl,?_,rfl,a,by rw[Jn],m⟩;have:=Nw (λi=>Z.getD i 0) Z.length;show (zw Z).length<=Z.toArray.size;simpa[zw] using this
structure Bw (F:List Ob) (A B:List Qt) (t1 t2:Nat) (L:List Int) (k:Nat) (s:St):Prop where
 ex:∃d H,J3 F.length H d ((L.take k).filter (Wt A B))/\KN F H/\s=⟨[(0,.ptr t1 0 0 0),(1,.ptr t2 0 0 0),(5,d),(17,ints L),(18,Qb L.length),(19,Qb k)],H⟩
def Bw.of{F:List Ob}{A B}{b a}{L:List Int}{k:Nat}{d}{H}(e:J3 F.length H d ((L.take k).filter (Wt A B)))(c:KN F H):Bw F A B b a L k ⟨[(0,.ptr b 0 0 0),(1,.ptr a 0 0 0),(5,d),(17,ints L),(18,Qb L.length),(19,Qb k)],H⟩:=⟨⟨d,H,e,c,rfl⟩⟩
def Qt2{h}{f n}{A B:List Qt}(RA:Wq h f A)(RB:Wq h n B)(hA:A.length<100000)(hB:B.length<100000):
  Kq prog 54 h [.ptr f 0 0 0,.ptr n 0 0 0] (λd g=>J3 h.length (h++g) d (J6 A B)):=by
 refine Yz J8 200 func54 rfl ntmps54 results54 rfl λa1 w pl F hF QQ a=>?_;simp only[go_sem,Qa];have RP:Wq F f A:=RA.more (Js hF);have RQ:Wq F n B:=RB.more (Js hF);apply ZA a aP (bV RP ω);apply QC a;apply ZA a aP (bV RQ ω);apply QC a;obtain⟨L,U⟩:∃L,L=A.map (·.iD)++B.map (·.iD):=⟨_,rfl⟩;have a2:L.length<200000:=by rw[U];simp;omega
 have VR:∀J:Nat->List D,J 0=[ints (A.map (·.iD))]->J 1=[ints (B.map (·.iD))]->QR prog 86 (F++[⟨.arr,0,1,2,J⟩]) [.ref F.length 0 0 2] (λd=>d=ints L):=λJ e0 e1=>by
  rw[U];exact QtW _ F.length J _ _ ξ (ZG (show (F++[⟨.arr,0,1,2,J⟩])[F.length]? = some ⟨.arr,0,1,2,J⟩ by rw[JZ rfl];rfl)) e0 e1
 apply ZA a Qoc (VR _ (by exact rfl) (by exact rfl));apply QC a;refine Z4 (Bw F A B f n L) L.length (s0:=⟨[(0,.ptr f 0 0 0),(1,.ptr n 0 0 0),(5,.nil),(17,ints L),(18,Qb L.length),(19,Qb 0)],_⟩) QN ⟨⟨_,_,.inl ⟨rfl,σ⟩,⟨_,rfl⟩,rfl⟩⟩ ?_;rintro k _ hk ⟨d,H,C,hx,rfl⟩;have a0:∀g,Wq (H++g) f A:=λg=>by
  obtain⟨x,rfl⟩:=hx;exact RP.more λl o e=>by rw[Wx];exact wG l o e
 have W:∀g,Wq (H++g) n B:=λg=>by
  obtain⟨x,rfl⟩:=hx;exact RQ.more λl o e=>by rw[Wx];exact wG l o e
 have Y:Wq H f A:=by have:=a0 [];rwa [Jl]at this
 by_cases j:k<L.length
 .have N:=Q3 j;obtain⟨id,Q⟩:∃id,id=L.getD k 0:=⟨_,rfl⟩;have c:(L.take (k+1)).filter (Wt A B)=(L.take k).filter (Wt A B)++(if Wt A B id then [id] else []):=by
   rw[getD_take L 0 k j,OF,<- Q];cases b:Wt A B id<;>simp[b]
  have E:=MW Y id;have t:=λg=>MW (W g) id;have I:=KJ (show k<4611686018427387904 from ω);cases M:Qz A id with
  | some x=>
   rw[M]at E;simp only[KV,kx,Va]at E;cases v:Qz B id with
   | some y=>
    rw[v]at t;simp only[KV,kx,Va]at t;apply Qg a;simp only[go_sem,Qa,N,j,<- Q];apply ZA a kS E;apply QC a;refine VP a kS ?_ (t _) ?_
    .simp only[go_sem,Qa,bne,Qfh]
    apply Qg a;simp only[go_sem,Qa,bne,Qfh];by_cases e:x=y
    .have b:Wt A B id=false:=by unfold Wt;rw[M,v,e];simp
     have R:=Q3 e;simp only[go_sem,Qa,R];refine⟨j,_,QF.frame (fr':=[(0,.ptr f 0 0 0),(1,.ptr n 0 0 0),(5,d),(17,ints L),(18,Qb L.length),(19,Qb (k+1:Nat))]) (by simp only[go_sem,I]),Bw.of (by rw[c,b,Qe π,Jl];exact C.app _) (hx.app _)⟩
    .have b:Wt A B id=true:=by unfold Wt;rw[M,v];simpa using e
     have R:=QS e;rcases C with ⟨rfl,r⟩|⟨q,g,O,s,rfl,⟨u,rfl⟩,p,K⟩
     .simp only[go_sem,Qa,R,Go.undef];refine⟨j,_,QF.frame (fr':=[(0,.ptr f 0 0 0),(1,.ptr n 0 0 0),(5,.ref (H.length+3) 0 0 1),(17,ints L),(18,Qb L.length),(19,Qb (k+1:Nat))]) (by simp only[go_sem,I]),Bw.of (.inr ⟨H.length+3,0,0,λ_=>[Qb id],?_,⟨by have:=hx.len;omega,rfl⟩,?_,?_⟩) (hx.app _)⟩
      .rw[c,r,b];rfl
      .rw[c,r,b,Vj rfl];rfl
      .rw[c,r,b];intro i z;obtain rfl:i=0:=by simp at z;omega
       rfl
     .have m:=Qc p;rw[Jv]at p;simp only[go_sem,Qa,R,Go.undef,p,m];refine⟨by have:=YU (Wt A B) (L.take k);simp at this;omega,j,_,QF.frame (fr':=[(0,.ptr f 0 0 0),(1,.ptr n 0 0 0),(5,.ref q (g+1) 0 (((L.take k).filter (Wt A B)).length+1)),(17,ints L),(18,Qb L.length),(19,Qb (k+1:Nat))]) (by simp only[go_sem,I]),Bw.of (.inr ⟨q,g+1,0,J7 ((L.take k).filter (Wt A B)).length 0 s (λ_=>[Qb id]),?_,⟨u,rfl⟩,?_,?_⟩) ((hx.set u _).app _)⟩
      .rw[c,b];simp
      .rw[c,b,QG (by simpa using m),Qv m];simp[Qb]
      .rw[c,b];exact HV K
   | none=>
    rw[v]at t;simp only[vM,YR,vN]at t;have b:Wt A B id=true:=by unfold Wt;rw[M,v];simp
    apply Qg a;simp only[go_sem,Qa,N,j,<- Q];apply ZA a kS E;apply QC a;refine VP a kS ?_ (t _) ?_
    .simp only[go_sem,Qa,bne,Go.undef,Nz,NA]
    apply Qg a;simp only[go_sem,Qa,bne,Go.undef,Nz,NA];rcases C with ⟨rfl,r⟩|⟨q,g,O,s,rfl,⟨u,rfl⟩,p,K⟩
    ·(try simp only[go_sem,Qa,Go.undef])
     refine⟨j,_,QF.frame (fr':=[(0,.ptr f 0 0 0),(1,.ptr n 0 0 0),(5,.ref (H.length+3) 0 0 1),(17,ints L),(18,Qb L.length),(19,Qb (k+1:Nat))]) (by simp only[go_sem,I]),Bw.of (.inr ⟨H.length+3,0,0,λ_=>[Qb id],?_,⟨by have:=hx.len;omega,rfl⟩,?_,?_⟩) (hx.app _)⟩
     .rw[c,r,b];rfl
     .rw[c,r,b,Vj rfl];rfl
     .rw[c,r,b];intro i z;obtain rfl:i=0:=by simp at z;omega
      rfl
    .have m:=Qc p;rw[Jv]at p;simp only[go_sem,Qa,Go.undef,p,m];refine⟨by have:=YU (Wt A B) (L.take k);simp at this;omega,j,_,QF.frame (fr':=[(0,.ptr f 0 0 0),(1,.ptr n 0 0 0),(5,.ref q (g+1) 0 (((L.take k).filter (Wt A B)).length+1)),(17,ints L),(18,Qb L.length),(19,Qb (k+1:Nat))]) (by simp only[go_sem,I]),Bw.of (.inr ⟨q,g+1,0,J7 ((L.take k).filter (Wt A B)).length 0 s (λ_=>[Qb id]),?_,⟨u,rfl⟩,?_,?_⟩) ((hx.set u _).app _)⟩
     .rw[c,b];simp
     .rw[c,b,QG (by simpa using m),Qv m];simp[Qb]
     .rw[c,b];exact HV K
  | none=>
   rw[M]at E;simp only[vM,YR,vN]at E;cases v:Qz B id with
   | some y=>
    rw[v]at t;simp only[KV,kx,Va]at t;have b:Wt A B id=true:=by unfold Wt;rw[M,v];simp
    apply Qg a;simp only[go_sem,Qa,N,j,<- Q];apply ZA a kS E;apply QC a;refine VP a kS ?_ (t _) ?_
    .simp only[go_sem,Qa,bne,Go.undef,Nz,NA]
    apply Qg a;simp only[go_sem,Qa,bne,Go.undef,Nz,NA];rcases C with ⟨rfl,r⟩|⟨q,g,O,s,rfl,⟨u,rfl⟩,p,K⟩
    ·(try simp only[go_sem,Qa,Go.undef])
     refine⟨j,_,QF.frame (fr':=[(0,.ptr f 0 0 0),(1,.ptr n 0 0 0),(5,.ref (H.length+3) 0 0 1),(17,ints L),(18,Qb L.length),(19,Qb (k+1:Nat))]) (by simp only[go_sem,I]),Bw.of (.inr ⟨H.length+3,0,0,λ_=>[Qb id],?_,⟨by have:=hx.len;omega,rfl⟩,?_,?_⟩) (hx.app _)⟩
     .rw[c,r,b];rfl
     .rw[c,r,b,Vj rfl];rfl
     .rw[c,r,b];intro i z;obtain rfl:i=0:=by simp at z;omega
      rfl
    .have m:=Qc p;rw[Jv]at p;simp only[go_sem,Qa,Go.undef,p,m];refine⟨by have:=YU (Wt A B) (L.take k);simp at this;omega,j,_,QF.frame (fr':=[(0,.ptr f 0 0 0),(1,.ptr n 0 0 0),(5,.ref q (g+1) 0 (((L.take k).filter (Wt A B)).length+1)),(17,ints L),(18,Qb L.length),(19,Qb (k+1:Nat))]) (by simp only[go_sem,I]),Bw.of (.inr ⟨q,g+1,0,J7 ((L.take k).filter (Wt A B)).length 0 s (λ_=>[Qb id]),?_,⟨u,rfl⟩,?_,?_⟩) ((hx.set u _).app _)⟩
     .rw[c,b];simp
     .rw[c,b,QG (by simpa using m),Qv m];simp[Qb]
     .rw[c,b];exact HV K
   | none=>
    rw[v]at t;simp only[vM,YR,vN]at t;have b:Wt A B id=false:=by unfold Wt;rw[M,v];simp
    apply Qg a;simp only[go_sem,Qa,N,j,<- Q];apply ZA a kS E;apply QC a;refine VP a kS ?_ (t _) ?_
    .simp only[go_sem,Qa,bne,Go.undef,Nz,NA]
    apply Qg a;simp only[go_sem,Qa,bne,Go.undef,Nz,NA];refine⟨j,_,QF.frame (fr':=[(0,.ptr f 0 0 0),(1,.ptr n 0 0 0),(5,d),(17,ints L),(18,Qb L.length),(19,Qb (k+1:Nat))]) (by simp only[go_sem,I]),Bw.of (by rw[c,b,Qe π,Jl];exact C.app _) (hx.app _)⟩
 .have ZD:k=L.length:=ω;have N:=QS j;rw[ZD,zG]at C;have Eb:xS A B=L.filter (Wt A B):=by rw[U];rfl
  rw[<- Eb]at C;have a3:(xS A B).length<200000:=by have:=YU (Wt A B) L;rw[Eb];omega
  rcases C with ⟨rfl,r⟩|⟨q,g,O,s,rfl,⟨u,rfl⟩,p,K⟩
  .apply Qg a;simp only[go_sem,Qa,N];apply QC a;refine Jb a aR (Qc0 H) λd h P=>?_;obtain⟨rfl,rfl⟩:=P;apply Zd a;have S:J6 A B=[]:=by unfold J6;rw[r];simp[sorted,zw,cN]
   apply YC a Qb3 QtZ;apply QC a;exact J3.done QQ hx (.inl ⟨rfl,S⟩)
  .have m:=Qc p;apply Qg a;simp only[go_sem,Qa,N];apply QC a;refine Jb a aR (QcZ p ω K ω) λd h P=>?_;obtain⟨rfl,rfl⟩:=P;apply Zd a;obtain⟨Z,T⟩:∃Z,Z=sorted (xS A B):=⟨_,rfl⟩;have V:Z.length=(xS A B).length:=by rw[T,FY]
   rw[<- T,<- V];refine B6 (QF.rows q (IG Z.toArray) (Qv m) (λi z=>?_)) ?_
   .dsimp only at z ⊢;unfold kZ;rw[Qf ⟨KF _,ω⟩,Fb,QtP];simp[jI]
   rw[Jn];dsimp only;have S:zw Z=J6 A B:=by rw[T];rfl
   have hc:=Qt0 (h:=H.set q (Bv g Z.toArray)) (lo:=q) (g:=g) (Z:=Z) (Qv m) ω;rw[S]at hc;have Jg:Z.toArray.size=Z.length:=σ;rw[<- Jg];refine Jb a Qb3 (Jg▸hc) λd h P=>?_;obtain⟨rfl,Kf,rfl,RS⟩:=P;apply Zd a;rw[Jn];refine J3.done QQ (hx.set u _) (.inr ⟨q,g,0,Kf,rfl,⟨u,rfl⟩,by rw[Qv m,Jv],λi z=>by rw[Jv];exact RS i z⟩)
def Qfi{h}{b a}{A B:List Qt}(g:Wq h b A)(f:Wq h a B)(e:A.length<100000)(c:B.length<100000):
  QR prog 54 h [.ptr b 0 0 0,.ptr a 0 0 0] (λd=>d=ints (J6 A B)):=J3.closed (Qt2 g f e c)
def wQ(T:List Qt):Prop:=∀c∈T,Qt.Ok c
def Cv.Ok.nn{c:Cv}(h:Cv.Ok c):c.Nn:=⟨(wf_u64 h.1).1,(wf_u64 h.2.1).1,(wf_u64 h.2.2.1).1⟩
def Qt.Ok.nn{c:Qt}(h:Qt.Ok c):c.Nn:=⟨h.2.2.2.1.nn,h.2.2.2.2.1.nn,h.2.2.2.2.2.1.nn⟩
def Cv.Ok.lt{c:Cv}(h:Cv.Ok c):(KE c).Lt:=by
 have e:=wf_u64 h.1;have b:=wf_u64 h.2.1;have a:=wf_u64 h.2.2.1;refine⟨?_,?_,?_⟩<;>(simp only[KE];omega)
def wQ.Qt7{T}(h:wQ T):∀c∈Yg T,c.Lt:=λc a=>by
 obtain⟨x,hx,rfl⟩:=Jm.1 a;exact(h x (JO.1 hx).1).2.2.2.1.lt
def wQ.one{T}(h:wQ T)(b:WB T){c}(e:Jr.Ok c):wQ (Bo T c):=by
 unfold Bo;split
 .split
  .exact λd a=>h d (JO.1 a).1
  .intro d a;rcases yO b c.cls a with rfl|a
   .exact e.2.1
   .exact h d a
 .exact h
def XW:List Qt->List Jr->Nat->Int × Nat × List Qt
 | T,[],_=>(0,0,T)
 | T,c::l,i=>if wO T c≠0 then (wO T c,i,T) else XW (Bo T c) l (i+1)
def y7(T:List Qt)(t:Int)(l:List Jr):Int:=
 if 32<l.length then 2 else if (XW T l 0).1≠0 then (XW T l 0).1 else CC t (Yg (XW T l 0).2.2)
def NB(T:List Qt)(l:List Jr):Nat:=if 32<l.length then 0 else if (XW T l 0).1≠0 then (XW T l 0).2.1 else 0
def KS(T:List Qt)(l:List Jr):List Qt:=(XW T l 0).2.2
def Qfj:∀(l:List Jr) (T:List Qt) (i:Nat),Ve T->wQ T->(∀c∈l,Jr.Ok c)->Ve (XW T l i).2.2/\wQ (XW T l i).2.2
 | [],T,i,I,K,_=>⟨I,K⟩
 | c::l,T,i,I,K,a=>by
  rw[XW];split
  .exact⟨I,K⟩
  .exact Qfj l _ _ (I.one c) (K.one I.rising (a c σ)) λd b=>a d (by simp[b])
def Qt8{b T}{l:List Jr}{k}(a:k<l.length)(h:XW b l 0=XW T (l.drop k) k):XW b l 0=if wO T (l.getD k default)≠0 then (wO T (l.getD k default),k,T) else XW (Bo T (l.getD k default)) (l.drop (k+1)) (k+1):=by
 rw[h,OD a,XW,Q5,QP a];rfl
@[go_sem] def RU(l:List Jr):D:=.imm 15 l.length (Jr.rows l)
def Qt9{S}{h}{t}{T}(R:V6 S h t T)(I:Ve T)(K:wQ T)(n)(Kj:1<=n)(VQ:n<=65536)(l:List Jr)(W:∀c∈l,Jr.Ok c)(hl:l.length<1000000):
  QI prog 53 h [.ptr t 0 0 0,Qb n,RU l] (λd o=>∃p,d=.tup [if y7 T n l=0 then .ptr p 0 0 0 else .raw (.pointer none),Qb (NB T l),Qb (y7 T n l)]/\(y7 T n l=0->V6 (λl=>h.length<=l) o p (KS T l))/\∃g,o=h++g):=by
 have d1:decide (n<1)=false:=QS ω;have d2:decide (65536<n)=false:=QS ω;by_cases C:32<l.length
 .have d3:decide ((32:Int)<(l.length:Int))=true:=Q3 ω;have e1:y7 T n l=2:=Qf C;have e2:NB T l=0:=Qf C;refine QZ func53 ntmps53 results53 λu w U e=>?_;simp only[go_sem,Qa,d1,d2,d3];rw[e1,e2];exact⟨0,rfl,(λh=>absurd h π),[],(Jl _).symm⟩
 .have d3:decide ((32:Int)<(l.length:Int))=false:=QS ω;refine QZ func53 ntmps53 results53 λu w U e=>?_;simp only[go_sem,Qa,d1,d2,d3];refine Jb e Qb1 (Qsf R) λd h E=>?_;obtain⟨rfl,R2,g,rfl,hg⟩:=E;apply Zd e;have z:NB T l=if (XW T l 0).1≠0 then (XW T l 0).2.1 else 0:=Qe C;have y:y7 T n l=if (XW T l 0).1≠0 then (XW T l 0).1 else CC n (Yg (XW T l 0).2.2):=Qe C;refine Z4 (λk P=>∃a H,V6 (λl=>h.length<=l) H (h.length+1) a/\Ve a/\wQ a/\XW T l 0=XW a (l.drop k) k/\(∃g,H=h++g)/\P=⟨[(1,Qb n),(9,.ptr (h.length+1) 0 0 0),(30,RU l),(31,Qb l.length),(32,Qb k)],H⟩) l.length (s0:=⟨[(1,Qb n),(9,.ptr (h.length+1) 0 0 0),(30,RU l),(31,Qb l.length),(32,Qb 0)],h++g⟩) QN ⟨T,_,R2,I,K,rfl,⟨_,rfl⟩,rfl⟩ ?_;rintro k _ hk ⟨a,H,L,B,M,v,⟨f,rfl⟩,rfl⟩;by_cases j:k<l.length
  .have J:=Q3 j;have q:=Qt8 j v;have s:Jr.Ok (l.getD k default):=W _ (za l default k j);obtain⟨x,hx⟩:∃x,x=l.getD k default:=⟨_,rfl⟩;rw[<- hx]at q s;have Ug:=λg=>(show QI prog 83 (h++(f++g)) [.ptr (h.length+1) 0 0 0,.agg x.cells] (λd o=>d=Qb (wO a x)/\V6 (λl=>h.length<=l/\l<(h++f).length) o (h.length+1) (Bo a x)/\Step (λl=>h.length<=l/\l<(h++f).length) (h++(f++g)) o) by rw[<- Wx];exact Qso (L.app g) B x);have Zl:=KJ (show k<4611686018427387904 from ω);apply Qg e;simp only[go_sem,Qa,J,j,Jr.wh,<- hx];refine Jb e Qn9 (Ug _) λd F E=>?_;obtain⟨rfl,R6,Q⟩:=E;have r:∃g,F=h++g:=by
    refine⟨F.drop h.length,?_⟩;apply xh;intro i;by_cases N:i<h.length
    .rw[QG N,Q.keep i ξ (λh=>by have:=h.1;omega),QG N]
    .rw[JE ω,GZ];congr 1;omega
   have R7:V6 (λl=>h.length<=l) F (h.length+1) (Bo a x):=R6.step λl _ V=>⟨V.1,rfl⟩;apply Zd e;by_cases b:wO a x=0
   .rw[Qe (by simpa using b)]at q;have d0:(wO a x != 0)=false:=by simpa using b
    simp only[go_sem,d0];exact⟨j,_,QF.frame (by simp only[go_sem,Zl]),Bo a x,_,R7,B.one x,M.one B.rising s,q,r,rfl⟩
   .rw[Qf (by simpa using b)]at q;have d0:(wO a x != 0)=true:=by simpa using b
    simp only[go_sem,d0];rw[z,y,q];simp only[Qf (show wO a x≠0 from b),Qe b];exact⟨0,trivial,(λh=>absurd h b),r⟩
  .have ZD:k=l.length:=ω;have J:=QS j;rw[ZD,List.drop_length,XW]at v;rw[v]at z y;simp only[ne_eq,not_true_eq_false,vN]at z y;have Y:KS T l=a:=by unfold KS;rw[v]
   have O:=B.len;have Gp:QR prog 85 (h++f) [.ptr (h.length+1) 0 0 0] (λd=>d=XD (Yg a)):=by
    obtain⟨m,c,es,h1,h2,Z⟩:=L.toR;exact QtO _ _ m c Z ω h1 h2 (λx hx=>(M x hx).nn)
   have JS:=QtK a;apply Qg e;simp only[go_sem,Qa,J];apply QC e;apply ZA e Qob Gp;apply QC e;apply YC e Qoa (QtD n (Yg a) ω M.Qt7);apply QC e;rw[z,y,Y];by_cases b:CC n (Yg a)=0
   .have d0:(CC n (Yg a) != 0)=false:=by simpa using b
    simp only[go_sem,Qa,d0];rw[b];exact⟨h.length+1,σ,λ_=>L,f,rfl⟩
   .have d0:(CC n (Yg a) != 0)=true:=by simpa using b
    simp only[go_sem,Qa,d0];exact⟨0,by simp[b],λh=>absurd h b,f,rfl⟩
def cZ{T}(I:Ve T)(K:wQ T){l}(a:∀c∈l,Jr.Ok c):Ve (KS T l)/\wQ (KS T l):=Qfj l T 0 I K a
def Gq(T:List Qt)(a:Int):Bool:=decide (1<Q4 ((Qz T a).getD default).rt)
def db(A B:List Qt):Bool:=(J6 A B).any λid=>Gq A id || Gq B id
structure Nd where
 c:Qt
 Ja:Nat
 du:Du
 sh:Sh
 cp:Cp
 q:Qu
instance:Inhabited Nd:=⟨⟨default,0,default,default,default,default⟩⟩
def Kt(d:D)(n:Nd):List D:=d::(n.c.cells++(u64 n.Ja::(n.du.cells++(n.sh.cells++n.cp.cells))))
section
variable (d:D)(n:Nd)
@[go_sem] theorem QC4:(Kt d n).getD 0 D.undef=d:=rfl
@[go_sem] theorem QC5:(List.drop 1 (Kt d n)).getD 0 D.undef=Qb n.c.iD:=rfl
@[go_sem] theorem QC6:(List.drop 2 (Kt d n)).getD 0 D.undef=Qb n.c.parent:=rfl
@[go_sem] theorem QC7:(List.drop 3 (Kt d n)).getD 0 D.undef=QT n.c.leaf:=rfl
@[go_sem] theorem QC8:(List.drop 15 (Kt d n)).getD 0 D.undef=u64 n.Ja:=rfl
@[go_sem] theorem QC9:(List.drop 36 (Kt d n)).getD 0 D.undef=u64 n.du.XV:=rfl
@[go_sem] theorem QDa:(List.drop 37 (Kt d n)).getD 0 D.undef=u64 n.du.dead:=rfl
@[go_sem] theorem QDb:(List.drop 48 (Kt d n)).getD 0 D.undef=u64 n.sh.time:=rfl
@[go_sem] theorem QDc:(List.drop 59 (Kt d n)).getD 0 D.undef=u64 n.cp.fit:=rfl
@[go_sem] theorem QDd:List.take 14 (List.drop 1 (Kt d n))=n.c.cells:=rfl
@[go_sem] theorem QDe:List.take 3 (List.drop 4 (Kt d n))=n.c.rt.cells:=rfl
@[go_sem] theorem QDf:List.take 3 (List.drop 7 (Kt d n))=n.c.ls.cells:=rfl
@[go_sem] theorem QDg:List.take 3 (List.drop 10 (Kt d n))=n.c.ul.cells:=rfl
@[go_sem] theorem QDh:List.take 22 (List.drop 16 (Kt d n))=n.du.cells:=rfl
@[go_sem] theorem QDi:List.take 11 (List.drop 38 (Kt d n))=n.sh.cells:=rfl
@[go_sem] theorem QDj:List.take 11 (List.drop 49 (Kt d n))=n.cp.cells:=rfl
@[go_sem] theorem QDk(v):List.take 15 (Kt d n)++(.raw (.int .u64 ((v:Nat):Int))::List.drop 16 (Kt d n))=Kt d { n with Ja:=v }:=rfl
@[go_sem] theorem QDl(x:Du):List.take 16 (Kt d n)++(.raw (.bool x.has)::.raw (.int .u64 ((x.dl.f.x:Nat):Int))::.raw (.int .u64 ((x.dl.f.y / 18446744073709551616:Nat):Int))::.raw (.int .u64 ((x.dl.f.y % 18446744073709551616:Nat):Int))::.raw (.int .u64 ((x.dl.f.m:Nat):Int))::.raw (.int .u64 ((x.dl.t.x:Nat):Int))::.raw (.int .u64 ((x.dl.t.y / 18446744073709551616:Nat):Int))::.raw (.int .u64 ((x.dl.t.y % 18446744073709551616:Nat):Int))::.raw (.int .u64 ((x.dl.t.m:Nat):Int))::.raw (.bool x.dl.b)::.raw (.int .u64 ((x.rd.f.x:Nat):Int))::.raw (.int .u64 ((x.rd.f.y / 18446744073709551616:Nat):Int))::.raw (.int .u64 ((x.rd.f.y % 18446744073709551616:Nat):Int))::.raw (.int .u64 ((x.rd.f.m:Nat):Int))::.raw (.int .u64 ((x.rd.t.x:Nat):Int))::.raw (.int .u64 ((x.rd.t.y / 18446744073709551616:Nat):Int))::.raw (.int .u64 ((x.rd.t.y % 18446744073709551616:Nat):Int))::.raw (.int .u64 ((x.rd.t.m:Nat):Int))::.raw (.bool x.rd.b)::.raw (.int .u64 ((x.JB:Nat):Int))::.raw (.int .u64 ((x.XV:Nat):Int))::.raw (.int .u64 ((x.dead:Nat):Int))::List.drop 38 (Kt d n))=Kt d { n with du:=x }:=rfl
@[go_sem] theorem Qua(x:Sh):List.take 38 (Kt d n)++(.raw (.bool x.has)::.raw (.int .u64 ((x.run.f.x:Nat):Int))::.raw (.int .u64 ((x.run.f.y / 18446744073709551616:Nat):Int))::.raw (.int .u64 ((x.run.f.y % 18446744073709551616:Nat):Int))::.raw (.int .u64 ((x.run.f.m:Nat):Int))::.raw (.int .u64 ((x.run.t.x:Nat):Int))::.raw (.int .u64 ((x.run.t.y / 18446744073709551616:Nat):Int))::.raw (.int .u64 ((x.run.t.y % 18446744073709551616:Nat):Int))::.raw (.int .u64 ((x.run.t.m:Nat):Int))::.raw (.bool x.run.b)::.raw (.int .u64 ((x.time:Nat):Int))::List.drop 49 (Kt d n))=Kt d { n with sh:=x }:=rfl
@[go_sem] theorem QDm(x:Cp):List.take 49 (Kt d n)++(.raw (.bool x.has)::.raw (.int .u64 ((x.run.f.x:Nat):Int))::.raw (.int .u64 ((x.run.f.y / 18446744073709551616:Nat):Int))::.raw (.int .u64 ((x.run.f.y % 18446744073709551616:Nat):Int))::.raw (.int .u64 ((x.run.f.m:Nat):Int))::.raw (.int .u64 ((x.run.t.x:Nat):Int))::.raw (.int .u64 ((x.run.t.y / 18446744073709551616:Nat):Int))::.raw (.int .u64 ((x.run.t.y % 18446744073709551616:Nat):Int))::.raw (.int .u64 ((x.run.t.m:Nat):Int))::.raw (.bool x.run.b)::.raw (.int .u64 ((x.fit:Nat):Int))::List.drop 60 (Kt d n))=Kt d { n with cp:=x }:=rfl
end
inductive Tag where
 | no|sc|tree|oL|wv (id:Int)|qm (id:Int)|on|lv|mk|XF (id:Int)|Qub
deriving DecidableEq
def QV(a:Nat->Tag)(h:List Ob)(t:Tag):Nat->Tag:=λl=>if h.length<=l then t else a l
def dc{a}{h}{t}(l):more (λl=>a l=t) h l->QV a h t l=t:=λb=>by
 unfold QV;split
 .rfl
 .rcases b with b|b
  .exact b
  .omega
def Ku{a}{h:List Ob}{t}{l}(b:l<h.length):QV a h t l=a l:=by unfold QV;rw[Qe ω]
structure Qn where
 lk:Cf
 T:List Qt
 To:List Qt
 N:List Nd
 A:List Int
 Lv:List It
 ks:Int->Bool
 KT:Int->List It
 Qi:Nat
 acc:Nat
structure Loc where
 t:Nat
 b:Nat
 o:Nat
 v:Nat
 m:Nat
 cb:Nat
 cm:Nat
 eb:List Zy
 em:List Zy
 le:Int->Nat
 lq:Int->Nat
 lk:Int->Nat
def Qj(N:List Nd)(a:Int):Option Nd:=N.find? λn=>n.c.iD==a
@[go_sem] def jj(c:Cf)(t b o v m d a:Nat):Ob:=⟨.one,0,9,1,λ_=>[Qb c.t,Qb c.JU,.ptr t 0 0 0,.mref b 0,.ptr o 0 0 0,.ptr v 0 0 0,.mref m 0,u64 d,u64 a]⟩
@[go_sem] def Yh(d:D)(n:Nd):Ob:=⟨.one,0,60,1,λ_=>Kt d n⟩
def qD(a:Int->Nat)(n:Nd):D:=if n.c.leaf=true then .ptr (a n.c.iD) 0 0 0 else .raw (.pointer none)
structure Nd.Ok (n:Nd):Prop where
 Ja:n.Ja<18446744073709551616
 du:n.du.Ok
 sh:n.sh.Ok
 cp:n.cp.Ok
 c:Qt.Ok n.c
structure Zv (own:Nat->Tag) (h:List Ob) (p:Nat) (L:Loc) (M:Qn):Prop where
 ob:h[p]? = some (jj M.lk L.t L.b L.o L.v L.m M.Qi M.acc)
 op:own p=.sc
 tr:V6 (λl=>own l=.tree) h L.t M.T
 KZ:h[L.b]? = some (QM .i64 L.cb L.eb)
 YG:KD L.eb (λid=>(Qj M.N id).map λ_=>.ptr (L.le id) 0 0 0)
 ow:own L.b=.oL
 Jc:∀id n,Qj M.N id=some n->h[L.le id]? = some (Yh (qD L.lq n) n)/\own (L.le id)=.wv id
 WJ:∀id n,Qj M.N id=some n->n.c.leaf=true->∃k:Nat,n.c.Zz=k/\vh (λl=>own l=.qm id) h (L.lq id) k n.c.bytes n.q
 YH:zn (λl=>own l=.on) h L.o M.To M.A
 XG:Wr (λl=>own l=.lv) h L.v M.Lv
 VA:h[L.m]? = some (QM .i64 L.cm L.em)
 Xn:KD L.em (λid=>if M.ks id=true then some (.ptr (L.lk id) 0 0 0) else none)
 om:own L.m=.mk
 kids:∀id,M.ks id=true->Wr (λl=>own l=.XF id) h (L.lk id) (M.KT id)
 YI:∀id n,Qj M.N id=some n->n.Ok
def Wr.step{S S'}{h h':List Ob}{p}{L}(e:∀l,l<h.length->S l->S' l/\h'[l]? = h[l]?):Wr S h p L->Wr S' h' p L:=λ⟨a,m,t,c,g,T⟩=>
 have k:∀l o,S l->h[l]? = some o->h'[l]? = some o:=λl o f d=>(e l (Qc d) f).2.trans d
 ⟨a,m,t,c,g,k _ _ T.sp T.o,⟨k _ _ T.sa T.av.o,T.av.is.frame λl b=>(e l (T.av.is.lt l b) (T.st l b)).2,T.av.list,T.av.nd,T.av.out,T.av.sorted⟩,k _ _ T.sm T.mo,T.mp,T.vi,T.pa,T.pm,T.am,T.pt,T.mt,(e _ (Qc T.o) T.sp).1,(e _ (Qc T.av.o) T.sa).1,(e _ (Qc T.mo) T.sm).1,λl b=>(e l (T.av.is.lt l b) (T.st l b)).1⟩
def Live(t:Tag):Prop:=t≠.no/\t≠.Qub
def Zv.step{c own'}{h h':List Ob}{p}{L}{M}(C:Zv c h p L M)(e:∀l,l<h.length->Live (c l)->own' l=c l/\h'[l]? = h[l]?):Zv own' h' p L M:=by
 have k:∀l o t,c l=t->Live t->h[l]? = some o->h'[l]? = some o:=λl o t d f i=>(e l (Qc i) (by rw[d];exact f)).2.trans i;have g:∀l o t,c l=t->Live t->h[l]? = some o->own' l=t:=λl o t d f i=>by rw[(e l (Qc i) (by rw[d];exact f)).1,d]
 have s:∀t,Live t->∀l,l<h.length->c l=t->own' l=t/\h'[l]? = h[l]? := λt f l m d=>by
  obtain⟨a,b⟩:=e l m (by rw[d];exact f);exact⟨by rw[a,d],b⟩
 refine⟨k _ _ _ C.op (by simp[Live]) C.ob,g _ _ _ C.op (by simp[Live]) C.ob,C.tr.step (s _ (by simp[Live])),k _ _ _ C.ow (by simp[Live]) C.KZ,C.YG,g _ _ _ C.ow (by simp[Live]) C.KZ,λid n j=>?_,λid n j m=>?_,C.YH.step (s _ (by simp[Live])),C.XG.step (s _ (by simp[Live])),k _ _ _ C.om (by simp[Live]) C.VA,C.Xn,g _ _ _ C.om (by simp[Live]) C.VA,λid r=>(C.kids id r).step (s _ (by simp[Live])),C.YI⟩
 .obtain⟨d,f⟩:=C.Jc id n j;exact⟨k _ _ _ f (by simp[Live]) d,g _ _ _ f (by simp[Live]) d⟩
 .obtain⟨q,d,f⟩:=C.WJ id n j m;exact⟨q,d,f.step (s _ (by simp[Live]))⟩
structure Zt (own:Nat->Tag) (h:List Ob) (own':Nat->Tag) (h':List Ob):Prop where
 same:∀l,l<h.length->own' l=own l
 keep:∀l,l<h.length->own l=Tag.no->h'[l]? = h[l]?
 len:h.length<=h'.length
def Zt.refl(a)(h):Zt a h a h:=⟨λ_ _=>rfl,λ_ _ _=>rfl,QB _⟩
def Zt.trans{e c i}{h h' g}(a:Zt e h c h')(b:Zt c h' i g):Zt e h i g:=
 ⟨λl d=>(b.same l (kv d a.len)).trans (a.same l d),λl d f=>(b.keep l (kv d a.len) ((a.same l d).trans f)).trans (a.keep l d f),K9 a.len b.len⟩
def Zt.app(a)(h g)(t):Zt a h (QV a h t) (h++g):=⟨λl b=>Ku b,λl b _=>QG b,σ⟩
def Zt.of{own}{h b}{t}(c:t≠.no)(s:Step (λl=>own l=t) h b):Zt own h (QV own h t) b:=
 ⟨λl a=>Ku a,λl a d=>s.keep l a (by rw[d];exact λe=>c e.symm),s.len⟩
def Zt.set{own}{h:List Ob}{l}(o)(b:own l≠.no):Zt own h own (h.set l o):=⟨λ_ _=>rfl,λj c a=>Qm (λe=>b (e▸a)),σ⟩
section
variable {own:Nat->Tag}{h h':List Ob}{p:Nat}{L:Loc}{M:Qn}(C:Zv own h p L M)
include C
theorem Zv.NC(g):Zv (QV own h .no) (h++g) p L M:=C.step λl a _=>⟨Ku a,QG a⟩
theorem Zv.loc{l}(a:own l=.no)(o):Zv own (h.set l o) p L M:=C.step λj _ b=>⟨rfl,Qm (λe=>b.1 (by rw[<- e,a]))⟩
theorem Zv.rest{t}(s:Step (λl=>own l=t) h h'):∀u,u≠t->∀l,l<h.length->own l=u->QV own h t l=u/\h'[l]? = h[l]? := λu c l a b=>
 ⟨by rw[Ku a,b],s.keep l a (by rw[b];exact c)⟩
theorem Zv.XF(c)(x:M.ks c=true){B}(w:Wr (more (λl=>own l=.XF c) h) h' (L.lk c) B)(s:Step (λl=>own l=.XF c) h h'):Zv (QV own h (.XF c)) h' p L { M with KT:=λj=>if j=c then B else M.KT j }:=by
 have r:=C.rest s;have k:∀l o t,own l=t->t≠.XF c->h[l]? = some o->h'[l]? = some o/\QV own h (.XF c) l=t:=λl o t f d q=>by
  obtain⟨a,b⟩:=r t d l (Qc q) f;exact⟨b.trans q,a⟩
 refine⟨(k _ _ _ C.op σ C.ob).1,(k _ _ _ C.op σ C.ob).2,C.tr.step (r _ σ),(k _ _ _ C.ow σ C.KZ).1,C.YG,(k _ _ _ C.ow σ C.KZ).2,λi n g=>?_,λi n g m=>?_,C.YH.step (r _ σ),C.XG.step (r _ σ),(k _ _ _ C.om σ C.VA).1,C.Xn,(k _ _ _ C.om σ C.VA).2,λi v=>?_,C.YI⟩
 .obtain⟨f,d⟩:=C.Jc i n g;exact k _ _ _ d σ f
 .obtain⟨u,f,d⟩:=C.WJ i n g m;exact⟨u,f,d.step (r _ σ)⟩
 .by_cases e:i=c
  .subst e;dsimp only;rw[Qf rfl];exact w.mono λl m=>dc l m
  .dsimp only;rw[Qe e];exact(C.kids i v).step (r _ (by simpa using e))
theorem Zv.lv{B}(q:Wr (more (λl=>own l=.lv) h) h' L.v B)(s:Step (λl=>own l=.lv) h h'):Zv (QV own h .lv) h' p L { M with Lv:=B }:=by
 have r:=C.rest s;have k:∀l o t,own l=t->t≠.lv->h[l]? = some o->h'[l]? = some o/\QV own h .lv l=t:=λl o t d c g=>by
  obtain⟨a,b⟩:=r t c l (Qc g) d;exact⟨b.trans g,a⟩
 refine⟨(k _ _ _ C.op σ C.ob).1,(k _ _ _ C.op σ C.ob).2,C.tr.step (r _ σ),(k _ _ _ C.ow σ C.KZ).1,C.YG,(k _ _ _ C.ow σ C.KZ).2,λi n e=>?_,λi n e f=>?_,C.YH.step (r _ σ),q.mono λl f=>dc l f,(k _ _ _ C.om σ C.VA).1,C.Xn,(k _ _ _ C.om σ C.VA).2,λi m=>(C.kids i m).step (r _ σ),C.YI⟩
 .obtain⟨d,c⟩:=C.Jc i n e;exact k _ _ _ c σ d
 .obtain⟨j,d,c⟩:=C.WJ i n e f;exact⟨j,d,c.step (r _ σ)⟩
theorem Zv.act{j}(u:zn (more (λl=>own l=.on) h) h' L.o M.To j)(s:Step (λl=>own l=.on) h h'):Zv (QV own h .on) h' p L { M with A:=j }:=by
 have r:=C.rest s;have k:∀l o t,own l=t->t≠.on->h[l]? = some o->h'[l]? = some o/\QV own h .on l=t:=λl o t d c g=>by
  obtain⟨a,b⟩:=r t c l (Qc g) d;exact⟨b.trans g,a⟩
 refine⟨(k _ _ _ C.op σ C.ob).1,(k _ _ _ C.op σ C.ob).2,C.tr.step (r _ σ),(k _ _ _ C.ow σ C.KZ).1,C.YG,(k _ _ _ C.ow σ C.KZ).2,λi n e=>?_,λi n e f=>?_,u.step λl _ f=>⟨dc l f,rfl⟩,C.XG.step (r _ σ),(k _ _ _ C.om σ C.VA).1,C.Xn,(k _ _ _ C.om σ C.VA).2,λi q=>(C.kids i q).step (r _ σ),C.YI⟩
 .obtain⟨d,c⟩:=C.Jc i n e;exact k _ _ _ c σ d
 .obtain⟨m,d,c⟩:=C.WJ i n e f;exact⟨m,d,c.step (r _ σ)⟩
end
def Zt.CG{b}{h:List Ob}{a}{H:List Ob}(D:Zt b h a H){l}(e:h.length<=l)(o):Zt b h a (H.set l o):=⟨D.same,λj d c=>by rw[Qm ω];exact D.keep j d c,by simpa using D.len⟩
def VT(N:List Nd)(a:Int)(f:Nd->Nd):List Nd:=N.map λn=>if n.c.iD=a then f n else n
def jk{N}{id}{f}(c:∀n,(f n).c.iD=n.c.iD)(j:Int):Qj (VT N id f) j=if j=id then (Qj N j).map f else Qj N j:=by
 unfold Qj VT;rw[List.find?_map];have e:((λn:Nd=>n.c.iD==j) ∘ λn=>if n.c.iD=id then f n else n)=λn=>n.c.iD==j:=by
  funext n;simp only[Function.comp_apply];split<;>simp[c]
 rw[e];by_cases b:j=id
 .subst b;rw[Qf rfl];cases a:N.find? λn=>n.c.iD==j with
  | none=>rfl
  | some n=>
   have:=xi a;simp only[zH]at this;simp[this]
 .rw[Qe b];cases a:N.find? λn=>n.c.iD==j with
  | none=>rfl
  | some n=>
   have:=xi a;simp only[zH]at this;simp only[Kx];rw[Qe (by rw[this];exact b)]
section
variable {own:Nat->Tag}{h:List Ob}{p:Nat}{L:Loc}{M:Qn}(C:Zv own h p L M)
include C
theorem Zv.wv{b}{n:Nd}(g:Qj M.N b=some n)(f)(w:∀n,(f n).c=n.c)(z:∀n,(f n).q=n.q)(I:(f n).Ok):Zv own (h.set (L.le b) (Yh (qD L.lq n) (f n))) p L { M with N:=VT M.N b f }:=by
 obtain⟨F,x⟩:=C.Jc b n g;have s:∀l o t,own l=t->t≠.wv b->h[l]? = some o->(h.set (L.le b) (Yh (qD L.lq n) (f n)))[l]? = some o:=λl o t q E B=>by
  rw[Qm (λe=>E (by rw[<- q,<- e,x]))];exact B
 have r:∀t,t≠.wv b->∀l,l<h.length->own l=t->own l=t/\(h.set (L.le b) (Yh (qD L.lq n) (f n)))[l]? = h[l]? := λt y l k q=>⟨q,Qm (λe=>y (by rw[<- q,<- e,x]))⟩;have H:∀n,(f n).c.iD=n.c.iD:=λn=>by rw[w]
 have u:=jk (N:=M.N) (id:=b) H;refine⟨s _ _ _ C.op σ C.ob,C.op,C.tr.step (r _ σ),s _ _ _ C.ow σ C.KZ,C.YG.to λj=>?_,C.ow,λj m a=>?_,λj m a k=>?_,C.YH.step (r _ σ),C.XG.step (r _ σ),s _ _ _ C.om σ C.VA,C.Xn,C.om,λj c=>(C.kids j c).step (r _ σ),λj m a=>?_⟩
 .dsimp only;rw[u];split
  .cases Qj M.N j<;>rfl
  .rfl
 .dsimp only at a;rw[u]at a;by_cases c:j=b
  .subst c;rw[Qf rfl,g,Kx]at a;cases a;refine⟨?_,x⟩;rw[Qv (Qc F)];unfold qD;rw[w]
  .rw[Qe c]at a;obtain⟨i,d⟩:=C.Jc j m a;exact⟨s _ _ _ d (by simpa using c) i,d⟩
 .dsimp only at a;rw[u]at a;by_cases c:j=b
  .subst c;rw[Qf rfl,g,Kx]at a;cases a;rw[w]at k ⊢;rw[z];obtain⟨v,i,d⟩:=C.WJ j n g k;exact⟨v,i,d.step (r _ σ)⟩
  .rw[Qe c]at a;obtain⟨v,i,d⟩:=C.WJ j m a k;exact⟨v,i,d.step (r _ σ)⟩
 .dsimp only at a;rw[u]at a;by_cases c:j=b
  .subst c;rw[Qf rfl,g,Kx]at a;cases a;exact I
  .rw[Qe c]at a;exact C.YI j m a
theorem Zv.qm{w:List Ob}{d:Int}{n:Nd}(i:Qj M.N d=some n)(J:n.c.leaf=true){k:Nat}(F:n.c.Zz=k){y:Qu}(Q:vh (λl=>own l=.qm d) w (L.lq d) k n.c.bytes y)(s:Step (λl=>own l=.qm d) h w):Zv (QV own h (.qm d)) w p L { M with N:=VT M.N d λn=>{ n with q:=y } }:=by
 have r:=C.rest s;have g:∀l o t,own l=t->t≠.qm d->h[l]? = some o->w[l]? = some o/\QV own h (.qm d) l=t:=λl o t z H E=>by
  obtain⟨a,b⟩:=r t H l (Qc E) z;exact⟨b.trans E,a⟩
 have x:=jk (N:=M.N) (id:=d) (f:=λn=>{ n with q:=y }) (λ_=>rfl);refine⟨(g _ _ _ C.op σ C.ob).1,(g _ _ _ C.op σ C.ob).2,C.tr.step (r _ σ),(g _ _ _ C.ow σ C.KZ).1,C.YG.to λj=>?_,(g _ _ _ C.ow σ C.KZ).2,λj m c=>?_,λj m c I=>?_,C.YH.step (r _ σ),C.XG.step (r _ σ),(g _ _ _ C.om σ C.VA).1,C.Xn,(g _ _ _ C.om σ C.VA).2,λj e=>(C.kids j e).step (r _ σ),λj m c=>?_⟩
 .dsimp only;rw[x];split
  .cases Qj M.N j<;>rfl
  .rfl
 .dsimp only at c;rw[x]at c;by_cases e:j=d
  .subst e;rw[Qf rfl,i,Kx]at c;cases c;obtain⟨v,u⟩:=C.Jc j n i;exact g _ _ _ u σ v
  .rw[Qe e]at c;obtain⟨v,u⟩:=C.Jc j m c;exact g _ _ _ u σ v
 .dsimp only at c;rw[x]at c;by_cases e:j=d
  .subst e;rw[Qf rfl,i,Kx]at c;cases c;exact⟨k,F,Q.step λl _ z=>⟨dc l (.inl z),rfl⟩⟩
  .rw[Qe e]at c;obtain⟨B,v,u⟩:=C.WJ j m c I;exact⟨B,v,u.step (r _ (by simpa using e))⟩
 .dsimp only at c;rw[x]at c;by_cases e:j=d
  .subst e;rw[Qf rfl,i,Kx]at c;cases c;have:=C.YI j n i;exact⟨this.Ja,this.du,this.sh,this.cp,this.c⟩
  .rw[Qe e]at c;exact C.YI j m c
theorem Zv.Qi(c a):Zv own (h.set p (jj M.lk L.t L.b L.o L.v L.m c a)) p L { M with Qi:=c,acc:=a }:=by
 have i:∀l o t,own l=t->t≠.sc->h[l]? = some o->(h.set p (jj M.lk L.t L.b L.o L.v L.m c a))[l]? = some o:=λl o t b v u=>by
  rw[Qm (λe=>v (by rw[<- b,<- e,C.op]))];exact u
 have r:∀t,t≠.sc->∀l,l<h.length->own l=t->own l=t/\(h.set p (jj M.lk L.t L.b L.o L.v L.m c a))[l]? = h[l]? := λt q l k b=>⟨b,Qm (λe=>q (by rw[<- b,<- e,C.op]))⟩;refine⟨Qv (Qc C.ob),C.op,C.tr.step (r _ σ),i _ _ _ C.ow σ C.KZ,C.YG,C.ow,λj m f=>?_,λj m f k=>?_,C.YH.step (r _ σ),C.XG.step (r _ σ),i _ _ _ C.om σ C.VA,C.Xn,C.om,λj s=>(C.kids j s).step (r _ σ),C.YI⟩
 .obtain⟨g,d⟩:=C.Jc j m f;exact⟨i _ _ _ d σ g,d⟩
 .obtain⟨n,g,d⟩:=C.WJ j m f k;exact⟨n,g,d.step (r _ σ)⟩
end
structure Qx (M:Qn):Prop where
 tree:Ve M.T
 y8:wQ M.T
 to:M.To=M.T
 nodes:M.T=M.N.map (·.c)
 Xo:xI M.T M.A
 ks:∀id,M.ks id=true↔id=0\/∃n,Qj M.N id=some n/\n.c.leaf=false
 y9:∀x∈M.Lv,(Qz M.T x.ki).isSome=true
 jZ:∀id,∀x∈M.KT id,∃c,Qz M.T x.ki=some c/\c.parent=id
 j4:∀id,∀x∈M.KT id,x.ka<=18446744073709551615
 Qi:M.Qi<=4611686018427387904
 acc:M.acc<=1099511627776
def oM(N:List Nd)(a:Int):Qz (N.map (·.c)) a=(Qj N a).map (·.c):=by
 unfold Qz Qj;rw[List.find?_map];rfl
section
variable {M:Qn}(I:Qx M)
include I
theorem Qx.find(a:Int):Qz M.T a=(Qj M.N a).map (·.c):=by rw[I.nodes,oM]
theorem Qx.oN(a):∀x∈M.KT a,(Qz M.T x.ki).isSome=true:=λx hx=>by
 obtain⟨c,b,_⟩:=I.jZ a x hx;rw[b];rfl
theorem Qx.some{a}{n:Nd}(h:Qj M.N a=some n):Qz M.T a=Option.some n.c:=by rw[I.find,h];rfl
omit I in
theorem Qx.id{a}{n:Nd}(h:Qj M.N a=Option.some n):n.c.iD=a:=by
 have:=xi h;simpa using this
theorem Qx.Gr{a}{n}(h:Qj M.N a=Option.some n):a≠0:=λe=>by
 have:=I.some h;rw[e,Ea I.tree]at this;cases this
theorem Qx.ND{a}{c}(h:Qz M.T a=Option.some c):∃n,Qj M.N a=Option.some n/\n.c=c:=by
 rw[I.find]at h;cases b:Qj M.N a with
 | none=>rw[b]at h;cases h
 | some n=>rw[b]at h;exact⟨n,rfl,G6 h⟩
end
def Wr.nd{S}{h}{p}{L:List It}:Wr S h p L->(L.map It.ki).Nodup:=λ⟨a,m,t,c,b,T⟩=>T.ids
def RX{T}(I:Ve T){L:List It}(d:(L.map It.ki).Nodup)(b:∀x∈L,(Qz T x.ki).isSome=true):L.length<=64:=by
 have f:(L.map It.ki).length<=(T.map (·.iD)).length:=by
  refine List.Nodup.length_le_of_subset d λi e=>?_;obtain⟨x,hx,rfl⟩:=Jm.1 e;obtain⟨c,a⟩:=Dj.1 (b x hx);exact Jm.2 ⟨c,xH I a,Qqh I a⟩
 have:=I.len;simp only[JV]at f;omega
def Jq(M:Qn)(a:Int):Bool:=Z2 M.T M.A a
def V8(M:Qn)(a:Int)(n:Nd):Nat:=if n.c.leaf=true\/Jq M a=false then n.cp.fit else max n.cp.fit (yU (M.KT a))
section
variable {own:Nat->Tag}{h:List Ob}{p:Nat}{L:Loc}{M:Qn}(C:Zv own h p L M)(I:Qx M)
include C I
omit I in
theorem Zv.look{a}{n}(b:Qj M.N a=some n):ZP L.eb a=some (.ptr (L.le a) 0 0 0):=by
 have:=C.YG.at_ a;rw[b]at this;exact this
theorem Zv.de:F8 h L.o M.T M.A:=by
 have:=C.YH.toR;rwa [I.to]at this
theorem Qud{a}{n}(l:Qj M.N a=some n):QR prog 76 h [.ptr p 0 0 0,.ptr (L.le a) 0 0 0] (λd=>d=u64 (V8 M a n)):=by
 have b:=ZG C.ob;have c:=ZG (C.Jc a n l).1;have o:=ZG C.VA;have q:=Qx.id l;have s:=Cj (C.de I) I.tree I.Xo a (I.Gr l);unfold V8;cases i:n.c.leaf with
 | true=>
  rw[Qf (.inl rfl)];refine Zk func76 ntmps76 results76 λk w v F j y e=>?_;rw[<- j]at b c;have g:=Qc b;have f:=Qc c;simp only[go_sem,Qa,b,g,c,f];apply Qw e o02;simp only[go_sem,Qa,b,g,c,f,i,Go.undef];all_goals exact KY
 | false=>
  have u:M.ks a=true:=(I.ks a).2 (.inr ⟨n,l,i⟩);have x:=C.Xn.at_ a;rw[Qf u]at x;have B:=(C.kids a u).toR;have z:Z2 M.T M.A a=Jq M a:=rfl;rw[z]at s;cases r:Jq M a with
  | false=>
   rw[r]at s;rw[Qf (.inr rfl)];refine Zk func76 ntmps76 results76 λk w v F j y e=>?_;rw[<- j]at b c;have g:=Qc b;have f:=Qc c;simp only[go_sem,Qa,b,g,c,f];apply Qw e o02;simp only[go_sem,Qa,b,g,c,f,i,Go.undef];have m:Z2 M.T M.A a=false:=r;refine Yb e FU ?_ (Cj ((C.de I).more (Js j)) I.tree I.Xo a (I.Gr l)) ?_
   .simp only[go_sem,Qa,b,g,c,f,i,Go.undef,q,m]
   apply Q7 e;simp only[go_sem,Qa,b,g,c,f,i,Go.undef,q,m];all_goals exact KY
  | true=>
   rw[r]at s;rw[Qe σ];have m:Z2 M.T M.A a=true:=r;refine Zk func76 ntmps76 results76 λk w v F j y e=>?_;rw[<- j]at b c o;have g:=Qc b;have f:=Qc c;have t:=Qc o;simp only[go_sem,Qa,b,g,c,f,o,t];apply Qw e o02;simp only[go_sem,Qa,b,g,c,f,i,Go.undef];refine Yb e FU ?_ (Cj ((C.de I).more (Js j)) I.tree I.Xo a (I.Gr l)) ?_
   .simp only[go_sem,Qa,b,g,c,f,i,Go.undef,q,m]
   apply Q7 e;simp only[go_sem,Qa,b,g,c,f,i,Go.undef,q,m];apply Qw e o09;simp only[go_sem,Qa,b,g,c,f,o,t,x,q];apply V0 e iM (mY (B.more (Js j)) (I.j4 a));apply Q7 e;simp only[go_sem,Qa,b,g,c,f,o,t];apply MI e Qb8 (Qeo n.cp.fit (yU (M.KT a)));apply Xy e;all_goals exact KY
end
def QD(M:Qn)(a:Int):Nd:=(Qj M.N a).getD default
def K0(M:Qn)(a:Int):Qn:=
 if Jq M a=true then { M with KT:=λj=>if j=(QD M a).c.parent then XU a (QD M a).sh.time (V8 M a (QD M a)) (M.KT (QD M a).c.parent) else M.KT j } else M
def VI(M:Qn):List Int->Qn
 | []=>M
 | id::r=>VI (K0 M id) r
def Qfm(M):∀(l r:List Int),VI M (l++r)=VI (VI M l) r
 | [],r=>rfl
 | id::l,r=>Qfm (K0 M id) l r
def NF(M:Qn)(a:Int):(K0 M a).N=M.N/\(K0 M a).T=M.T/\(K0 M a).To=M.To/\(K0 M a).A=M.A/\(K0 M a).Lv=M.Lv/\(K0 M a).ks=M.ks/\(K0 M a).Qi=M.Qi/\(K0 M a).acc=M.acc/\(K0 M a).lk=M.lk:=by
 unfold K0;split<;>exact⟨rfl,rfl,rfl,rfl,rfl,rfl,rfl,rfl,rfl⟩
def II:∀(l:List Int) (M:Qn),(VI M l).N=M.N/\(VI M l).T=M.T/\(VI M l).To=M.To/\(VI M l).A=M.A/\(VI M l).Lv=M.Lv/\(VI M l).ks=M.ks/\(VI M l).Qi=M.Qi/\(VI M l).acc=M.acc/\(VI M l).lk=M.lk
 | [],M=>⟨rfl,rfl,rfl,rfl,rfl,rfl,rfl,rfl,rfl⟩
 | id::l,M=>by
  obtain⟨s,r,q,p,o,n,m,k,j⟩:=II l (K0 M id);obtain⟨i,h,g,f,e,d,c,b,a⟩:=NF M id;exact⟨s.trans i,r.trans h,q.trans g,p.trans f,o.trans e,n.trans d,m.trans c,k.trans b,j.trans a⟩
def oO{M:Qn}(I:Qx M){b}{n:Nd}(c:Qj M.N b=some n)(o:n.Ok):Qx (K0 M b):=by
 obtain⟨d,a,m,l,k,i,h,g,p⟩:=NF M b;have e:QD M b=n:=by unfold QD;rw[c];rfl
 refine⟨by rw[a];exact I.tree,by rw[a];exact I.y8,by rw[a,m];exact I.to,by rw[a,d];exact I.nodes,by rw[a,l];exact I.Xo,by rw[i,d];exact I.ks,by rw[k,a];exact I.y9,λj x hx=>?_,λj x hx=>?_,by rw[h];exact I.Qi,by rw[g];exact I.acc⟩
 .rw[a];unfold K0 at hx;split at hx
  .dsimp only at hx;split at hx
   .rename_i f;subst f;rcases F7.1 hx with rfl|hx
    .exact⟨n.c,I.some c,by rw[e]⟩
    .exact I.jZ _ x (JO.1 hx).1
   .exact I.jZ _ x hx
  .exact I.jZ _ x hx
 .unfold K0 at hx;split at hx
  .dsimp only at hx;split at hx
   .rcases F7.1 hx with rfl|hx
    .rw[e];have:=o.sh.time;show n.sh.time<=_;omega
    .exact I.j4 _ x (JO.1 hx).1
   .exact I.j4 _ x hx
  .exact I.j4 _ x hx
structure NG (own:Nat->Tag) (h:List Ob) (p:Nat) (L:Loc) (M:Qn) (U:List Int) (k:Nat) (s:St):Prop where
 ex:∃own' H,Zv own' H p L (VI M (U.take k))/\Qx (VI M (U.take k))/\Zt own h own' H/\s=⟨[(0,.ptr p 0 0 0),(12,ints U),(13,Qb U.length),(14,Qb k)],H⟩
def NG.of{own}{h}{p}{L}{M}{U:List Int}{k}{a}{H}(C:Zv a H p L (VI M (U.take k)))(I:Qx (VI M (U.take k)))(D:Zt own h a H):NG own h p L M U k ⟨[(0,.ptr p 0 0 0),(12,ints U),(13,Qb U.length),(14,Qb k)],H⟩:=⟨⟨a,H,C,I,D,rfl⟩⟩
def oP{M:Qn}(I:Qx M){b}{n:Nd}(c:Qj M.N b=some n):M.ks n.c.parent=true:=by
 rw[I.ks];by_cases a:n.c.parent=0
 .exact .inl a
 .obtain⟨d,g,f⟩:=I.tree.Y8 n.c (xH I.tree (I.some c)) a;obtain⟨m,e,rfl⟩:=I.ND g;exact .inr ⟨m,e,f⟩
def oR{m}{h}{p}{L}{M:Qn}(C:Zv m h p L M)(I:Qx M)(a):QI prog 134 h [.ptr p 0 0 0,Qb a] (λd O=>∃f,Zv f O p L (VI M (up M.T a))/\Qx (VI M (up M.T a))/\Zt m h f O):=by
 have i:=C.ob;have df:(up M.T a).length<=16:=Bc;refine QZ func134 ntmps134 results134 λT w pl g=>?_;have r:=Qc i;simp only[go_sem,Qa,i,r];apply ZA g aS (mI C.tr.toR I.tree.toTreeInv a);apply Qg g;simp only[go_sem,Qa,i,r];obtain⟨U,t⟩:∃U,U=up M.T a:=⟨_,rfl⟩;rw[show Jy M.T 16 a=U from t.symm];rw[<- t]at df ⊢;refine Z4 (NG m h p L M U) U.length QN (NG.of (k:=0) C I (Zt.refl m h)) ?_;rintro k _ hk ⟨f,H,c,e,y,rfl⟩;by_cases q:k<U.length
 .have u:=Q3 q;obtain⟨id,v⟩:∃id,id=U.getD k 0:=⟨_,rfl⟩;have z:id∈up M.T a:=by rw[v,<- t];exact za U 0 k q
  obtain⟨e1,P,e3,e4,e5,e6,e7,e8,e9⟩:=II (U.take k) M;have x:=F3 z;have o:VI M (U.take (k+1))=K0 (VI M (U.take k)) id:=by
   rw[getD_take U 0 k q,Qfm,<- v];rfl
  obtain⟨b,EG⟩:∃b,b=VI M (U.take k):=⟨_,rfl⟩;rw[<- EG]at c e e1 P e3 e4 e5 e6 e7 e8 e9 o;obtain⟨n,l⟩:∃n,Qj b.N id=some n:=by
   rw[<- P,e.find]at x;cases Y:Qj b.N id with
   | none=>rw[Y]at x;cases x
   | some n=>exact⟨n,rfl⟩
  have Z3:QD b id=n:=by unfold QD;rw[l];rfl
  have V7:=c.look l;have i:=c.ob;have r:=Qc i;have Q:=c.KZ;have V:=Qc Q;obtain⟨J,_⟩:=c.Jc id n l;have Zx:=Qc J;have F:=c.VA;have QJ:=Qc F;have s:=oP e l;have S:=c.Xn.at_ n.c.parent;rw[Qf s]at S;have R:=KJ (show k<4611686018427387904 from ω);apply Qg g;simp only[go_sem,Qa,u,q,<- v,i,r,Q,V,V7];apply ZA g FU (Cj (c.de e) e.tree e.Xo id (e.Gr l));apply Qg g;simp only[go_sem,Qa,i,r];cases K:Z2 b.T b.A id with
  | false=>
   have W:K0 b id=b:=by unfold K0;rw[Qe (by unfold Jq;rw[K];decide)]
   rw[W]at o;simp only[go_sem,Qa];exact⟨q,_,QF.frame (by simp only[go_sem,R]),NG.of (by rw[o];exact c) (by rw[o];exact e) y⟩
  | true=>
   have E:K0 b id={ b with KT:=λj=>if j=n.c.parent then XU id n.sh.time (V8 b id n) (b.KT n.c.parent) else b.KT j }:=by
    unfold K0;rw[Qf (show Jq b id=true from K),Z3]
   have N:=c.kids _ s;have NH:=Qx.id l;have HY:=RX e.tree N.nd (e.oN _);simp only[go_sem,Qa];apply KX [19] g [0,1,2,3,4,5,6,7,8,9,10,11,12,13,14,15,16,17,1018,1019] [];simp only[go_sem,Qa,i,r,J,Zx,F,QJ,S];apply V0 g Qb2 (Qud c e l);apply Q7 g;simp only[go_sem,Qa,i,r];refine kW g QoX (Qq9 N id n.sh.time (V8 b id n) ω) λd h8 Z=>?_;obtain⟨T8,B⟩:=Z;have C8:=c.XF _ s T8 B;apply Xy g;rw[E]at o;exact⟨q,_,QF.frame (by simp only[go_sem,R]),NG.of (by rw[o];exact C8) (by rw[o,<- E];exact oO e l (c.YI id n l)) (y.trans (Zt.of σ B))⟩
 .have ZD:k=U.length:=ω;have u:=QS q;rw[ZD,zG]at c e;apply Qg g;simp only[go_sem,Qa,u];exact⟨f,c,e,y⟩
def vp(M:Qn)(a:Nat):Bool:=!(decide (a<M.Qi) || decide (4611686018427387904<a))
def ZF(M:Qn)(a:Nat):Qn:=if vp M a=true then { M with Qi:=a } else M
section
variable {own:Nat->Tag}{h:List Ob}{p:Nat}{L:Loc}{M:Qn}(C:Zv own h p L M)
include C
theorem Qfn(a):QI prog 102 h [.ptr p 0 0 0,u64 a] (λd k=>d=QT (vp M a)/\Zv own k p L (ZF M a)/\Zt own h own k):=by
 have c:=C.ob;unfold ZF vp;by_cases j:a<M.Qi
 .have d1:=Q3 j;refine QZ func102 ntmps102 results102 λb w f g=>?_;have e:=Qc c;simp only[go_sem,Qa,c,e,d1,Go.undef];exact⟨by simpa using C,Zt.refl own h⟩
 .have d1:=QS j;by_cases i:4611686018427387904<a
  .have d2:decide ((4611686018427387904:Int)<(a:Int))=true:=Q3 ω;have d3:=Q3 i;refine QZ func102 ntmps102 results102 λb w f g=>?_;have e:=Qc c;simp only[go_sem,Qa,c,e,d1,d2,d3,Go.undef];exact⟨by simpa using C,Zt.refl own h⟩
  .have d2:decide ((4611686018427387904:Int)<(a:Int))=false:=QS ω;have d3:=QS i;refine QZ func102 ntmps102 results102 λb w f g=>?_;have e:=Qc c;simp only[go_sem,Qa,c,e,d1,d2,d3,Go.undef];exact⟨C.Qi a M.acc,Zt.set _ (by rw[C.op];decide)⟩
end
def qo(n:Nd)(b:Int)(a:Bool):Du:=if a then cE n.du b (yW n.q) else Bk n.du (yW n.q)
def VU(M:Qn)(a:Int)(c:Int)(b:Bool):Qn:=
 if 1<Q4 (QD M a).c.rt then { M with
   N:=VT M.N a λn=>{ n with du:=qo (QD M a) c b }
   Lv:=if (QD M a).q.l=[] then KR a (XU a (qo (QD M a) c b).XV (qo (QD M a) c b).dead M.Lv) else XU a (qo (QD M a) c b).XV (qo (QD M a) c b).dead M.Lv }
 else M
def oT{n:Nd}(h:n.Ok)(a)(b:Bool):(qo n a b).Ok:=by
 unfold qo;split
 .exact nB (l:={ n.du with JB:=WU (n.du.JB+a.toNat) }) h.du.dl h.du.rd (Iv _) _
 .exact nB h.du.dl h.du.rd h.du.JB _
section
variable {own:Nat->Tag}{h:List Ob}{p:Nat}{L:Loc}{M:Qn}(C:Zv own h p L M)(I:Qx M)
include C I
theorem Quf{c}{n:Nd}(k:Qj M.N c=some n)(P:n.c.leaf=true)(j)(W8:0<=j)(ZM:j<9223372036854775808)(J):
  QI prog 139 h [.ptr p 0 0 0,.ptr (L.le c) 0 0 0,Qb j,QT J] (λd h'=>∃o,Zv o h' p L (VU M c j J)/\Zt own h o h'):=by
 have e:=C.ob;have a:=(C.Jc c n k).1;have T:=Qx.id k;have Z3:QD M c=n:=by unfold QD;rw[k];rfl
 have JF:=C.YI c n k;have v:=JF.du;obtain⟨kq,IJ,S⟩:=C.WJ c n k P;have V:qD L.lq n=.ptr (L.lq c) 0 0 0:=by unfold qD;rw[Qf P,T]
 rw[V]at a;have B:yW n.q<9223372036854775808:=by
  obtain⟨r,Q⟩:=S;unfold yW;cases N:n.q.l with
  | nil=>decide
  | cons x l=>
   have:=(Q.lens x (by rw[N];simp)).2;show x.len<_;omega
 unfold VU;rw[Z3];by_cases K:1<Q4 n.c.rt
 .rw[Qf K];have q:=Q3 K;refine QZ func139 ntmps139 results139 λF w pl b=>?_;have i:=Qc e;have g:=Qc a;simp only[go_sem,Qa,e,i,a,g];refine Jk b B9 ?_ (DV n.c) ?_
  .simp only[go_sem,Qa,q]
  apply Qg b;simp only[go_sem,Qa,q];have z:=oT JF j J;cases J
  case' true=>
   have hx:qo n j true=cE n.du j (yW n.q):=rfl;rw[hx]at z ⊢;simp only[go_sem,Qa,q];apply Qw b [0,1,2,3,4,5,6,7,8,9,1010,1011,12,13,1014];simp only[go_sem,Qa,e,i,a,g];apply V0 b Qcl (Qel S.toR);apply Q7 b;simp only[go_sem,Qa,e,i,a,g];refine KK b Qo1 ?_ (QrT n.du v.dl v.rd v.JB j (yW n.q) W8 ZM B) ?_
   .simp only[go_sem,Qa,e,i,a,g]
   apply Q7 b;simp only[go_sem,Qa,e,i,a,g];generalize cE n.du j (yW n.q)=x at z ⊢
  case' false=>
   have hx:qo n j false=Bk n.du (yW n.q):=rfl;rw[hx]at z ⊢;simp only[go_sem,Qa,q];apply Qw b [0,1,2,3,4,5,6,7,8,1009,1010,11,12,1013];simp only[go_sem,Qa,e,i,a,g];apply V0 b Qcl (Qel S.toR);apply Q7 b;simp only[go_sem,Qa,e,i,a,g];refine KK b Qo2 ?_ (QrU n.du v.dl v.rd v.JB (yW n.q) B) ?_
   .simp only[go_sem,Qa,e,i,a,g]
   apply Q7 b;simp only[go_sem,Qa,e,i,a,g];generalize Bk n.du (yW n.q)=x at z ⊢
  all_goals
   have u:=C.wv k (λm=>{ m with du:=x }) (λ_=>rfl) (λ_=>rfl) ⟨JF.Ja,z,JF.sh,JF.cp,JF.c⟩;have W:=Zt.set (own:=own) (h:=h) (Yh (qD L.lq n) { n with du:=x }) (l:=L.le c) (by rw[(C.Jc c n k).2];simp);rw[V]at u W;generalize hH:h.set (L.le c) (Yh (.ptr (L.lq c) 0 0 0) { n with du:=x })=H at u W;have F1:h.set (L.le c) ⟨.one,0,60,1,λ_=>Kt (.ptr (L.lq c) 0 0 0) { n with du:=x }⟩=H:=hH;have U:Qj (VT M.N c λm=>{ m with du:=x }) c=some { n with du:=x }:=by
    rw[jk (f:=λm=>{ m with du:=x }) (λ_=>rfl),Qf rfl,k];rfl
   have e:=u.ob;have i:=Qc e;have a:=(u.Jc c _ U).1;have E:qD L.lq { n with du:=x }=.ptr (L.lq c) 0 0 0:=V;rw[E]at a;have g:=Qc a;have HY:=RX I.tree u.XG.nd I.y9;simp only[F1];apply KX [19] b [0,1,2,3,4,5,6,7,8,9,10,11,12,13,14,15,16,17,18,1019] [];simp only[go_sem,Qa,e,i,a,g];refine xD b Qcc rfl ?_ (QdS u.XG c x.XV x.dead ω) rfl λd h8 R=>?_
   .simp only[go_sem,T]
   obtain⟨T8,Z⟩:=R;have s:=u.lv T8 Z;have D8:=W.trans (Zt.of (own:=own) (t:=.lv) σ Z);have e:=s.ob;have i:=Qc e;have a:=(s.Jc c _ U).1;rw[E]at a;have g:=Qc a;obtain⟨a0,a1,oU⟩:=s.WJ c _ U P;apply Q7 b;simp only[go_sem,Qa,e,i,a,g];apply ZA b FV (Ix oU.toR);apply Qg b;simp only[go_sem,Qa,e,i,a,g];cases N:n.q.l with
   | cons y l=>
    have dq:(((l.length+1:Nat):Int)==0)=false:=Xx ω;rw[Qe σ];simp only[go_sem,Qa,N,dq];exact⟨_,s,D8⟩
   | nil=>
    rw[Qf rfl];have HY:=RX I.tree s.XG.nd (λy O=>by
     rcases F7.1 O with rfl|O
     .rw[I.some k];rfl
     .exact I.y9 y (JO.1 O).1)
    simp only[go_sem,Qa,N];apply KX [9] b [0,1,2,3,4,5,6,7,8,1009] [];simp only[go_sem,Qa,e,i,a,g];refine xD b Qcj rfl ?_ (QdQ s.XG c ω) rfl λd h9 R=>?_
    .simp only[go_sem,T]
    obtain⟨rfl,T9,Y⟩:=R;apply Xy b;exact⟨_,s.lv T9 Y,D8.trans (Zt.of σ Y)⟩
 .rw[Qe K];have q:=QS K;refine QZ func139 ntmps139 results139 λF w pl b=>?_;have i:=Qc e;have g:=Qc a;simp only[go_sem,Qa,e,i,a,g];refine Jk b B9 ?_ (DV n.c) ?_
  .simp only[go_sem,Qa,q]
  apply Qg b;simp only[go_sem,Qa,q];exact⟨own,C,Zt.refl own h⟩
end
def IK(L:List It):Nat:=(L.head?.getD default).ka
def Qaw(M:Qn)(a:Nat)(n:Nd):Nd:={ n with sh:=IA n.sh (KE n.c.ls) (IK (M.KT n.c.parent)) n.Ja,cp:=Es n.cp (KE n.c.ul) a n.Ja }
def WX(a:Nat)(M:Qn)(j:Int):Qn:={ M with N:=VT M.N j (Qaw M a) }
def Wu(M:Qn)(c:Nat)(b:Int)(a:Int):Qn:=
 if 1<Q4 (QD M b).c.rt then { M with
   N:=VT M.N b λn=>{ n with du:=z8 (QD M b).du (KE (QD M b).c.rt) c a }
   Lv:=XU b (z8 (QD M b).du (KE (QD M b).c.rt) c a).XV (z8 (QD M b).du (KE (QD M b).c.rt) c a).dead M.Lv }
 else M
def zx(M:Qn)(b:Nat)(c:Int)(a:Int):Qn:=
 if 1<Q4 (QD M c).c.ls then VI ((W6 M.T M.A c).foldl (WX b) { Wu M b c a with A:=c::M.A }) (up M.T c)
 else Wu M b c a
def Qug(N:List Nd)(a)(f:Nd->Nd)(b:∀n,(f n).c=n.c):(VT N a f).map (·.c)=N.map (·.c):=by
 unfold VT;rw[E7];congr 1;funext n;simp only[Function.comp_apply];split
 .exact b n
 .rfl
def Qx.VT{M:Qn}(I:Qx M)(d)(f)(b:∀n,(f n).c=n.c):Qx { M with N:=X.VT M.N d f }:=by
 refine⟨I.tree,I.y8,I.to,by dsimp only;rw[Qug _ _ _ b];exact I.nodes,I.Xo,λj=>?_,I.y9,I.jZ,I.j4,I.Qi,I.acc⟩;dsimp only;rw[I.ks,jk (λn=>by rw[b])];by_cases g:j=d
 .subst g;rw[Qf rfl];constructor
  .rintro (h|⟨n,a,c⟩)
   .exact .inl h
   .exact .inr ⟨f n,by rw[a];rfl,by rw[b];exact c⟩
  .rintro (h|⟨n,a,c⟩)
   .exact .inl h
   .cases e:Qj M.N j with
    | none=>rw[e]at a;cases a
    | some m=>
     rw[e]at a;cases a;exact .inr ⟨m,rfl,by rw[<- b];exact c⟩
 .rw[Qe g]
def Qx.lv{M:Qn}(I:Qx M){B}(h:∀x∈B,(Qz M.T x.ki).isSome=true):Qx { M with Lv:=B }:=
 ⟨I.tree,I.y8,I.to,I.nodes,I.Xo,I.ks,h,I.jZ,I.j4,I.Qi,I.acc⟩
def Qx.act{M:Qn}(I:Qx M){B}(h:xI M.T B):Qx { M with A:=B }:=
 ⟨I.tree,I.y8,I.to,I.nodes,h,I.ks,I.y9,I.jZ,I.j4,I.Qi,I.acc⟩
def oV{c}{a b}{L}{x:It}(h:x∈XU c a b L):x.ki=c\/x∈L:=by
 rcases F7.1 h with rfl|h
 .exact .inl rfl
 .exact .inr (JO.1 h).1
def oW{M}(I:Qx M){a}(c:a<18446744073709551616){n:Nd}(h:n.Ok):(Qaw M a n).Ok:=by
 have d:IK (M.KT n.c.parent)<18446744073709551616:=by
  unfold IK;cases b:M.KT n.c.parent with
  | nil=>decide
  | cons x l=>
   have:=I.j4 n.c.parent x (by rw[b];simp);show x.ka<_;omega
 exact⟨h.Ja,h.du,Qr6 h.sh h.c.2.2.2.2.1.lt d h.Ja,Qsc h.cp h.c.2.2.2.2.2.1.lt c h.Ja,h.c⟩
def Qx.WX{M}(I:Qx M)(a)(j):Qx (WX a M j):=I.VT j (Qaw M a) λ_=>rfl
def IL(a):∀(l:List Int) (M:Qn),(l.foldl (WX a) M).T=M.T/\(l.foldl (WX a) M).A=M.A/\(l.foldl (WX a) M).KT=M.KT/\(l.foldl (WX a) M).lk=M.lk/\(l.foldl (WX a) M).Qi=M.Qi/\(l.foldl (WX a) M).acc=M.acc
 | [],M=>⟨rfl,rfl,rfl,rfl,rfl,rfl⟩
 | j::l,M=>IL a l (X.WX a M j)
def Qx.RY{now}:∀(l:List Int) {M:Qn},Qx M->Qx (l.foldl (X.WX now) M)
 | [],M,I=>I
 | j::l,M,I=>Qx.RY l (I.WX now j)
def RZ{M:Qn}{now}{id}{head:Int}:(Wu M now id head).T=M.T/\(Wu M now id head).A=M.A/\(Wu M now id head).KT=M.KT/\(Wu M now id head).lk=M.lk:=by
 unfold Wu;split<;>exact⟨rfl,rfl,rfl,rfl⟩
def Qx.Wu{M:Qn}(I:Qx M){b}{n}(d:Qj M.N b=Option.some n)(c)(a):Qx (Wu M c b a):=by
 unfold X.Wu;split
 .refine(I.VT b (λn=>{ n with du:=z8 (QD M b).du (KE (QD M b).c.rt) c a }) λ_=>rfl).lv λx hx=>?_;rcases oV hx with h|h
  .rw[h];show (Qz M.T b).isSome=true;rw[I.some d];rfl
  .exact I.y9 x h
 .exact I
def Quh{M:Qn}{b}{c}{a:Int}(j){n:Nd}(d:Qj M.N j=some n):∃m,Qj (Wu M b c a).N j=some m/\m.c=n.c:=by
 unfold Wu;split
 .dsimp only;rw[jk (f:=λn=>{ n with du:=z8 (QD M c).du (KE (QD M c).c.rt) b a }) (λ_=>rfl)];split
  .rw[d];exact⟨_,rfl,rfl⟩
  .exact⟨n,d,rfl⟩
 .exact⟨n,d,rfl⟩
def oX{c:Cv}(h:Cv.Ok c):(((KE c).a:Nat):Int)=c.m1/\(((KE c).d:Nat):Int)=c.d/\(((KE c).b:Nat):Int)=c.m2:=by
 have d:=wf_u64 h.1;have b:=wf_u64 h.2.1;have a:=wf_u64 h.2.2.1;refine⟨?_,?_,?_⟩
 .show ((c.m1.toNat:Nat):Int)=_;omega
 .show ((c.d.toNat:Nat):Int)=_;omega
 .show ((c.m2.toNat:Nat):Int)=_;omega
structure R0 (own:Nat->Tag) (h:List Ob) (p:Nat) (L:Loc) (M:Qn) (now:Nat) (id:Int) (lo g:Nat) (row:Nat->List D) (U:List Int) (k:Nat) (s:St):Prop where
 ex:∃own' H,Zv own' H p L ((U.take k).foldl (WX now) M)/\Zt own h own' H/\own' lo=.on/\H[lo]? = some ⟨.arr,g,1,U.length,row⟩ /\
  s=⟨[(0,.ptr p 0 0 0),(1,u64 now),(8,Qb id),(72,.ref lo g 0 U.length),(73,Qb U.length),(74,Qb k)],H⟩
def R0.of{own}{h}{p}{L}{M}{b}{e}{d g}{c}{U:List Int}{k:Nat}{a}{H:List Ob}(C:Zv a H p L ((U.take k).foldl (WX b) M))(D:Zt own h a H)(i:a d=.on)(f:H[d]? = some ⟨.arr,g,1,U.length,c⟩):
  R0 own h p L M b e d g c U k ⟨[(0,.ptr p 0 0 0),(1,u64 b),(8,Qb e),(72,.ref d g 0 U.length),(73,Qb U.length),(74,Qb k)],H⟩:=⟨⟨a,H,C,D,i,f,rfl⟩⟩
def Qui{r}{h}{p}{L}{M:Qn}(C:Zv r h p L M)(I:Qx M){i}{n:Nd}(z:Qj M.N i=some n)(hl:n.c.leaf=true)(b)(V9:b<18446744073709551616)(c)(hh:c<9223372036854775808)(JH:Jq M i=false):
  QI prog 104 h [.ptr p 0 0 0,u64 b,.ptr (L.le i) 0 0 0,Qb c] (λd h'=>∃v,Zv v h' p L (zx M b i c)/\Qx (zx M b i c)/\Zt r h v h'):=by
 have Q:=C.ob;have R:=(C.Jc i n z).1;have Ze:=Qx.id z;have Z3:QD M i=n:=by unfold QD;rw[z];rfl
 have JF:=C.YI i n z;obtain⟨r1,r2,r3⟩:=oX JF.c.2.2.2.1;have O:=Qx.Wu I z b c;have a9:L.le i≠p:=λe=>by have h1:=(C.Jc i n z).2;rw[e,C.op]at h1;cases h1
 obtain⟨q,NJ⟩:∃q,q=Wu M b i c:=⟨_,rfl⟩;have oY:zx M b i c=if 1<Q4 n.c.ls then VI ((W6 M.T M.A i).foldl (WX b) { q with A:=i::M.A }) (up M.T i) else q:=by unfold zx;rw[Z3,NJ]
 by_cases hr:1<Q4 n.c.rt
 case' pos=>
  have dr:=Q3 hr;have xT:=nG JF.du JF.c.2.2.2.1.lt V9 c;refine QZ func104 ntmps104 results104 λa2 w pl o=>?_;have Z:=Qc Q;have Y:=Qc R;simp only[go_sem,Qa,Q,Z,R,Y];refine Jk o B9 ?_ (DV n.c) ?_
  .simp only[go_sem,Qa,dr]
  apply Qg o;simp only[go_sem,Qa,dr];apply Qw o [0,1,2,3,4,5,6,7,8,9,10,11,1012,13,14,1015];simp only[go_sem,Qa,Q,Z,R,Y];refine KK o Qoz ?_ (Qr3 n.du JF.du (KE n.c.rt) JF.c.2.2.2.1.lt b V9 c hh) ?_
  .simp only[go_sem,Qa,Q,Z,R,Y,r1,r2,r3]
  apply Q7 o;simp only[go_sem,Qa,Q,Z,R,Y,r1,r2,r3];have dh:q={ M with N:=VT M.N i λm=>{ m with du:=z8 n.du (KE n.c.rt) b c },Lv:=XU i (z8 n.du (KE n.c.rt) b c).XV (z8 n.du (KE n.c.rt) b c).dead M.Lv }:=by
   rw[NJ];unfold Wu;rw[Z3,Qf hr]
  generalize z8 n.du (KE n.c.rt) b c=x at xT dh ⊢;have C1:=C.wv z (λm=>{ m with du:=x }) (λ_=>rfl) (λ_=>rfl) ⟨JF.Ja,xT,JF.sh,JF.cp,JF.c⟩;have D1:=Zt.set (own:=r) (h:=h) (Yh (qD L.lq n) { n with du:=x }) (l:=L.le i) (by rw[(C.Jc i n z).2];simp);generalize hH:h.set (L.le i) (Yh (qD L.lq n) { n with du:=x })=H at C1 D1;have F1:h.set (L.le i) ⟨.one,0,60,1,λ_=>Kt (qD L.lq n) { n with du:=x }⟩=H:=hH;have Kj:Qj (VT M.N i λm=>{ m with du:=x }) i=some { n with du:=x }:=by
   rw[jk (f:=λm=>{ m with du:=x }) (λ_=>rfl),Qf rfl,z];rfl
  have Zo:=C1.ob;have Kv:=Qc Zo;have Bx:=(C1.Jc i _ Kj).1;have NK:=Qc Bx;have HY:=RX I.tree C1.XG.nd I.y9;simp only[F1];apply KX [15] o [0,1,2,3,4,5,6,7,8,9,10,11,12,13,14,1015] [];simp only[go_sem,Qa,Zo,Kv,Bx,NK];refine xD o Qcc rfl ?_ (QdS C1.XG i x.XV x.dead ω) rfl λd h8 hR=>?_
  .simp only[go_sem,Ze]
  obtain⟨T8,s8⟩:=hR;have E:=C1.lv T8 s8;have DR:=D1.trans (Zt.of (own:=r) (t:=.lv) σ s8);rw[<- dh]at E;apply Xy o;generalize QV r H .lv=a8 at E DR;generalize h8=HR at E DR ⊢
 case' neg=>
  have dr:=QS hr;refine QZ func104 ntmps104 results104 λa2 w pl o=>?_;have Z:=Qc Q;have Y:=Qc R;simp only[go_sem,Qa,Q,Z,R,Y];refine Jk o B9 ?_ (DV n.c) ?_
  .simp only[go_sem,Qa,dr]
  apply Qg o;simp only[go_sem,Qa,dr];have dh:q=M:=by rw[NJ];unfold Wu;rw[Z3,Qe hr]
  have E:=C;rw[<- dh]at E;have DR:=Zt.refl r h
 all_goals
  rw[<- NJ]at O;obtain⟨kT,kA,kK,kl⟩:=RZ (M:=M) (now:=b) (id:=i) (head:=c);rw[<- NJ]at kT kA kK kl;obtain⟨m,hm,xO⟩:∃m,Qj q.N i=some m/\m.c=n.c:=by rw[NJ];exact Quh i z
  have NL:=(E.Jc i m hm).1;have a4:=Qc NL;have Kz:=E.ob;have Yi:=Qc Kz;simp only[go_sem,Qa,NL,a4,xO];apply YC o kU (kX n.c);apply QC o;by_cases V:1<Q4 n.c.ls;case neg=>
   have ds:=QS V;simp only[go_sem,Qa,ds];rw[oY,Qe V];exact⟨_,E,O,DR⟩
  have ds:=Q3 V;rw[Qf V,<- kA,<- kT]at oY;rw[oY];have Ws:Qz q.T i=some n.c:=by rw[kT];exact I.some z
  have hO:=E.YH;rw[O.to]at hO;have a1:Z2 q.T q.A i=false:=by rw[kT,kA];exact JH
  simp only[go_sem,Qa,ds,Kz,Yi];refine Vo o iK rfl ?_ (QdE hO O.tree O.Xo i n.c Ws hl V a1) rfl λd h9 hR=>?_
  .simp only[go_sem,Ze]
  obtain⟨d1,rfl,AU,O9,s9⟩:=hR;rw[<- O.to]at O9;have C9:=E.act O9 s9;have D9:=DR.trans (Zt.of (t:=.on) σ s9);have I9:Qx { q with A:=i::q.A }:=O.act (λa ha=>by
   rcases QE.1 ha with rfl|ha
   .exact⟨n.c,Ws,hl,V⟩
   .exact O.Xo a ha)
  obtain⟨U,hU⟩:∃U,U=W6 q.T q.A i:=⟨_,rfl⟩;rw[<- hU]at AU ⊢;have df:U.length<=16:=by
   rw[hU];exact K9 (QaJ _).length_le Bc
  have oZ:∀j∈U,j∈up q.T i:=λj W=>by rw[hU]at W;exact(QaJ _).subset W
  obtain⟨K,R3⟩:∃K,K={ q with A:=i::q.A }:=⟨_,rfl⟩;have dt:K.T=q.T:=by rw[R3]
  rw[<- R3]at C9 I9 ⊢;rcases AU with ⟨rfl,R5⟩|⟨lo,g,a6,a0,rfl,⟨Zq,rfl⟩,IM,ZR⟩
  .exfalso;rw[hU,W6,Vl O.tree Ws,Tz,a1]at R5;cases R5
  have a7:=Qc IM;rw[Jv]at IM;apply QC o;refine Z4 (R0 r h p L K b i lo g a0 U) U.length (QF.frame (by simp only[go_sem,Ze])) (R0.of (k:=0) C9 D9 (by unfold QV;rw[Qf Zq]) IM) ?_;rintro k _ hk ⟨v,H,u,Dk,DM,JS,rfl⟩;have R8:=Qc JS;by_cases S:k<U.length;case neg=>
   have ZD:k=U.length:=ω;have dk:=QS S;rw[ZD,zG]at u;have T:=Qx.RY (now:=b) U I9;have IN:=(IL b U K).1;have Jj:=oR u T i;rw[IN,dt]at Jj;apply Qg o;simp only[go_sem,Qa,dk];apply QC o;refine Jb o iO Jj λd X2 hR=>?_;obtain⟨dw,xU,dB,Gs⟩:=hR;apply QC o;exact⟨dw,xU,dB,Dk.trans Gs⟩
  have dk:=Q3 S;obtain⟨j,W⟩:∃j,j=U.getD k 0:=⟨_,rfl⟩;have EI:j∈up q.T i:=oZ j (by rw[W];exact za U 0 k S);have R9:a0 k=[Qb j]:=by have:=ZR k S;rw[Jv]at this;rw[this,W]
  have ZV:(U.take (k+1)).foldl (WX b) K=WX b ((U.take k).foldl (WX b) K) j:=by
   rw[getD_take U 0 k S,GY,<- W];rfl
  have T:=Qx.RY (now:=b) (U.take k) I9;have IN:=(IL b (U.take k) K).1;obtain⟨B,EG⟩:∃B,B=(U.take k).foldl (WX b) K:=⟨_,rfl⟩;rw[<- EG]at u T IN ZV;obtain⟨y,P⟩:∃y,Qj B.N j=some y:=by
   have X4:=F3 EI;rw[<- dt,<- IN,T.find]at X4;cases hq:Qj B.N j with
   | none=>rw[hq]at X4;cases X4
   | some y=>exact⟨y,rfl⟩
  have F:=u.YI j y P;obtain⟨l1,l2,l3⟩:=oX F.c.2.2.2.2.1;obtain⟨u1,u2,u3⟩:=oX F.c.2.2.2.2.2.1;have V7:=u.look P;have WY:=u.ob;have zy:=Qc WY;have qp:=u.KZ;have a5:=Qc qp;have wT:=(u.Jc j y P).1;have J:=Qc wT;have DX:=u.VA;have bC:=Qc DX;have qn:=oP T P;have YJ:=u.Xn.at_ y.c.parent;rw[Qf qn]at YJ;have jl:=(u.kids _ qn).toR;have Zl:=KJ (show k<4611686018427387904 from ω);have Md:IK (B.KT y.c.parent)<18446744073709551616:=by
   unfold IK;cases hq:B.KT y.c.parent with
   | nil=>decide
   | cons x l=>
    have:=T.j4 y.c.parent x (by rw[hq];simp);show x.ka<_;omega
  have QA:L.le j≠lo:=λe=>by have h1:=(u.Jc j y P).2;rw[e,DM]at h1;cases h1
  apply Qg o;simp only[go_sem,Qa,dk,S,R9,WY,zy,qp,a5,JS,R8,V7];apply Qw o [0,1,2,3,4,5,6,7,8,9,1010,11,12,13,14,15];simp only[go_sem,Qa,WY,zy,wT,J,DX,bC,YJ];apply V0 o QoA (Qrd jl);apply Q7 o;simp only[go_sem,Qa,WY,zy];have a3:(((B.KT y.c.parent).head?.getD default).ka:Int)=((IK (B.KT y.c.parent):Nat):Int):=rfl;simp only[a3];apply Qw o o10;simp only[go_sem,Qa,wT,J];refine KK o QoB ?_ (Qr8 y.sh F.sh (KE y.c.ls) F.c.2.2.2.2.1.lt (IK (B.KT y.c.parent)) y.Ja Md F.Ja) ?_
  .simp only[go_sem,Qa,wT,J,l1,l2,l3]
  apply Q7 o;simp only[go_sem,Qa,wT,J,l1,l2,l3];have o0:∀s,(H.set (L.le j) ⟨.one,0,60,1,λ_=>Kt (qD L.lq y) s⟩)[L.le j]? = some ⟨.one,0,60,1,λ_=>Kt (qD L.lq y) s⟩:=λs=>Qv J;have o4:∀s,L.le j<(H.set (L.le j) s).length:=λs=>by simpa using J
  apply Qw o o10;simp only[go_sem,Qa,o0,o4,J];refine KK o QoC ?_ (Qsd y.cp F.cp (KE y.c.ul) F.c.2.2.2.2.2.1.lt b y.Ja V9 F.Ja) ?_
  .simp only[go_sem,Qa,o0,o4,u1,u2,u3,J]
  apply Q7 o;simp only[go_sem,Qa,o0,o4,u1,u2,u3,J];have C4:=u.wv P (Qaw B b) (λ_=>rfl) (λ_=>rfl) (oW T V9 F);have D4:=Zt.set (own:=v) (h:=H) (Yh (qD L.lq y) (Qaw B b y)) (l:=L.le j) (by rw[(u.Jc j y P).2];simp);refine⟨S,_,QF.frame (by simp only[go_sem,Zl,Ze]),R0.of (by rw[ZV];exact C4) (Dk.trans D4) DM (by rw[Qm QA];exact JS)⟩
def Qum{S}{h}{p}{T}{A}(O:zn S h p T A)(a)(c:Qt)(k:Qz T a=some c)(j:¬ 1<Q4 c.ls):
  QI prog 197 h [.ptr p 0 0 0,Qb a] (λd l=>d=.tup [.nil,Qb 6]/\l=h):=by
 obtain⟨x,v,u,t,s,r,z,y,B,o,O⟩:=O;have f:=O.o;have e:=O.m1;have b:=O.f1.at_ a;rw[k9,k]at b;simp only[Qe j]at b;refine QZ func197 ntmps197 results197 λg w n q=>?_;have m:=Qc f;have i:=Qc e;simp only[go_sem,Qa,f,m,e,i,b,Go.undef]
def Aa:Sh:=⟨false,⟨⟨0,0,0⟩,⟨0,0,0⟩,false⟩,0⟩
def Qfr:Aa.Ok:=⟨⟨Ln.jV,Ln.jV⟩,π⟩
def XX(M:Qn)(c:Int):Qn:={ M with N:=VT M.N c λn=>{ n with sh:=Aa } }
def Wa(M:Qn)(j:Int):Qn:={ M with KT:=λi=>if i=(QD M j).c.parent then KR j (M.KT (QD M j).c.parent) else M.KT i }
def JI(M:Qn)(j:Int):Qn:=
 if KR j (M.KT (QD M j).c.parent)=[] then (WD M.T (QD M j).c.parent).foldl XX (Wa M j) else Wa M j
def Xp(M:Qn)(a:Int):Qn:=
 if 1<Q4 (QD M a).c.ls then (W6 M.T (JY M.A a) a).foldl JI { M with A:=JY M.A a } else M
def Qx.XX{M}(I:Qx M)(c):Qx (XX M c):=I.VT c (λn=>{ n with sh:=Aa }) λ_=>rfl
def dC:∀(l:List Int) (M:Qn),(l.foldl XX M).T=M.T/\(l.foldl XX M).A=M.A/\(l.foldl XX M).KT=M.KT/\(l.foldl XX M).lk=M.lk/\(l.foldl XX M).Qi=M.Qi/\(l.foldl XX M).acc=M.acc/\(l.foldl XX M).Lv=M.Lv
 | [],M=>⟨rfl,rfl,rfl,rfl,rfl,rfl,rfl⟩
 | j::l,M=>dC l (XX M j)
def Qx.o5:∀(l:List Int) {M:Qn},Qx M->Qx (l.foldl X.XX M)
 | [],M,I=>I
 | j::l,M,I=>Qx.o5 l (I.XX j)
def Qx.Wa{M}(I:Qx M)(j):Qx (Wa M j):=by
 refine⟨I.tree,I.y8,I.to,I.nodes,I.Xo,I.ks,I.y9,λi x hx=>?_,λi x hx=>?_,I.Qi,I.acc⟩
 .unfold X.Wa at hx;dsimp only at hx;split at hx
  .rename_i a;subst a;exact I.jZ _ x (JO.1 hx).1
  .exact I.jZ _ x hx
 .unfold X.Wa at hx;dsimp only at hx;split at hx
  .exact I.j4 _ x (JO.1 hx).1
  .exact I.j4 _ x hx
def Qx.JI{M}(I:Qx M)(j):Qx (JI M j):=by
 unfold X.JI;split
 .exact Qx.o5 _ (I.Wa j)
 .exact I.Wa j
def Qx.Sc:∀(l:List Int) {M:Qn},Qx M->Qx (l.foldl X.JI M)
 | [],M,I=>I
 | j::l,M,I=>Qx.Sc l (I.JI j)
def Qfs(M:Qn)(j:Int):(JI M j).T=M.T/\(JI M j).A=M.A/\(JI M j).lk=M.lk/\(JI M j).Qi=M.Qi/\(JI M j).acc=M.acc/\(JI M j).Lv=M.Lv:=by
 unfold JI;split
 .obtain⟨f,e,g,d,c,b,a⟩:=dC (WD M.T (QD M j).c.parent) (Wa M j);exact⟨f,e,d,c,b,a⟩
 .exact⟨rfl,rfl,rfl,rfl,rfl,rfl⟩
def Gt:∀(l:List Int) (M:Qn),(l.foldl JI M).T=M.T/\(l.foldl JI M).A=M.A/\(l.foldl JI M).lk=M.lk/\(l.foldl JI M).Qi=M.Qi/\(l.foldl JI M).acc=M.acc/\(l.foldl JI M).Lv=M.Lv
 | [],M=>⟨rfl,rfl,rfl,rfl,rfl,rfl⟩
 | j::l,M=>by
  obtain⟨n,m,k,i,h,g⟩:=Gt l (JI M j);obtain⟨f,e,d,c,b,a⟩:=Qfs M j;exact⟨n.trans f,m.trans e,k.trans d,i.trans c,h.trans b,g.trans a⟩
def Qx.Xp{M}(I:Qx M)(a):Qx (Xp M a):=by
 unfold X.Xp;split
 .exact Qx.Sc _ (I.act (I.Xo.off a))
 .exact I
structure NM (own:Nat->Tag) (h:List Ob) (p:Nat) (L:Loc) (M:Qn) (lo g:Nat) (row:Nat->List D) (U:List Int) (k:Nat) (s:St):Prop where
 ex:∃own' H,Zv own' H p L ((U.take k).foldl JI M)/\Zt own h own' H/\own' lo=.on/\H[lo]? = some ⟨.arr,g,1,U.length,row⟩ /\
  s=⟨[(0,.ptr p 0 0 0),(22,.ref lo g 0 U.length),(23,Qb U.length),(24,Qb k)],H⟩
def NM.of{own}{h}{p}{L}{M}{c g}{b}{U:List Int}{k:Nat}{a}{H:List Ob}(C:Zv a H p L ((U.take k).foldl JI M))(D:Zt own h a H)(e:a c=.on)(d:H[c]? = some ⟨.arr,g,1,U.length,b⟩):
  NM own h p L M c g b U k ⟨[(0,.ptr p 0 0 0),(22,.ref c g 0 U.length),(23,Qb U.length),(24,Qb k)],H⟩:=⟨⟨a,H,C,D,e,d,rfl⟩⟩
structure Sf (own:Nat->Tag) (h:List Ob) (p:Nat) (L:Loc) (M:Qn) (lo g:Nat) (row:Nat->List D) (U V:List Int) (k:Nat) (i:Nat) (s:St):Prop where
 ex:∃own' H,Zv own' H p L ((V.take i).foldl XX M)/\Zt own h own' H/\own' lo=.on/\H[lo]? = some ⟨.arr,g,1,U.length,row⟩ /\
  s=⟨[(0,.ptr p 0 0 0),(22,.ref lo g 0 U.length),(23,Qb U.length),(24,Qb k),(59,ints V),(60,Qb V.length),(61,Qb i)],H⟩
def Sf.of{own}{h}{p}{L}{M}{c g}{b}{U V:List Int}{k i:Nat}{a}{H:List Ob}(C:Zv a H p L ((V.take i).foldl XX M))(D:Zt own h a H)(e:a c=.on)(d:H[c]? = some ⟨.arr,g,1,U.length,b⟩):
  Sf own h p L M c g b U V k i ⟨[(0,.ptr p 0 0 0),(22,.ref c g 0 U.length),(23,Qb U.length),(24,Qb k),(59,ints V),(60,Qb V.length),(61,Qb i)],H⟩:=⟨⟨a,H,C,D,e,d,rfl⟩⟩
def Qun{o}{h}{p}{L}{M:Qn}(C:Zv o h p L M)(I:Qx M){b}{n:Nd}(hn:Qj M.N b=some n)(hl:n.c.leaf=true)(X9:1<Q4 n.c.ls->b∈M.A)(JH:Z2 M.T (JY M.A b) b=false):
  QI prog 140 h [.ptr p 0 0 0,Qb b] (λd h'=>∃f,Zv f h' p L (Xp M b)/\Qx (Xp M b)/\Zt o h f h'):=by
 have ho:=C.ob;have Z3:QD M b=n:=by unfold QD;rw[hn];rfl
 have Ws:Qz M.T b=some n.c:=I.some hn;have hO:=C.YH;have a9:=I.tree.len;rw[I.to]at hO;by_cases O:1<Q4 n.c.ls;case neg=>
  have hM:Xp M b=M:=by unfold Xp;rw[Z3,Qe O]
  refine QZ func140 ntmps140 results140 λa3 w pl m=>?_;have Qd:=Qc ho;simp only[go_sem,Qa,ho,Qd];refine Jb m Qcm (Qum hO b n.c Ws O) λd h9 P=>?_;obtain⟨rfl,rfl⟩:=P;apply QC m;rw[hM];exact⟨o,C,I,Zt.refl o h9⟩
 have hM:Xp M b=(W6 M.T (JY M.A b) b).foldl JI { M with A:=JY M.A b }:=by unfold Xp;rw[Z3,Qf O]
 have I9:Qx { M with A:=JY M.A b }:=I.act (I.Xo.off b);have o6:=Qx.Sc (W6 M.T (JY M.A b) b) I9;rw[hM];refine QZ func140 ntmps140 results140 λa3 w pl m=>?_;have Qd:=Qc ho;simp only[go_sem,Qa,ho,Qd];refine Jb m Qcm (Qq1 hO I.tree I.Xo b n.c Ws hl O (X9 O) JH) λd h9 P=>?_;obtain⟨d1,rfl,AU,O9,s9⟩:=P;rw[<- I.to]at O9;have C9:=C.act O9 s9;have D9:=Zt.of (own:=o) (t:=.on) σ s9;obtain⟨U,hU⟩:∃U,U=W6 M.T (JY M.A b) b:=⟨_,rfl⟩;rw[<- hU]at AU o6 ⊢;have df:U.length<=16:=by
  rw[hU];exact K9 (QaJ _).length_le Bc
 have oZ:∀j∈U,j∈up M.T b:=λj J=>by rw[hU]at J;exact(QaJ _).subset J
 obtain⟨v,R3⟩:∃v,v={ M with A:=JY M.A b }:=⟨_,rfl⟩;have dt:v.T=M.T:=by rw[R3]
 rw[<- R3]at C9 I9 o6 ⊢;rcases AU with ⟨rfl,R5⟩|⟨F,g,b0,s,rfl,⟨Zq,rfl⟩,IM,ZR⟩
 .exfalso;rw[hU,W6,Vl I.tree Ws,Tz,JH]at R5;cases R5
 have b2:=Qc IM;rw[Jv]at IM;apply QC m;refine Z4 (NM o h p L v F g s U) U.length QN (NM.of (k:=0) C9 D9 (by unfold QV;rw[Qf Zq]) IM) ?_;rintro k _ hk ⟨f,H,q,Dk,DM,JS,rfl⟩;have R8:=Qc JS;by_cases u:k<U.length;case neg=>
  have ZD:k=U.length:=ω;have dk:=QS u;rw[ZD,zG]at q;apply Qg m;simp only[go_sem,Qa,dk];exact⟨f,q,o6,Dk⟩
 have dk:=Q3 u;obtain⟨j,J⟩:∃j,j=U.getD k 0:=⟨_,rfl⟩;have EI:j∈up M.T b:=oZ j (by rw[J];exact za U 0 k u);have R9:s k=[Qb j]:=by have:=ZR k u;rw[Jv]at this;rw[this,J]
 have ZV:(U.take (k+1)).foldl JI v=JI ((U.take k).foldl JI v) j:=by
  rw[getD_take U 0 k u,GY,<- J];rfl
 have z:=Qx.Sc (U.take k) I9;have IN:=(Gt (U.take k) v).1;obtain⟨a,EG⟩:∃a,a=(U.take k).foldl JI v:=⟨_,rfl⟩;rw[<- EG]at q z IN ZV;obtain⟨y,hy⟩:∃y,Qj a.N j=some y:=by
  have E:=F3 EI;rw[<- dt,<- IN,z.find]at E;cases hq:Qj a.N j with
  | none=>rw[hq]at E;cases E
  | some y=>exact⟨y,rfl⟩
 have RG:QD a j=y:=by unfold QD;rw[hy];rfl
 have V7:=q.look hy;have WY:=q.ob;have zy:=Qc WY;have qp:=q.KZ;have a8:=Qc qp;have wT:=(q.Jc j y hy).1;have vq:=Qc wT;have DX:=q.VA;have bC:=Qc DX;have qn:=oP z hy;have YJ:=q.Xn.at_ y.c.parent;rw[Qf qn]at YJ;have jl:=q.kids _ qn;have Zl:=KJ (show k<4611686018427387904 from ω);have HY:=RX z.tree jl.nd (z.oN _);apply Qg m;simp only[go_sem,Qa,dk,u,R9,WY,zy,qp,a8,JS,R8,V7,wT,vq,DX,bC,YJ];refine Jb m Qo3 (Qrf jl j ω) λd X2 P=>?_;obtain⟨rfl,Y,o8⟩:=P;have B:=q.XF _ qn Y o8;have Gs:=Dk.trans (Zt.of (t:=.XF y.c.parent) σ o8);have Jz:{ a with KT:=λi=>if i=y.c.parent then KR j (a.KT y.c.parent) else a.KT i }=Wa a j:=by unfold Wa;rw[RG]
 rw[Jz]at B;have dB:=z.Wa j;have dw:QV f H (.XF y.c.parent) F=.on:=by rw[Ku R8];exact DM
 have a2:X2[F]? = some ⟨.arr,g,1,U.length,s⟩:=(o8.keep F R8 (by rw[DM];simp)).trans JS;have Q:JI a j=if KR j (a.KT y.c.parent)=[] then (WD a.T y.c.parent).foldl XX (Wa a j) else Wa a j:=by unfold JI;rw[RG]
 have S:=B.ob;have NN:=Qc S;have W:=B.VA;have a7:=Qc W;have a1:=B.Xn.at_ y.c.parent;rw[Qf (show (Wa a j).ks y.c.parent=true from qn)]at a1;have Gv:Em X2 (L.lk y.c.parent) (KR j (a.KT y.c.parent)):=Y.toR;apply Qg m;simp only[go_sem,Qa,S,NN,W,a7,a1];apply ZA m iQ (mW Gv);apply Qg m;simp only[go_sem,Qa,S,NN];by_cases hz:KR j (a.KT y.c.parent)=[];case neg=>
  have AA:0<(KR j (a.KT y.c.parent)).length:=List.length_pos_iff.2 hz;have dz:decide ((0:Int)<((KR j (a.KT y.c.parent)).length:Int))=true:=Q3 ω;rw[Qe hz]at Q;simp only[go_sem,Qa,dz];exact⟨u,_,QF.frame (by simp only[go_sem,Zl]),NM.of (by rw[ZV,Q];exact B) Gs dw a2⟩
 rw[Qf hz]at Q;have dz:decide ((0:Int)<((KR j (a.KT y.c.parent)).length:Int))=false:=QS (by rw[hz];simp);simp only[go_sem,Qa,dz,S,NN];apply ZA m iS (QqV B.tr.toR (by have:=dB.tree.len;omega) y.c.parent);apply Qg m;simp only[go_sem,Qa,S,NN];obtain⟨V,hV⟩:∃V,V=WD a.T y.c.parent:=⟨_,rfl⟩;have b1:V.length<=64:=by
  rw[hV];unfold WD;rw[JV];exact K9 (YU _ _) z.tree.len
 have a6:∀c∈V,(Qz a.T c).isSome=true:=λc K=>by
  rw[hV]at K;obtain⟨x,hx,rfl⟩:=Jm.1 K;rw[(WC z.tree.rising).2 ⟨(JO.1 hx).1,rfl⟩];rfl
 rw[show WD (Wa a j).T y.c.parent=V from hV.symm];rw[<- hV]at Q;refine Z4 (Sf o h p L (Wa a j) F g s U V k) V.length QN (Sf.of (i:=0) B Gs dw a2) ?_;rintro i _ hi ⟨Ab,H5,r,D5,EJ,a0,rfl⟩;by_cases N:i<V.length;case neg=>
  have YY:i=V.length:=ω;have di:=QS N;rw[YY,zG]at r;apply Qg m;simp only[go_sem,Qa,di];apply QC m;exact⟨u,_,QF.frame (by simp only[go_sem,Zl]),NM.of (by rw[ZV,Q];exact r) D5 EJ a0⟩
 have di:=Q3 N;have a4:=KJ (show i<4611686018427387904 from ω);obtain⟨c,K⟩:∃c,c=V.getD i 0:=⟨_,rfl⟩;have a5:c∈V:=by rw[K];exact za V 0 i N
 have Z:(V.take (i+1)).foldl XX (Wa a j)=XX ((V.take i).foldl XX (Wa a j)) c:=by
  rw[getD_take V 0 i N,GY,<- K];rfl
 have I5:=Qx.o5 (V.take i) dB;have T:=(dC (V.take i) (Wa a j)).1;obtain⟨R,NO⟩:∃R,R=(V.take i).foldl XX (Wa a j):=⟨_,rfl⟩;rw[<- NO]at r I5 T Z;obtain⟨x,hx⟩:∃x,Qj R.N c=some x:=by
  have E:=a6 c a5;rw[show a.T=R.T from T.symm,I5.find]at E;cases hq:Qj R.N c with
  | none=>rw[hq]at E;cases E
  | some x=>exact⟨x,rfl⟩
 have xT:=r.YI c x hx;have dD:=r.look hx;have CI:=r.ob;have NP:=Qc CI;have CD:=r.KZ;have dF:=Qc CD;have IP:=(r.Jc c x hx).1;have Bz:=Qc IP;have QA:L.le c≠F:=λe=>by have h1:=(r.Jc c x hx).2;rw[e,EJ]at h1;cases h1
 apply Qg m;simp only[go_sem,Qa,di,N,<- K,CI,NP,CD,dF,dD,IP,Bz];have C6:=r.wv hx (λn=>{ n with sh:=Aa }) (λ_=>rfl) (λ_=>rfl) ⟨xT.Ja,xT.du,Qfr,xT.cp,xT.c⟩;have D6:=Zt.set (own:=Ab) (h:=H5) (Yh (qD L.lq x) { x with sh:=Aa }) (l:=L.le c) (by rw[(r.Jc c x hx).2];simp);have B3:(⟨.one,0,60,1,λ_=>List.take 38 (Kt (qD L.lq x) x)++.raw (.bool false)::.raw (.int .u64 0)::.raw (.int .u64 0)::.raw (.int .u64 0)::.raw (.int .u64 0)::.raw (.int .u64 0)::.raw (.int .u64 0)::.raw (.int .u64 0)::.raw (.int .u64 0)::.raw (.bool false)::.raw (.int .u64 0)::List.drop 49 (Kt (qD L.lq x) x)⟩:Ob)=Yh (qD L.lq x) { x with sh:=Aa }:=by
  unfold Yh;rw[<- Qua (qD L.lq x) x Aa];rfl
 rw[B3];refine⟨_,QF.frame (by simp only[go_sem,a4]),Sf.of (by rw[Z];exact C6) (D5.trans D6) EJ (by rw[Qm QA];exact a0)⟩
def firstM(M:Qn)(a:Nat)(b:Int):Option It:=(M.KT b).find? λx=>decide (x.va<=min a 9223372036854775807)
def Ac(M:Qn)(a:Nat):Nat->Int->Option Int
 | 0,_=>none
 | n+1,id=>match firstM M a id with
  | none=>none
  | some x=>if (QD M x.ki).c.leaf=true then some x.ki else Ac M a n x.ki
def QfA(o:Option Int):D:=.tup [Qb (o.getD 0),QT false,QT o.isSome]
def wU(M:Qn)(a:Nat)(o:Option It):Prop:=xJ o (M.Lv.filter λx=>decide (x.ka<=min a 9223372036854775807))
def NQ(M:Qn)(a:Nat)(o:Option It):D:=match o with
 | some x=>.tup [Qb x.ki,QT true,QT true]
 | none=>QfA (Ac M a 17 0)
section
variable {own:Nat->Tag}{h:List Ob}{p:Nat}{L:Loc}{M:Qn}(C:Zv own h p L M)(I:Qx M)
include C I
theorem Qus(a):QR prog 135 h [.ptr p 0 0 0,u64 a] (λd=>∃o,wU M a o/\d=NQ M a o):=by
 have e:=ZG C.ob;have j:=ZG C.VA;have l:=ZG C.KZ;have P:=C.XG.toR;refine Zk func135 ntmps135 results135 λJ w pl F k QQ f=>?_;rw[<- k]at e j l;have g:=Qc e;have E:=Qc j;have u:=Qc l;simp only[go_sem,Qa,e,g,j,E,l,u];refine lI f QoY (Qrg (P.more (Js k)) a) λd R=>?_;obtain⟨o,m,rfl⟩:=R;apply Qg f;simp only[go_sem,Qa,e,g];cases o with
 | some x=>
  simp only[go_sem,Qa,kx,KV];exact⟨[],(Jl F).symm,some x,m,rfl⟩
 | none=>
  simp only[go_sem,Qa,vM];have Z:(up M.T 0).length=0:=by rw[HZ I.tree];rfl
  refine LV (λn K=>∃id,M.ks id=true/\(up M.T id).length+n=16/\Ac M a 17 0=Ac M a (n+1) id/\K=⟨[(0,.ptr p 0 0 0),(1,u64 a),(9,Qb id)],F⟩) 16 QN ⟨0,(I.ks 0).2 (.inl rfl),ω,rfl,rfl⟩ ?_;rintro n _ ⟨id,v,H,b,rfl⟩;have B:=C.Xn.at_ id;rw[Qf v]at B;have Q:=(C.kids id v).toR
  conv at b=>rhs;rw[Ac]
  apply Qg f;simp only[go_sem,Qa,e,g,j,E,B];apply ZA f QoZ (Qrc (Q.more (Js k)) a);apply Qg f;simp only[go_sem,Qa,e,g];have t:(M.KT id).find? (λx=>decide (x.va<=min a 9223372036854775807))=firstM M a id:=rfl;rw[t];cases q:firstM M a id with
  | none=>
   rw[q]at b;simp only[go_sem,Qa,vM];exact⟨[],(Jl F).symm,none,m,by unfold NQ;rw[b];rfl⟩
  | some x=>
   rw[q]at b;have N:x∈M.KT id:=xj q;obtain⟨c,z,T⟩:=I.jZ id x N;obtain⟨y,i,W⟩:=I.ND z;have V:QD M x.ki=y:=by unfold QD;rw[i];rfl
   have dG:(up M.T x.ki).length=(up M.T id).length+1:=by rw[Vl I.tree z,T];rfl
   have Y:(up M.T x.ki).length<=16:=Bc;have U:=C.look i;have s:=ZG (C.Jc x.ki y i).1;rw[<- k]at s;have S:=Qc s;dsimp only at b;rw[V]at b;simp only[go_sem,Qa,kx,KV,e,g,l,u,U,s,S];cases r:y.c.leaf with
   | true=>
    rw[r,Qf rfl]at b;simp only[go_sem,Qa];exact⟨[],(Jl F).symm,none,m,by unfold NQ;rw[b];rfl⟩
   | false=>
    rw[r,Qe π]at b;obtain⟨n,rfl⟩:∃O,n=O+1:=⟨n - 1,ω⟩;simp only[go_sem,Qa];exact⟨n,_,ω,QN,x.ki,(I.ks _).2 (.inr ⟨y,i,r⟩),ω,b,rfl⟩
end
def Quu{T}(I:Ve T){b a}{c:Qt}(f:Qz T b=some c)(l:c.leaf=true)(h:b∈up T a):a=b:=by
 refine xg λo=>?_;obtain⟨i,d,p,m,k⟩:=bH I h o;have n:d.parent≠0:=λe=>by rw[<- k,e,Ea I]at f;cases f
 obtain⟨e,j,g⟩:=I.Y8 d (xH I m) n;rw[k,f]at j;cases j;rw[l]at g;cases g
def dH{T}(I:Ve T){b}{c:Qt}(d:Qz T b=some c)(e:c.leaf=true)(A):Z2 T A b=true↔b∈A:=by
 rw[qd];constructor
 .rintro⟨a,f,h⟩;rw[<- Quu I d e h];exact f
 .exact λh=>⟨b,h,XA I d⟩
def Quv{T}(I:Ve T){a}{c:Qt}(d:Qz T a=some c)(b:c.leaf=true)(A):Z2 T (JY A a) a=false:=by
 rw[Ym];intro h;have:=(dH I d b _).1 h;simp[JY]at this
def CJ(a:Nat)(n:Nd):Nd:={ n with Ja:=WU (n.Ja+a),sh:=Gk n.sh (WU (n.Ja+a)),cp:=Cr n.cp (WU (n.Ja+a)) }
def VB(a:Nat)(M:Qn)(j:Int):Qn:={ M with N:=VT M.N j (CJ a) }
def QfB{n:Nd}(h:n.Ok)(a):(CJ a n).Ok:=⟨Iv _,h.du,Qr7 h.sh _,Qsb h.cp _,h.c⟩
def Qx.VB{M}(I:Qx M)(a)(j):Qx (VB a M j):=I.VT j (CJ a) λ_=>rfl
def Qx.dI{len}:∀(l:List Int) {M:Qn},Qx M->Qx (l.foldl (X.VB len) M)
 | [],M,I=>I
 | j::l,M,I=>Qx.dI l (I.VB len j)
def IQ(a):∀(l:List Int) (M:Qn),(l.foldl (VB a) M).T=M.T/\(l.foldl (VB a) M).A=M.A/\(l.foldl (VB a) M).KT=M.KT/\(l.foldl (VB a) M).lk=M.lk/\(l.foldl (VB a) M).Qi=M.Qi/\(l.foldl (VB a) M).acc=M.acc/\(l.foldl (VB a) M).Lv=M.Lv
 | [],M=>⟨rfl,rfl,rfl,rfl,rfl,rfl,rfl⟩
 | j::l,M=>IQ a l (VB a M j)
def QfC{N}{j}{f}(a:∀n,(f n).c=n.c)(i){n:Nd}(h:Qj N i=some n):∃m,Qj (VT N j f) i=some m/\m.c=n.c/\(m=n\/(i=j/\m=f n)):=by
 rw[jk (λn=>by rw[a])];by_cases e:i=j
 .rw[Qf e,h];exact⟨f n,rfl,a n,.inr ⟨e,rfl⟩⟩
 .rw[Qe e];exact⟨n,h,rfl,.inl rfl⟩
def QfD(a):∀(l:List Int) (M:Qn) (i:Int) {n:Nd},Qj M.N i=some n->∃m,Qj (l.foldl (VB a) M).N i=some m/\m.c=n.c/\m.q=n.q/\m.du=n.du
 | [],M,i,n,h=>⟨n,h,rfl,rfl,rfl⟩
 | j::l,M,i,n,h=>by
  obtain⟨m,p,o,b⟩:=QfC (f:=CJ a) (j:=j) (λ_=>rfl) i h;obtain⟨c,k,g,e,d⟩:=QfD a l (VB a M j) i p;refine⟨c,k,g.trans o,?_,?_⟩
  .rw[e];rcases b with rfl|⟨_,rfl⟩<;>rfl
  .rw[d];rcases b with rfl|⟨_,rfl⟩<;>rfl
def W9(M:Qn)(a:Int):Qn:={ M with N:=VT M.N a λn=>{ n with q:=WV (QD M a).q } }
def Qx.W9{M}(I:Qx M)(a:Int):Qx (W9 M a):=I.VT a (λn=>{ n with q:=WV (QD M a).q }) λ_=>rfl
def Qx.VU{M:Qn}(I:Qx M){a}{n}(c:Qj M.N a=Option.some n)(b)(r):Qx (VU M a b r):=by
 unfold X.VU;split
 .refine(I.VT a (λn=>{ n with du:=qo (QD M a) b r }) λ_=>rfl).lv λx hx=>?_;have d:x.ki=a\/x∈M.Lv:=by
   split at hx
   .exact oV (JO.1 hx).1
   .exact oV hx
  rcases d with h|h
  .rw[h];show (Qz M.T a).isSome=true;rw[I.some c];rfl
  .exact I.y9 x h
 .exact I
def NR(M:Qn)(a)(b)(r:Bool):(VU M a b r).T=M.T/\(VU M a b r).A=M.A/\(VU M a b r).KT=M.KT/\(VU M a b r).lk=M.lk/\(VU M a b r).Qi=M.Qi/\(VU M a b r).acc=M.acc:=by
 unfold VU;split<;>exact⟨rfl,rfl,rfl,rfl,rfl,rfl⟩
def Quw(M:Qn)(a)(b)(r:Bool)(i){n:Nd}(h:Qj M.N i=some n):∃m,Qj (VU M a b r).N i=some m/\m.c=n.c/\m.q=n.q:=by
 unfold VU;split
 .obtain⟨m,e,d,c⟩:=QfC (f:=λn=>{ n with du:=qo (QD M a) b r }) (j:=a) (λ_=>rfl) i h;exact⟨m,e,d,by rcases c with rfl|⟨_,rfl⟩<;>rfl⟩
 .exact⟨n,h,rfl,rfl⟩
def Vb(M:Qn)(a:Nat)(o:Option It):Option (Int × Bool):=match o with
 | some x=>some (x.ki,true)
 | none=>(Ac M a 17 0).map λid=>(id,false)
def XH(M:Qn)(a:Int)(r:Bool):Qn:=
 let b:=((QD M a).q.l.headD default).len;let c:=VU ((up M.T a).foldl (VB b.toNat) (W9 M a)) a b r;let d:=if (WV (QD M a).q).l=[] then Xp c a else c
 VI d (up M.T a)
@[go_sem] def qq(a:Int)(x:Pk)(r:Bool):List D:=[Qb a,.raw (.int .u64 x.iD),.raw (.int .i64 x.len),.raw (.int .u16 x.wi),.raw (.int .u16 x.wj),.raw (.int .u16 x.wk),.raw (.int .u16 x.wm),QT r]
@[go_sem] def j5:Ob:=⟨.one,0,8,1,λ_=>qq 0 default false⟩
@[go_sem] def qs(x:Pk):Ob:=⟨.one,0,6,1,λ_=>x.cells⟩
def Gw(M:Qn)(a:Nat):(ZF M a).N=M.N/\(ZF M a).T=M.T/\(ZF M a).A=M.A:=by unfold ZF;split<;>exact⟨rfl,rfl,rfl⟩
def Ae{M}(I:Qx M)(a):Qx (ZF M a):=by
 unfold ZF;split
 .rename_i h;unfold vp at h;simp only[qZ,EX,OQ]at h;exact⟨I.tree,I.y8,I.to,I.nodes,I.Xo,I.ks,I.y9,I.jZ,I.j4,by show a<=_;omega,I.acc⟩
 .exact I
structure Si (own:Nat->Tag) (h:List Ob) (p:Nat) (L:Loc) (M:Qn) (id:Int) (r:Bool) (lb:Nat) (x:Pk) (U:List Int) (k:Nat) (s:St):Prop where
 ex:∃own' H,Zv own' H p L ((U.take k).foldl (VB x.len.toNat) M)/\Zt own h own' H/\own' h.length=.no/\H[h.length]? = some j5/\own' lb=.no/\H[lb]? = some (qs x) /\
  s=⟨[(0,.ptr p 0 0 0),(4,.ptr h.length 0 0 0),(6,Qb id),(7,QT r),(9,.ptr (L.le id) 0 0 0),(10,.ptr lb 0 0 0),(53,ints U),(54,Qb U.length),(55,Qb k)],H⟩
def Si.of{own}{h:List Ob}{p}{L}{M}{c}{r}{b}{x:Pk}{U:List Int}{k:Nat}{a}{H:List Ob}(C:Zv a H p L ((U.take k).foldl (VB x.len.toNat) M))(D:Zt own h a H)(g:a h.length=.no)(f:H[h.length]? = some j5)(e:a b=.no)(d:H[b]? = some (qs x)):
  Si own h p L M c r b x U k ⟨[(0,.ptr p 0 0 0),(4,.ptr h.length 0 0 0),(6,Qb c),(7,QT r),(9,.ptr (L.le c) 0 0 0),(10,.ptr b 0 0 0),(53,ints U),(54,Qb U.length),(55,Qb k)],H⟩:=⟨⟨a,H,C,D,g,f,e,d,rfl⟩⟩
def Sj(M:Qn)(a:Nat)(d:D)(b:Qn):Prop:=
 (vp M a=false/\d=.tup [.agg (qq 0 default false),QT false]/\b=M) \/
 (vp M a=true/\∃o,wU (ZF M a) a o/\match Vb (ZF M a) a o with
  | none=>d=.tup [.agg (qq 0 default false),QT false]/\b=ZF M a
  | some (id,r)=>d=.tup [.agg (qq id ((QD M id).q.l.headD default) r),QT true]/\b=XH (ZF M a) id r)
def Qux{g}{h}{p}{L}{M}(C:Zv g h p L M)(I:Qx M)(a)
  (pe:∀o id r,wU (ZF M a) a o->Vb (ZF M a) a o=some (id,r)->∃n,Qj M.N id=some n/\n.c.leaf=true/\n.q.l≠[]/\(1<Q4 n.c.ls->id∈M.A)) :
  QI prog 105 h [.ptr p 0 0 0,u64 a] (λd h'=>∃b P,Zv b h' p L P/\Qx P/\Zt g h b h'/\Sj M a d P):=by
 have ho:=C.ob;have C0:=C.NC [j5];have D0:=Zt.app g h [j5] .no;have xP:QV g h .no h.length=.no:=by unfold QV;rw[Qf (QB _)]
 have Zp:(h++[j5])[h.length]? = some j5:=by rw[JZ rfl];rfl
 refine QZ func105 ntmps105 results105 λe1 w pl c=>?_;have Qd:=Qc ho;simp only[go_sem,Qa,ho,Qd,Go.undef];refine Jb c Qb6 (Qfn C0 a) λd W E=>?_;obtain⟨rfl,R,D1⟩:=E;have I1:=Ae I a;obtain⟨t1,t2,t3⟩:=Gw M a;have xW:=D0.trans D1;have Kc:W[h.length]? = some j5:=(D1.keep h.length σ xP).trans Zp;have jm:=Qc Kc;obtain⟨Je,IS⟩:∃o,o=QV g h .no:=⟨_,rfl⟩;have q6:∀o,(W.set h.length o)[h.length]? = some o:=λo=>Qv jm;rw[<- IS]at xW R xP;apply Qg c;cases ht:vp M a with
 | false=>
  simp only[go_sem,Qa,ht,Go.undef,Kc,jm,q6];have hM:ZF M a=M:=by unfold ZF;rw[ht];rfl
  rw[hM]at R;exact⟨Je,M,R.loc xP _,I,xW.CG (QB _) _,.inl ⟨ht,rfl,rfl⟩⟩
 | true=>
  simp only[go_sem,Qa,ht,Go.undef,Kc,jm];refine lI c QoD (Qus R I1 a) λd E=>?_;obtain⟨o,pf,rfl⟩:=E;apply Qg c;have pg:Vb (ZF M a) a o=none->∃b P,Zv b (W.set h.length j5) p L P/\Qx P/\Zt g h b (W.set h.length j5)/\Sj M a (.tup [.agg (qq 0 default false),QT false]) P:=λhp=>
   ⟨Je,ZF M a,R.loc xP _,I1,xW.CG (QB _) _,.inr ⟨ht,o,pf,by rw[hp];exact⟨rfl,rfl⟩⟩⟩
  have xX:∀id r b H,Vb (ZF M a) a o=some (id,r)->Zv b H p L (XH (ZF M a) id r)->Qx (XH (ZF M a) id r)->Zt g h b H->Sj M a (.tup [.agg (qq id ((QD M id).q.l.headD default) r),QT true]) (XH (ZF M a) id r):=λid r b H hp _ _ _=>
   .inr ⟨ht,o,pf,by rw[hp];exact⟨rfl,rfl⟩⟩
  obtain⟨id,r,Ze,hp⟩|hp:(∃id r,NQ (ZF M a) a o=.tup [Qb id,QT r,QT true]/\Vb (ZF M a) a o=some (id,r))\/(NQ (ZF M a) a o=.tup [Qb 0,QT false,QT false]/\Vb (ZF M a) a o=none):=by
   cases o with
   | some x=>exact .inl ⟨x.ki,true,rfl,rfl⟩
   | none=>
    unfold NQ QfA Vb;dsimp only;cases Ac (ZF M a) a 17 0 with
    | none=>exact .inr ⟨rfl,rfl⟩
    | some i=>exact .inl ⟨i,false,rfl,rfl⟩
  case inr=>
   obtain⟨hd,hp⟩:=hp;rw[hd];simp only[go_sem,Qa,Kc,jm,q6];exact pg hp
  rw[Ze];obtain⟨n,hn,hl,hq,X9⟩:=pe o id r pf hp;have Kj:Qj (ZF M a).N id=some n:=by rw[t1];exact hn
  have Z3:QD M id=n:=by unfold QD;rw[hn];rfl
  have ph:QD (ZF M a) id=n:=by unfold QD;rw[Kj];rfl
  obtain⟨x,q,NS⟩:∃x q,n.q.l=x::q:=by
   cases yY:n.q.l with
   | nil=>exact absurd yY hq
   | cons x q=>exact⟨x,q,rfl⟩
  have V7:=R.look Kj;have Zo:=R.ob;have Kv:=Qc Zo;have q7:=R.KZ;have dJ:=Qc q7;have Bx:=(R.Jc id n Kj).1;have NK:=Qc Bx;obtain⟨kq,IJ,hQ⟩:=R.WJ id n Kj hl;have NH:=Qx.id hn;have EH:qD L.lq n=.ptr (L.lq id) 0 0 0:=by unfold qD;rw[Qf hl,NH]
  rw[EH]at Bx;simp only[go_sem,Qa,Zo,Kv,q7,dJ,V7,Bx,NK];refine Jb c QoE (Qr0 hQ NS) λd u E=>?_;obtain⟨rfl,Q2,s2⟩:=E;have C2:=R.qm Kj hl IJ Q2 s2;have pk:{ ZF M a with N:=VT (ZF M a).N id λm=>{ m with q:=WV n.q } }=W9 (ZF M a) id:=by unfold W9;rw[ph]
  rw[pk]at C2;have D2:=xW.trans (Zt.of (t:=.qm id) σ s2);have ZJ:u[h.length]? = some j5:=(s2.keep h.length jm (by rw[xP];simp)).trans Kc;have VQ:QV Je W (.qm id) h.length=.no:=by rw[Ku jm];exact xP
  have Z7:=s2.len;have C3:=C2.NC [qs x];have D3:=D2.trans (Zt.app _ u [qs x] .no);have qp:(u++[qs x])[h.length]? = some j5:=(QG (Qc ZJ)).trans ZJ;have yQ:QV (QV Je W (.qm id)) u .no h.length=.no:=by rw[Ku (Qc ZJ)];exact VQ
  have Ir:(u++[qs x])[u.length]? = some (qs x):=by rw[JZ rfl];rfl
  have IT:QV (QV Je W (.qm id)) u .no u.length=.no:=by unfold QV;rw[Qf (QB _)]
  have I3:=I1.W9 id;have WY:=C3.ob;have zy:=Qc WY;generalize pn:u++[qs x]=H3 at C3 D3 qp Ir WY zy;generalize QV (QV Je W (.qm id)) u .no=j6 at C3 D3 yQ IT;apply QC c;have po:u++[(⟨.one,0,6,1,λ_=>[.raw (.int .u64 x.iD),.raw (.int .i64 x.len),.raw (.int .u16 x.wi),.raw (.int .u16 x.wj),.raw (.int .u16 x.wk),.raw (.int .u16 x.wm)]⟩:Ob)]=H3:=pn;simp only[po];simp only[go_sem,Qa,WY,zy];apply ZA c aS (mI C3.tr.toR I3.tree.toTreeInv id);apply Qg c;simp only[go_sem,Qa,WY,zy];obtain⟨U,hU⟩:∃U,U=up M.T id:=⟨_,rfl⟩;have b7:Jy (W9 (ZF M a) id).T 16 id=U:=by rw[hU];show up (ZF M a).T id=_;rw[t2]
  rw[b7];have df:U.length<=16:=by rw[hU];exact Bc
  obtain⟨F,qR⟩:∃F,F=W9 (ZF M a) id:=⟨_,rfl⟩;have b3:F.T=M.T:=by rw[qR];exact t2
  have c2:F.A=M.A:=by rw[qR];exact t3
  rw[<- qR]at C3 I3;have WM:Nj x:=by
   obtain⟨r2,Q⟩:=hQ;exact Q.lens x (by rw[NS];simp)
  have ex:IntKind.u64.wrap x.len=((x.len.toNat:Nat):Int):=Iw (by have:=WM.1;omega) (by have:=WM.2;omega);obtain⟨n3,e0,b2,c9⟩:∃m,Qj F.N id=some m/\m.c=n.c/\m.q=WV n.q:=by
   rw[qR];unfold W9;rw[ph];refine⟨{ n with q:=WV n.q },?_,rfl,rfl⟩;rw[jk (f:=λm=>{ m with q:=WV n.q }) (λ_=>rfl),Qf rfl,Kj];rfl
  refine Z4 (Si g h p L F id r u.length x U) U.length QN (Si.of (k:=0) C3 D3 yQ qp IT Ir) ?_;rintro k _ hk ⟨Ab,H5,B,D5,dK,CD,dL,NT,rfl⟩;have dF:=Qc CD;have dM:=Qc NT;have I5:=Qx.dI (len:=x.len.toNat) (U.take k) I3;obtain⟨kT,kA,kK,e3,kc,ka,kL⟩:=IQ x.len.toNat (U.take k) F;by_cases Ql:k<U.length;case pos=>
   have dk:=Q3 Ql;obtain⟨j,hj⟩:∃j,j=U.getD k 0:=⟨_,rfl⟩;have EI:j∈up M.T id:=by rw[hj,<- hU];exact za U 0 k Ql
   have ZV:(U.take (k+1)).foldl (VB x.len.toNat) F=VB x.len.toNat ((U.take k).foldl (VB x.len.toNat) F) j:=by
    rw[getD_take U 0 k Ql,GY,<- hj];rfl
   obtain⟨S,NO⟩:∃S,S=(U.take k).foldl (VB x.len.toNat) F:=⟨_,rfl⟩;rw[<- NO]at B I5 kT ZV;obtain⟨y,hy⟩:∃y,Qj S.N j=some y:=by
    have X4:=F3 EI;rw[<- b3,<- kT,I5.find]at X4;cases hq:Qj S.N j with
    | none=>rw[hq]at X4;cases X4
    | some y=>exact⟨y,rfl⟩
   have xV:=B.YI j y hy;have dD:=B.look hy;have CI:=B.ob;have NP:=Qc CI;have Sk:=B.KZ;have dN:=Qc Sk;have IP:=(B.Jc j y hy).1;have T:=Qc IP;have EJ:=(B.Jc j y hy).2;have Zl:=KJ (show k<4611686018427387904 from ω);have nb:L.le j≠h.length:=λe=>by rw[e,dK]at EJ;cases EJ
   have nx:L.le j≠u.length:=λe=>by rw[e,dL]at EJ;cases EJ
   have O:∀s,(H5.set (L.le j) ⟨.one,0,60,1,λ_=>Kt (qD L.lq y) s⟩)[L.le j]? = some ⟨.one,0,60,1,λ_=>Kt (qD L.lq y) s⟩:=λs=>Qv T;have Gf:∀s,(H5.set (L.le j) s)[u.length]? = some (qs x):=λs=>(Qm nx).trans NT;apply Qg c;simp only[go_sem,Qa,dk,Ql,<- hj,CI,NP,Sk,dN,dD];apply Qw c o07;simp only[go_sem,Qa,IP,T,NT,dM,ex,Iy];have b9:=Qr9 y.sh xV.sh (WU (y.Ja+x.len.toNat)) (Iv _);have CK:=nK y.cp xV.cp (WU (y.Ja+x.len.toNat)) (Iv _);apply Qw c o00;simp only[go_sem,Qa,O,T];refine KK c QoF ?_ b9 ?_
   .simp only[go_sem,Qa,O,T]
   apply Q7 c;simp only[go_sem,Qa,O,T];apply Qw c o00;simp only[go_sem,Qa,O,T];refine KK c iP ?_ CK ?_
   .simp only[go_sem,Qa,O,T]
   apply Q7 c;simp only[go_sem,Qa,O,T];have C6:=B.wv hy (CJ x.len.toNat) (λ_=>rfl) (λ_=>rfl) (QfB xV _);have D6:=Zt.set (own:=Ab) (h:=H5) (Yh (qD L.lq y) (CJ x.len.toNat y)) (l:=L.le j) (by rw[EJ];simp);refine⟨Ql,_,QF.frame (by simp only[go_sem,Zl]),Si.of (by rw[ZV];exact C6) (D5.trans D6) dK (by rw[Qm nb];exact CD) dL (by rw[Qm nx];exact NT)⟩
  have ZD:k=U.length:=ω;have dk:=QS Ql;rw[ZD,zG]at B I5 kT kA;obtain⟨S,NO⟩:∃S,S=U.foldl (VB x.len.toNat) F:=⟨_,rfl⟩;obtain⟨n5,NU,b1,c8,_⟩:=QfD x.len.toNat U F id e0;rw[<- NO]at B I5 kT kA NU;have a4:n5.c.leaf=true:=by rw[b1,b2];exact hl
  have dD:=B.look NU;have CI:=B.ob;have NP:=Qc CI;have IP:=(B.Jc id n5 NU).1;have T:=Qc IP;apply Qg c;simp only[go_sem,Qa,dk];apply Qg c;simp only[go_sem,Qa,NT,dM];refine Jb c QoG (Quf B I5 NU a4 x.len (by have:=WM.1;omega) (by have:=WM.2;omega) r) λd H6 E=>?_;obtain⟨b0,C6,D6⟩:=E;have I6:=I5.VU NU x.len r;obtain⟨a0,a1,_⟩:=NR S id x.len r;obtain⟨V,Sl,a9,c7⟩:=Quw S id x.len r id NU;obtain⟨Y,a7⟩:∃Y,Y=VU S id x.len r:=⟨_,rfl⟩;rw[<- a7]at C6 I6 a0 a1 Sl;have xN:H6[h.length]? = some j5:=(D6.keep _ dF dK).trans CD;have dO:b0 h.length=.no:=(D6.same _ dF).trans dK;have Gf:H6[u.length]? = some (qs x):=(D6.keep _ dM dL).trans NT;have pq:b0 u.length=.no:=(D6.same _ dM).trans dL;have dP:=Qc xN;have Nf:=Qc Gf;have b4:=D5.trans D6;have Bl:V.c.leaf=true:=by rw[a9];exact a4
  have b6:V.q=WV n.q:=by rw[c7,c8,c9]
  have a5:V.c=n.c:=by rw[a9,b1,b2]
  have jX:=C6.ob;have qh:=Qc jX;have O:=(C6.Jc id V Sl).1;have pw:=Qc O;have c5:qD L.lq V=.ptr (L.lq id) 0 0 0:=by unfold qD;rw[Qf Bl,a5,NH]
  rw[c5]at O;obtain⟨e2,e4,c0⟩:=C6.WJ id V Sl Bl;have pz:V.q.l.length=q.length:=by rw[b6];unfold WV;rw[NS];rfl
  have Ws:Qz Y.T id=some V.c:=I6.some Sl;have kH:XH (ZF M a) id r=VI (if (WV n.q).l=[] then Xp Y id else Y) (up (ZF M a).T id):=by
   unfold XH;simp only[ph,NS,List.headD_cons];rw[show up (ZF M a).T id=U by rw[t2];exact hU.symm,<- qR,<- NO,<- a7]
  have pA:Y.T=M.T:=by rw[a0,kT,b3]
  have c1:Y.A=M.A:=by rw[a1,kA,c2]
  apply Qg c;simp only[go_sem,Qa,jX,qh,O,pw];refine VP c FV ?_ (Ix c0.toR) ?_
  .simp only[go_sem,Qa,jX,qh,O,pw,pz]
  apply Qg c;simp only[go_sem,Qa,jX,qh,O,pw,pz];have MV:∀K v,Zv K v p L (XH (ZF M a) id r)->Qx (XH (ZF M a) id r)->Zt g h K v->v[h.length]? = some j5->K h.length=.no ->
    ∃b P,Zv b (v.set h.length ⟨.one,0,8,1,λ_=>qq id x r⟩) p L P/\Qx P/\Zt g h b (v.set h.length ⟨.one,0,8,1,λ_=>qq id x r⟩)/\Sj M a (.tup [.agg (qq id x r),QT true]) P:=λK v C8 I8 J Z Sm=>
   ⟨K,_,C8.loc Sm _,I8,J.CG (QB _) _,by
    have:=xX id r K v hp C8 I8 J;rwa [Z3,NS,List.headD_cons]at this⟩
  have b5:(WV n.q).l=q:=by unfold WV;rw[NS];rfl
  rw[b5]at kH;cases dQ:q with
  | cons z q2=>
   have dz:(((q2.length+1:Nat):Int)==0)=false:=Xx ω;rw[dQ,Qe σ]at kH;have Jj:=oR C6 I6 id;rw[pA,<- t2,<- kH]at Jj;simp only[go_sem,Qa,dQ,dz];refine Jb c iO Jj λd v E=>?_;obtain⟨K,C8,I8,J⟩:=E;have Z:v[h.length]? = some j5:=(J.keep _ dP dO).trans xN;have Sn:v[u.length]? = some (qs x):=(J.keep _ Nf pq).trans Gf;have Sm:K h.length=.no:=(J.same _ dP).trans dO;have Sp:=Qc Z;have pB:=Qc Sn;have pC:∀o,(v.set h.length o)[h.length]? = some o:=λo=>Qv Sp;apply Qg c;simp only[go_sem,Qa,Z,Sp,Sn,pB,pC];exact MV K v C8 I8 (b4.trans J) Z Sm
  | nil=>
   rw[dQ,Qf rfl]at kH;simp only[go_sem,Qa,dQ];refine Jb c QoH (Qun C6 I6 Sl Bl (by rw[a5,c1];exact X9) (Quv I6.tree Ws Bl _)) λd H7 E=>?_;obtain⟨zz,C7,I7,D7⟩:=E;have a6:H7[h.length]? = some j5:=(D7.keep _ dP dO).trans xN;have a2:H7[u.length]? = some (qs x):=(D7.keep _ Nf pq).trans Gf;have a3:zz h.length=.no:=(D7.same _ dP).trans dO;have c4:zz u.length=.no:=(D7.same _ Nf).trans pq;have a8:=Qc a6;have c3:=Qc a2;have Jj:=oR C7 I7 id;have b8:(Xp Y id).T=M.T:=by
    unfold Xp;split
    .rw[(Gt _ _).1];exact pA
    .exact pA
   rw[b8,<- t2,<- kH]at Jj;apply QC c;refine Jb c iO Jj λd v E=>?_;obtain⟨K,C8,I8,J⟩:=E;have Z:v[h.length]? = some j5:=(J.keep _ a8 a3).trans a6;have Sn:v[u.length]? = some (qs x):=(J.keep _ c3 c4).trans a2;have Sm:K h.length=.no:=(J.same _ a8).trans a3;have Sp:=Qc Z;have pB:=Qc Sn;have pC:∀o,(v.set h.length o)[h.length]? = some o:=λo=>Qv Sp;apply Qg c;simp only[go_sem,Qa,Z,Sp,Sn,pB,pC];exact MV K v C8 I8 ((b4.trans D7).trans J) Z Sm
end Go.Fg.X
