/- Contracts and laws on the way to the statement. No conditions. -/
import Derived.Test.YtkfemlhbbcojnaaGreatSU1D
import Derived.Sort.LotD5
import Derived.Sort.Walk13a
import Derived.Test.YtkfemlhbbcojnaaGreatCA3D
set_option maxRecDepth 100000
set_option maxHeartbeats 16000000
set_option linter.unusedVariables false
set_option linter.unusedSimpArgs false
set_option linter.unusedSectionVars false
set_option linter.defProp false
namespace Go.Fg.X
open Go.Proofs Go.Fg
open Go.Proofs.Tryz
def pT{d:Array Int}(a b c s:Nat)(ha:a<d.size)(hb:b<d.size)(hc:c<d.size):(Sort.median Qt d a b c s).1<d.size/\(Sort.median Qt d a b c s).2<=s+3:=by
 unfold Sort.median Sort.order2;dsimp only
 repeat' split
 all_goals simp_all
def Ez:Sort.Hint->Nat
 | .unknown=>0
 | .increasing=>1
 | .decreasing=>2
def pU(r:Nat × Nat):Nat × Sort.Hint:=(r.1,if r.2=0 then .increasing else if r.2=12 then .decreasing else .unknown)
section
variable (d:Array Int)(a b:Nat)
def Ko(k:Nat):Nat:=a+(b - a) / 4*k
def EA:Nat × Nat:=Sort.medianAdjacent Qt d (Ko a b 1) 0
def EB:Nat × Nat:=Sort.medianAdjacent Qt d (Ko a b 2) (EA d a b).2
def IN:Nat × Nat:=Sort.medianAdjacent Qt d (Ko a b 3) (EB d a b).2
def ch4:Nat × Nat:=Sort.median Qt d (EA d a b).1 (EB d a b).1 (IN d a b).1 (IN d a b).2
def ch5:Nat × Nat:=Sort.median Qt d (Ko a b 1) (Ko a b 2) (Ko a b 3) 0
def chP:Nat × Nat:=if b - a >= 8 then (if b - a >= 50 then ch4 d a b else ch5 d a b) else (Ko a b 2,0)
theorem Qus:Sort.choosePivot Qt d a b=pU (chP d a b):=rfl
end
section
variable {h:List Ob}{lo g:Nat}{d:Array Int}(ho:h[lo]? = some (Zd g d))
include ho
theorem Qut(a b)(Vu:a<b)(Zp:b<=d.size)(hz:d.size<1000000000):
  QH prog 320 h [.ref lo g 0 d.size,Qa a,Qa b] (λdd h'=>dd=.tup [Qa (Sort.choosePivot Qt d a b).1,Qa (Ez (Sort.choosePivot Qt d a b).2)]/\∃t,h'=h++t):=by
 have e0:IntKind.i64.wrap ((b:Int) - a)=((b - a:Nat):Int):=Zu;have w0:∀n:Nat,n<1000000000->IntKind.i64.wrap (n:Int)=n:=λn hn=>wrap64 ω ω;have e1:IntKind.i64.wrap (((b - a) / 4:Nat)*(1:Int))=(((b - a) / 4*1:Nat):Int):=Zu;have e2:IntKind.i64.wrap (((b - a) / 4:Nat)*(2:Int))=(((b - a) / 4*2:Nat):Int):=Zu;have e3:IntKind.i64.wrap (((b - a) / 4:Nat)*(3:Int))=(((b - a) / 4*3:Nat):Int):=Zu;have f1:IntKind.i64.wrap ((a:Int)+((b - a) / 4*1:Nat))=((Ko a b 1:Nat):Int):=by unfold Ko;rw[wrap64 ω ω];omega
 have f2:IntKind.i64.wrap ((a:Int)+((b - a) / 4*2:Nat))=((Ko a b 2:Nat):Int):=by unfold Ko;rw[wrap64 ω ω];omega
 have f3:IntKind.i64.wrap ((a:Int)+((b - a) / 4*3:Nat))=((Ko a b 3:Nat):Int):=by unfold Ko;rw[wrap64 ω ω];omega
 have f0:IntKind.i64.wrap (((b - a:Nat):Int).tdiv 4)=(((b - a) / 4:Nat):Int):=by rw[show ((b - a:Nat):Int).tdiv 4=(((b - a) / 4:Nat):Int) from rfl,wrap64 ω ω]
 refine QQ func320 ntmps320 results320 λbase w pl hb=>?_;have Ql:=Qb ho;simp only[go_sem,e0,f0,e1,e2,e3,f1,f2,f3];have g1:∀o:Ob,(h++[o])[lo]? = some (Zd g d):=λo=>by rw[JC Ql];exact ho
 have g2:∀o:Ob,(h++[o])[h.length]? = some o:=λo=>σ;have g3:∀o o':Ob,(h++[o]).set h.length o'=h++[o']:=λo o'=>by rw[bF rfl];rfl
 have QA:h.length≠lo:=ω;rw[Qus];unfold chP;by_cases c8:b - a >= 8
 .rw[Qd c8];have d8:decide ((8:Int)<=(b - a:Nat))=true:=QU ω;by_cases Sx:b - a >= 50
  .rw[Qd Sx];have d50:decide ((50:Int)<=(b - a:Nat))=true:=QU ω;simp only[go_sem,d8,d50];have q1:(EA d a b).1<d.size/\(EA d a b).2<=3:=by unfold EA;exact pT _ _ _ _ (by unfold Ko;omega) (by unfold Ko;omega) (by unfold Ko;omega)
   have q2:(EB d a b).1<d.size/\(EB d a b).2<=(EA d a b).2+3:=by unfold EB;exact pT _ _ _ _ (by unfold Ko;omega) (by unfold Ko;omega) (by unfold Ko;omega)
   have q3:(IN d a b).1<d.size/\(IN d a b).2<=(EB d a b).2+3:=by unfold IN;exact pT _ _ _ _ (by unfold Ko;omega) (by unfold Ko;omega) (by unfold Ko;omega)
   refine Zw hb QnO (pS (g1 _) 0 (g2 _) QA (Ko a b 1) (by unfold Ko;omega) (by unfold Ko;omega) ω hz) λd h hR=>?_;obtain⟨rfl,rfl⟩:=hR;apply Qg hb;simp only[go_sem,g3];refine Zw hb QnO (pS (g1 _) (EA d a b).2 (g2 _) QA (Ko a b 2) (by unfold Ko;omega) (by unfold Ko;omega) ω hz) λd h hR=>?_;obtain⟨rfl,rfl⟩:=hR;apply Qg hb;simp only[go_sem,g3];refine Zw hb QnO (pS (g1 _) (EB d a b).2 (g2 _) QA (Ko a b 3) (by unfold Ko;omega) (by unfold Ko;omega) ω hz) λd h hR=>?_;obtain⟨rfl,rfl⟩:=hR;apply Qg hb;simp only[go_sem,g3];refine Zw hb ns (pR (g1 _) (IN d a b).2 (g2 _) QA (Sort.medianAdjacent Qt d (Ko a b 1) 0).1 (Sort.medianAdjacent Qt d (Ko a b 2) (EA d a b).2).1 (Sort.medianAdjacent Qt d (Ko a b 3) (EB d a b).2).1 q1.1 q2.1 q3.1 ω) λd h hR=>?_;obtain⟨rfl,rfl⟩:=hR;apply Qg hb;simp only[go_sem,g3];generalize hr:Sort.median Qt d (Sort.medianAdjacent Qt d (Ko a b 1) 0).1 (Sort.medianAdjacent Qt d (Ko a b 2) (EA d a b).2).1 (Sort.medianAdjacent Qt d (Ko a b 3) (EB d a b).2).1 (IN d a b).2=r;have NV:ch4 d a b=r:=hr;rw[NV];simp only[go_sem,g2];unfold pU;by_cases z0:r.2=0
   .have z1:((r.2:Int)==0)=true:=by rw[z0];rfl
    simp only[go_sem,z0];exact⟨rfl,_,rfl⟩
   .have z1:((r.2:Int)==0)=false:=beq_eq_false_iff_ne.mpr ω;by_cases z12:r.2=12
    .have z2:((r.2:Int)==12)=true:=by rw[z12];rfl
     simp only[go_sem,z12];exact⟨rfl,_,rfl⟩
    .have z2:((r.2:Int)==12)=false:=beq_eq_false_iff_ne.mpr ω;simp only[go_sem,z1,z2,z0,z12];exact⟨rfl,_,rfl⟩
  .rw[Qc Sx];have d50:decide ((50:Int)<=(b - a:Nat))=false:=QI ω;simp only[go_sem,d8,d50];refine Zw hb ns (pR (g1 _) 0 (g2 _) QA (Ko a b 1) (Ko a b 2) (Ko a b 3) (by unfold Ko;omega) (by unfold Ko;omega) (by unfold Ko;omega) ω) λd h hR=>?_;obtain⟨rfl,rfl⟩:=hR;apply Qg hb;simp only[go_sem,g3];generalize hr:Sort.median Qt d (Ko a b 1) (Ko a b 2) (Ko a b 3) 0=r;have NV:ch5 d a b=r:=hr;rw[NV];simp only[go_sem,g2];unfold pU;by_cases z0:r.2=0
   .have z1:((r.2:Int)==0)=true:=by rw[z0];rfl
    simp only[go_sem,z0];exact⟨rfl,_,rfl⟩
   .have z1:((r.2:Int)==0)=false:=beq_eq_false_iff_ne.mpr ω;by_cases z12:r.2=12
    .have z2:((r.2:Int)==12)=true:=by rw[z12];rfl
     simp only[go_sem,z12];exact⟨rfl,_,rfl⟩
    .have z2:((r.2:Int)==12)=false:=beq_eq_false_iff_ne.mpr ω;simp only[go_sem,z1,z2,z0,z12];exact⟨rfl,_,rfl⟩
 .rw[Qc c8];have d8:decide ((8:Int)<=(b - a:Nat))=false:=QI ω;simp only[go_sem,d8,g2];exact⟨rfl,_,rfl⟩
end
def j8{h:List Ob}{lo g}{d}(hl:lo<h.length):(h.set lo (Zd g d))[lo]? = some (Zd g d):=QE hl
def swp_size(d:Array Int)(i j:Nat):(Sort.swp d i j).size=d.size:=by simp[Sort.swp]
def ja(c:Bool)(x y:D):List.drop 1 (bif c then [x] else [y])=[]:=by cases c<;>rfl
def jc(g)(d:Array Int)(i j n)(hn:d.size=n)(hi:i<n)(hj:j<n):
  (⟨.arr,g,1,n,λk=>bif k==j then [.raw (.int .u64 d[i]!)] else bif k==i then [.raw (.int .u64 d[j]!)] else [.raw (.int .u64 d[k]!)]⟩:Ob)=Zd g (Sort.swp d i j):=by
 subst hn;unfold Zd;congr 1
 .exact(swp_size d i j).symm
 .funext k;unfold Bs uI Sort.swp;by_cases k1:k=j
  .subst k1;have e1:(k==k)=true:=Hj k;by_cases k2:k=i
   .subst k2;simp[hi]
   .simp[hi,hj]
  .by_cases k2:k=i
   .subst k2;have e1:(k==j)=false:=beq_eq_false_iff_ne.mpr k1;simp[hi,hj,Q3 k1,e1]
   .have e1:(k==j)=false:=beq_eq_false_iff_ne.mpr k1;have e2:(k==i)=false:=beq_eq_false_iff_ne.mpr k2;rw[e1,e2];by_cases k3:k<d.size
    .simp[k3,Q3 k1,Q3 k2]
    .simp[k3]
section
variable {h:List Ob}{lo g:Nat}{d:Array Int}(ho:h[lo]? = some (Zd g d))
include ho
theorem Quu(a b)(Vu:a<b)(Zp:b<=d.size)(hz:d.size<1000000000):
  QH prog 321 h [.ref lo g 0 d.size,Qa a,Qa b] (λdd h'=>dd=.tup []/\h'=h.set lo (Zd g (Sort.reverseRange d a b))):=by
 have e0:IntKind.i64.wrap ((b:Int) - 1)=((b - 1:Nat):Int):=Zu;refine QQ func321 ntmps321 results321 λbase w pl hb=>?_;have Ql:=Qb ho;simp only[go_sem,e0];refine Z3 (λk st=>∃d':Array Int,d'.size=d.size/\Sort.reverseLoop (a+k) (b - 1 - k) d'=Sort.reverseRange d a b/\a+k<=b - k/\st=⟨[(0,.ref lo g 0 d.size),(6,Qa (a+k:Nat)),(7,Qa (b - 1 - k:Nat))],h.set lo (Zd g d')⟩) d.size (s0:=⟨[(0,.ref lo g 0 d.size),(6,Qa (a+0:Nat)),(7,Qa (b - 1 - 0:Nat))],h.set lo (Zd g d)⟩) ?_ ⟨d,rfl,rfl,ω,rfl⟩ ?_
 .rw[vq ho];exact Qz.frame (by simp only[go_sem,Dl])
 rintro k _ hk ⟨d',hs,hd,hi,rfl⟩;have hl:=j8 (g:=g) (d:=d') Ql;generalize hH:h.set lo (Zd g d')=H at hl;have df:=Qb hl;by_cases c:a+k<b - 1 - k
 .have c1:decide (a+k<b - 1 - k)=true:=QU c;have c2:a+k<d.size:=ω;have c3:b - 1 - k<d.size:=ω;apply Qg hb;simp only[go_sem,c1];apply QF hb ux;simp only[go_sem,Qe,hl,hs,c2,c3,QE df,JK,ja];have v1:IntKind.i64.wrap (((a+k:Nat):Int)+1)=((a+(k+1):Nat):Int):=Zu;have v2:IntKind.i64.wrap (((b - 1 - k:Nat):Int) - 1)=((b - 1 - (k+1):Nat):Int):=Zu;rw[jc g d' _ _ _ hs c2 c3,v1,v2];have KI:Sort.reverseLoop (a+(k+1)) (b - 1 - (k+1)) (Sort.swp d' (a+k) (b - 1 - k))=Sort.reverseRange d a b:=by
   rw[<- hd]
   conv=>rhs;rw[Sort.reverseLoop,Qd c]
   congr 1
  refine⟨ω,_,?_,Sort.swp d' (a+k) (b - 1 - k),by rw[swp_size,hs],KI,ω,rfl⟩;rw[<- hH,JK];exact QM
 .have c1:decide (a+k<b - 1 - k)=false:=QI c;apply Qg hb;simp only[go_sem,c1];rw[Sort.reverseLoop,Qc c]at hd;subst hH;exact congrArg (λx=>h.set lo (Zd g x)) hd
end
def QfN(a):∀(j:Nat) (d:Array Int),(Sort.insInner Qt a j d).size=d.size
 | 0,d=>rfl
 | j+1,d=>by rw[Sort.insInner];split;rw[QfN a j,swp_size];rfl
section
variable {h:List Ob}{lo g:Nat}{d:Array Int}(ho:h[lo]? = some (Zd g d))
include ho
theorem Quv(a b)(Vu:a<=b)(Zp:b<=d.size)(hz:d.size<1000000000):
  QH prog 317 h [.ref lo g 0 d.size,Qa a,Qa b] (λdd h'=>dd=.tup []/\h'=h.set lo (Zd g (Sort.insertionSort Qt d a b))):=by
 have e0:IntKind.i64.wrap ((a:Int)+1)=((a+1:Nat):Int):=Zu;refine QQ func317 ntmps317 results317 λbase w pl hb=>?_;have Ql:=Qb ho;simp only[go_sem,e0];refine Z3 (λk st=>∃d':Array Int,d'.size=d.size/\Sort.insOuter Qt a b (a+1+k) d'=Sort.insertionSort Qt d a b/\a+1+k<=b+1/\st=⟨[(0,.ref lo g 0 d.size),(1,Qa a),(2,Qa b),(6,Qa (a+1+k:Nat))],h.set lo (Zd g d')⟩) d.size (s0:=⟨[(0,.ref lo g 0 d.size),(1,Qa a),(2,Qa b),(6,Qa (a+1+0:Nat))],h.set lo (Zd g d)⟩) ?_ ⟨d,rfl,rfl,ω,rfl⟩ ?_
 .rw[vq ho];exact QM
 rintro k _ hk ⟨d',hs,hd,hi,rfl⟩;have hl:=j8 (g:=g) (d:=d') Ql;by_cases c:a+1+k<b
 .have c1:decide (a+1+k<b)=true:=QU c;apply Qg hb;simp only[go_sem,c1];refine Z3 (λm st=>∃(d1:Array Int) (j:Nat),d1.size=d.size/\j+m=a+1+k/\Sort.insInner Qt a j d1=Sort.insInner Qt a (a+1+k) d'/\a<=j/\st=⟨[(0,.ref lo g 0 d.size),(1,Qa a),(2,Qa b),(6,Qa (a+1+k:Nat)),(7,Qa j)],h.set lo (Zd g d1)⟩) (a+1+k) (s0:=⟨[(0,.ref lo g 0 d.size),(1,Qa a),(2,Qa b),(6,Qa (a+1+k:Nat)),(7,Qa (a+1+k:Nat))],h.set lo (Zd g d')⟩) QM ⟨d',_,hs,rfl,rfl,Ki (Nat.le_succ a) (Qib _ _),rfl⟩ ?_;rintro m _ hm ⟨d1,j,ZZ,hj,WO,haj,rfl⟩;have Jj:=j8 (g:=g) (d:=d1) Ql;generalize hH:h.set lo (Zd g d1)=H at Jj;have CE:=Qb Jj;by_cases c2:a<j
  .have c3:decide (a<j)=true:=QU c2;have v1:IntKind.i64.wrap ((j:Int) - 1)=((j - 1:Nat):Int):=Zu;have p1:j<d.size:=ω;have p2:j - 1<d.size:=ω;apply Qn hb;apply QF hb [0,1,2,3,4,5,6,7,8,9,10,11,12,1013,14];simp only[go_sem,Jj,c3,v1,p1,p2,ZZ];apply Jb hb zU (vp d1[j]! d1[j - 1]!);apply ZA hb;have un:Sort.insInner Qt a j d1=if Qt d1[j]! d1[j - 1]! then Sort.insInner Qt a (j - 1) (Sort.swp d1 j (j - 1)) else d1:=by
    obtain⟨j',rfl⟩:∃j',j=j'+1:=⟨j - 1,ω⟩;rw[Sort.insInner];simp[show j'+1 > a from c2]
   cases QfO:Qt d1[j]! d1[j - 1]!
   .rw[QfO,Qc π]at un;simp only[go_sem];apply Qn hb;have v2:IntKind.i64.wrap (((a+1+k:Nat):Int)+1)=((a+1+(k+1):Nat):Int):=Zu;rw[v2];have KI:Sort.insOuter Qt a b (a+1+(k+1)) d1=Sort.insertionSort Qt d a b:=by
     rw[<- hd]
     conv=>rhs;rw[Sort.insOuter,Qd c]
     rw[<- WO,un];rfl
    refine⟨ω,_,?_,d1,ZZ,KI,ω,rfl⟩;rw[<- hH];exact QM
   .rw[QfO,Qd rfl]at un;simp only[go_sem];refine Ey (⟨[(0,.ref lo g 0 d.size),(1,Qa a),(2,Qa b),(6,Qa (a+1+k:Nat)),(7,Qa j)],h.set lo (Zd g (Sort.swp d1 j (j - 1)))⟩) Q4 hb mixed [(0,true),(1,true),(2,true),(3,true),(5,true),(6,true),(7,true),(8,true),(9,true),(10,true),(11,true),(12,true),(13,true),(14,true)] [4,15,16,17] τ τ (λs hw=>Br hw rfl ?_) ?_
    rotate_left
    .simp only[go_sem,Qe,Jj,v1,p1,p2,ZZ,QE CE,JK,ja];rw[jc g d1 _ _ _ ZZ p1 p2,<- hH,JK]
     repeat' refine And.intro ?_ ?_
     all_goals exact QM
    apply Qg hb;simp only[go_sem,v1];refine⟨ω,_,?_,Sort.swp d1 j (j - 1),j - 1,by rw[swp_size,ZZ],ω,by rw[<- un,WO],ω,rfl⟩;exact QM
  .have c3:decide (a<j)=false:=QI c2;have un:Sort.insInner Qt a j d1=d1:=by
    cases j with
    | zero=>rfl
    | succ j'=>rw[Sort.insInner];simp[show ¬ j'+1 > a from c2]
   apply Qn hb;apply QF hb [0,1,2,3,4,5,6,7,8,9,10,11,12,1013,14];simp only[go_sem,c3];apply Qn hb;have v2:IntKind.i64.wrap (((a+1+k:Nat):Int)+1)=((a+1+(k+1):Nat):Int):=Zu;rw[v2];have KI:Sort.insOuter Qt a b (a+1+(k+1)) d1=Sort.insertionSort Qt d a b:=by
    rw[<- hd]
    conv=>rhs;rw[Sort.insOuter,Qd c]
    rw[<- WO,un];rfl
   refine⟨ω,_,?_,d1,ZZ,KI,ω,rfl⟩;rw[<- hH];exact QM
 .have c1:decide (a+1+k<b)=false:=QI c;rw[Sort.insOuter,Qc c]at hd;apply Qg hb;simp only[go_sem,c1];exact congrArg (λx=>h.set lo (Zd g x)) hd
end
def pV(hi first):∀(n root:Nat) (d:Array Int),hi - root<=n->(Sort.siftDown Qt hi first root d).size=d.size
 | n,root,d,hn=>by
  rw[Sort.siftDown];split
  .rfl
  .rename_i h1;split
   .split
    .rfl
    .split
     .obtain⟨n',rfl⟩:∃n',n=n'+1:=⟨n - 1,ω⟩;rw[pV hi first n' _ _ ω,swp_size]
     .rfl
   .split
    .rfl
    .obtain⟨n',rfl⟩:∃n',n=n'+1:=⟨n - 1,ω⟩;rw[pV hi first n' _ _ ω,swp_size]
section
variable {h:List Ob}{lo g:Nat}{d:Array Int}(ho:h[lo]? = some (Zd g d))
include ho
theorem QfP(hi first root)(Zp:first+hi<=d.size)(Sy:root<=d.size)(hz:d.size<1000000000):
  QH prog 332 h [.ref lo g 0 d.size,Qa root,Qa hi,Qa first] (λdd h'=>dd=.tup []/\h'=h.set lo (Zd g (Sort.siftDown Qt hi first root d))):=by
 refine QQ func332 ntmps332 results332 λbase w pl hb=>?_;have Ql:=Qb ho;simp only[go_sem];refine Z3 (λm st=>∃(d1:Array Int) (r:Nat),d1.size=d.size/\m<=r/\r<=d.size/\Sort.siftDown Qt hi first r d1=Sort.siftDown Qt hi first root d/\st=⟨[(0,.ref lo g 0 d.size),(2,Qa hi),(3,Qa first),(8,Qa r)],h.set lo (Zd g d1)⟩) (d.size) (s0:=⟨[(0,.ref lo g 0 d.size),(2,Qa hi),(3,Qa first),(8,Qa root)],h.set lo (Zd g d)⟩) ?_ ⟨d,root,rfl,Jh _,Sy,rfl,rfl⟩ ?_
 .rw[vq ho];exact QM
 rintro m _ hm ⟨d1,r,ZZ,PT,XR,Yl,rfl⟩;have Jj:=j8 (g:=g) (d:=d1) Ql;generalize hH:h.set lo (Zd g d1)=H at Jj;have CE:=Qb Jj;have v1:IntKind.i64.wrap (2*(r:Int))=((2*r:Nat):Int):=Zu;have v2:IntKind.i64.wrap (((2*r:Nat):Int)+1)=((2*r+1:Nat):Int):=Zu;have v3:IntKind.i64.wrap (((2*r+1:Nat):Int)+1)=((2*r+1+1:Nat):Int):=Zu;rw[Sort.siftDown]at Yl;by_cases c1:hi<=2*r+1
 .have e1:decide (hi<=2*r+1)=true:=QU c1;rw[dif_pos c1]at Yl;apply Qg hb;simp only[go_sem,v1,v2,e1];exact hH.symm.trans (congrArg (λx=>h.set lo (Zd g x)) Yl)
 .have e1:decide (hi<=2*r+1)=false:=QI c1;rw[dif_neg c1]at Yl;have p0:first+r<d.size:=ω;have p1:first+(2*r+1)<d.size:=ω;have w0:IntKind.i64.wrap ((first:Int)+r)=((first+r:Nat):Int):=Zu;have w1:IntKind.i64.wrap ((first:Int)+(2*r+1:Nat))=((first+(2*r+1):Nat):Int):=Zu;have w2:IntKind.i64.wrap ((first:Int)+(2*r+1+1:Nat))=((first+(2*r+1+1):Nat):Int):=Zu;have w3:IntKind.i64.wrap (((first+(2*r+1):Nat):Int)+1)=((first+(2*r+1)+1:Nat):Int):=Zu;apply Qg hb;simp only[go_sem,v1,v2,e1];first|refine qa ?_|skip
  refine Bb [0,2,3,8,9] [(36,QT (decide (2*r+1+1<hi)&&Qt d1[first+(2*r+1)]! d1[first+(2*r+1)+1]!))] rfl ?_ ?_
  .by_cases c2:2*r+1+1<hi
   .have e2:decide (2*r+1+1<hi)=true:=QU c2;have p2:first+(2*r+1)+1<d.size:=ω;apply QF hb yh;simp only[go_sem,Jj,ZZ,v3,e2,w1,w3,p1,p2];apply Jb hb zU (vp d1[first+(2*r+1)]! d1[first+(2*r+1)+1]!);apply ZA hb;exact QM
   .have e2:decide (2*r+1+1<hi)=false:=QI c2;apply QF hb yh;simp only[go_sem,v3,e2];exact QM
  .cases hB:(decide (2*r+1+1<hi)&&Qt d1[first+(2*r+1)]! d1[first+(2*r+1)+1]!)
   .rw[hB,Qc π]at Yl;apply Qn hb;apply QF hb uy;simp only[go_sem,Jj,ZZ,w0,w1,p0,p1];apply Jb hb zU (vp d1[first+r]! d1[first+(2*r+1)]!);apply ZA hb;cases hq:Qt d1[first+r]! d1[first+(2*r+1)]!
    .rw[hq,Fh,Qd rfl]at Yl;simp only[go_sem];exact hH.symm.trans (congrArg (λx=>h.set lo (Zd g x)) Yl)
    .rw[hq,Ap,Qc π]at Yl
     skip
     simp only[go_sem];refine Ey (⟨[(0,.ref lo g 0 d.size),(2,Qa hi),(3,Qa first),(9,Qa (2*r+1:Nat))],h.set lo (Zd g (Sort.swp d1 (first+r) (first+(2*r+1))))⟩) Q4 hb mixed [(0,true),(1,true),(2,true),(3,true),(4,true),(5,true),(6,true),(8,true),(9,true),(10,true),(11,true),(12,true),(13,true),(14,true),(15,true),(16,true),(17,true),(18,true),(19,true),(20,true)] [7,21,22,23] τ τ (λs hw=>Br hw rfl ?_) ?_
     rotate_left
     .simp only[go_sem,Qe,Jj,w0,w1,p0,p1,ZZ,QE CE,JK,ja];rw[jc g d1 _ _ _ ZZ p0 p1,<- hH,JK]
      repeat' refine And.intro ?_ ?_
      all_goals exact QM
     apply Qn hb;refine⟨ω,_,?_,Sort.swp d1 (first+r) (first+(2*r+1)),2*r+1,by rw[swp_size,ZZ],ω,ω,Yl,rfl⟩;exact QM
   .have yW:2*r+1+1<hi:=by
     rw[Zy]at hB;exact X8 hB.1
    rw[hB,Qd rfl]at Yl;have p2:first+(2*r+1+1)<d.size:=ω;apply Qg hb;simp only[go_sem,v3];apply QF hb uy;simp only[go_sem,Jj,ZZ,w0,w2,p0,p2];apply Jb hb zU (vp d1[first+r]! d1[first+(2*r+1+1)]!);apply ZA hb;cases hq:Qt d1[first+r]! d1[first+(2*r+1+1)]!
    .rw[hq,Fh,Qd rfl]at Yl;simp only[go_sem];exact hH.symm.trans (congrArg (λx=>h.set lo (Zd g x)) Yl)
    .rw[hq,Ap,Qc π]at Yl;rw[dif_pos (show 2*r+2<hi from yW)]at Yl;simp only[go_sem];refine Ey (⟨[(0,.ref lo g 0 d.size),(2,Qa hi),(3,Qa first),(9,Qa (2*r+1+1:Nat))],h.set lo (Zd g (Sort.swp d1 (first+r) (first+(2*r+1+1))))⟩) Q4 hb mixed [(0,true),(1,true),(2,true),(3,true),(4,true),(5,true),(6,true),(8,true),(9,true),(10,true),(11,true),(12,true),(13,true),(14,true),(15,true),(16,true),(17,true),(18,true),(19,true),(20,true)] [7,21,22,23] τ τ (λs hw=>Br hw rfl ?_) ?_
     rotate_left
     .simp only[go_sem,Qe,Jj,w0,w2,p0,p2,ZZ,QE CE,JK,ja];rw[jc g d1 _ _ _ ZZ p0 p2,<- hH,JK]
      repeat' refine And.intro ?_ ?_
      all_goals exact QM
     apply Qn hb;refine⟨ω,_,?_,Sort.swp d1 (first+r) (first+(2*r+1+1)),2*r+1+1,by rw[swp_size,ZZ],ω,ω,Yl,rfl⟩;exact QM
end
def eO(hi first root)(d:Array Int):(Sort.siftDown Qt hi first root d).size=d.size:=pV hi first _ root d (QB _)
def QfQ(hi first):∀(k:Nat) (d:Array Int),(Sort.heapBuild Qt hi first k d).size=d.size
 | 0,d=>rfl
 | k+1,d=>by rw[Sort.heapBuild,QfQ hi first k,eO]
section
variable {h:List Ob}{lo g:Nat}{d:Array Int}(ho:h[lo]? = some (Zd g d))
include ho
theorem Quw(a b)(Vu:a<b)(Zp:b<=d.size)(hz:d.size<1000000000):
  QH prog 318 h [.ref lo g 0 d.size,Qa a,Qa b] (λdd h'=>dd=.tup []/\h'=h.set lo (Zd g (Sort.heapSort Qt d a b))):=by
 have e0:IntKind.i64.wrap ((b:Int) - a)=((b - a:Nat):Int):=Zu;have e1:IntKind.i64.wrap (((b - a:Nat):Int) - 1)=((b - a - 1:Nat):Int):=Zu;have e2:((b - a - 1:Nat):Int).tdiv 2=(((b - a - 1) / 2:Nat):Int):=rfl;have e3:IntKind.i64.wrap ((((b - a - 1) / 2:Nat):Int))=(((b - a - 1) / 2:Nat):Int):=by rw[wrap64 ω ω]
 have z0:((0:Nat):Int)=0:=rfl;refine QQ func318 ntmps318 results318 λbase w pl hb=>?_;have Ql:=Qb ho;simp only[go_sem,e0,e1,e2,e3];unfold Sort.heapSort;refine Z3 (λm st=>∃(d1:Array Int) (k:Nat),d1.size=d.size/\k+m=(b - a - 1) / 2+1/\Sort.heapBuild Qt (b - a) a k d1=Sort.heapBuild Qt (b - a) a ((b - a - 1) / 2+1) d/\st=⟨[(0,.ref lo g 0 d.size),(6,Qa a),(7,Qa 0),(8,Qa (b - a:Nat)),(9,Qa ((k:Int) - 1))],h.set lo (Zd g d1)⟩) ((b - a - 1) / 2+1) (s0:=⟨[(0,.ref lo g 0 d.size),(6,Qa a),(7,Qa 0),(8,Qa (b - a:Nat)),(9,Qa ((((b - a - 1) / 2+1:Nat):Int) - 1))],h.set lo (Zd g d)⟩) ?_ ⟨d,_,rfl,rfl,rfl,rfl⟩ ?_
 .rw[vq ho,show ((((b - a - 1) / 2+1:Nat):Int) - 1)=(((b - a - 1) / 2:Nat):Int) by omega];exact QM
 rintro m _ hm ⟨d1,k,ZZ,hk,Yl,rfl⟩;have Jj:=j8 (g:=g) (d:=d1) Ql;rcases k with _|k
 .rw[Sort.heapBuild]at Yl;apply Qn hb;apply Qg hb;simp only[go_sem,e1];rw[<- Yl];refine Z3 (λm st=>∃(d2:Array Int) (k:Nat),d2.size=d.size/\k+m=b - a/\Sort.heapPop Qt a k d2=Sort.heapPop Qt a (b - a) d1/\st=⟨[(0,.ref lo g 0 d.size),(6,Qa a),(7,Qa 0),(10,Qa ((k:Int) - 1))],h.set lo (Zd g d2)⟩) (b - a) (s0:=⟨[(0,.ref lo g 0 d.size),(6,Qa a),(7,Qa 0),(10,Qa (((b - a:Nat):Int) - 1))],h.set lo (Zd g d1)⟩) ?_ ⟨d1,_,ZZ,rfl,rfl,rfl⟩ ?_
  .rw[show (((b - a:Nat):Int) - 1)=((b - a - 1:Nat):Int) by omega];exact QM
  rintro n _ hn ⟨d2,k,Jv,Jf,KI,rfl⟩;have Jp:=j8 (g:=g) (d:=d2) Ql;generalize hH:h.set lo (Zd g d2)=H at Jp;have Qux:=Qb Jp;rcases k with _|k
  .rw[Sort.heapPop]at KI;apply Qn hb;exact hH.symm.trans (congrArg (λx=>h.set lo (Zd g x)) KI)
  .rw[Sort.heapPop]at KI;have v0:(((k+1:Nat):Int) - 1)=(k:Int):=ω;have v1:IntKind.i64.wrap ((a:Int)+k)=((a+k:Nat):Int):=Zu;have v2:IntKind.i64.wrap ((k:Int) - 1)=(k:Int) - 1:=wrap64 ω ω;have p0:a<d.size:=ω;have p1:a+k<d.size:=ω;apply Qg hb;simp only[go_sem,v0];refine Ey (⟨[(0,.ref lo g 0 d.size),(6,Qa a),(7,Qa 0),(10,Qa k)],h.set lo (Zd g (Sort.swp d2 a (a+k)))⟩) Q4 hb mixed [(0,true),(1,true),(2,true),(3,true),(4,true),(6,true),(7,true),(8,true),(9,true),(10,true),(11,true),(12,true),(13,true),(14,true),(15,true),(16,true)] [5,17,18,19] τ τ (λs hw=>Br hw rfl ?_) ?_
   rotate_left
   .simp only[go_sem,Qe,Jp,v1,p0,p1,Jv,QE Qux,JK,ja];rw[jc g d2 _ _ _ Jv p0 p1,<- hH,JK]
    repeat' refine And.intro ?_ ?_
    all_goals exact QM
   apply Qn hb;have Sz:(Sort.swp d2 a (a+k)).size=d.size:=by rw[swp_size,Jv]
   refine Zw hb QdT (Sz▸QfP (j8 (g:=g) (d:=Sort.swp d2 a (a+k)) Ql) k a 0 ω ω ω) λd h hR=>?_;obtain⟨rfl,rfl⟩:=hR;apply Qg hb;simp only[go_sem,JK,v2];refine⟨ω,_,?_,Sort.siftDown Qt k a 0 (Sort.swp d2 a (a+k)),k,by rw[eO,Sz],ω,KI,rfl⟩;exact QM
 .rw[Sort.heapBuild]at Yl;have v0:(((k+1:Nat):Int) - 1)=(k:Int):=ω;have v2:IntKind.i64.wrap ((k:Int) - 1)=(k:Int) - 1:=wrap64 ω ω;apply Qg hb;simp only[go_sem,v0];refine Zw hb QdT (ZZ▸QfP Jj (b - a) a k ω ω ω) λd h hR=>?_;obtain⟨rfl,rfl⟩:=hR;apply Qg hb;simp only[go_sem,JK,v2];refine⟨ω,_,?_,Sort.siftDown Qt (b - a) a k d1,k,by rw[eO,ZZ],ω,Yl,rfl⟩;exact QM
end
def pW(p)(d:Array Int)(i j)(hi:0<i):Sort.scanDown p d i j=if i<=j&&p d[j]! then Sort.scanDown p d i (j - 1) else j:=by
 cases j with
 | zero=>
  rw[Sort.scanDown,Qc];simp;omega
 | succ j=>rw[Sort.scanDown];rfl
def eP(p q:Int->Bool)(hq:∀x,q x=!p x)(d:Array Int)(i j:Nat)(ha:0<i)(K7:i<=j+1)(h:¬ Sort.scanUp p d j i > Sort.scanDown q d (Sort.scanUp p d j i) j):
  Sort.scanUp p d j i<Sort.scanDown q d (Sort.scanUp p d j i) j:=by
 obtain⟨u1,u2,u3,u4⟩:=Sort.scanUp_spec p d j _ i rfl;obtain⟨v1,v2,v3,v4⟩:=Sort.scanDown_spec q d (Sort.scanUp p d j i) j;rcases w9 (Sort.scanUp p d j i) (Sort.scanDown q d (Sort.scanUp p d j i) j) with h'|h'
 .exact h'
 .have e:Sort.scanUp p d j i=Sort.scanDown q d (Sort.scanUp p d j i) j:=ω;have f1:=u4 ω;have f2:=v4 ω ω;rw[hq,<- e,f1]at f2;cases f2
def QfR(a):∀(n i j:Nat) (d:Array Int),j+1 - i<=n->(Sort.partEqLoop Qt a i j d).2.size=d.size
 | n,i,j,d,hn=>by
  rw[Sort.partEqLoop_eq];split
  .rfl
  .rename_i h;have:=Sort.partEqLoop_guard Qt a i j d h;obtain⟨n',rfl⟩:∃n',n=n'+1:=⟨n - 1,ω⟩;rw[QfR a n' _ _ _ ω,swp_size]
def QfS(a):∀(n i j:Nat) (d:Array Int),j+1 - i<=n->(Sort.partLoop Qt a i j d).2.size=d.size
 | n,i,j,d,hn=>by
  rw[Sort.partLoop_eq];split
  .rfl
  .rename_i h;have:=Sort.partLoop_guard Qt a i j d h;obtain⟨n',rfl⟩:∃n',n=n'+1:=⟨n - 1,ω⟩;rw[QfS a n' _ _ _ ω,swp_size]
section
variable {h:List Ob}{lo g:Nat}{d:Array Int}(ho:h[lo]? = some (Zd g d))
include ho
theorem Quy(a b pv)(Vu:a<b)(Zp:b<=d.size)(hp:a<=pv)(mu:pv<b)(hz:d.size<1000000000):
  QH prog 323 h [.ref lo g 0 d.size,Qa a,Qa b,Qa pv] (λdd h'=>dd=Qa (Sort.partitionEqual Qt d a b pv).1/\h'=h.set lo (Zd g (Sort.partitionEqual Qt d a b pv).2)):=by
 have e0:IntKind.i64.wrap ((a:Int)+1)=((a+1:Nat):Int):=Zu;have e1:IntKind.i64.wrap ((b:Int) - 1)=((b - 1:Nat):Int):=Zu;have pa:a<d.size:=ω;have pp:pv<d.size:=ω;have hsd:d.size=d.size:=rfl;refine QQ func323 ntmps323 results323 λbase w pl hb=>?_;have Ql:=Qb ho;simp only[go_sem];apply QF hb ux;simp only[go_sem,Qe,ho,pa,pp,QE Ql,JK,ja];rw[jc g d _ _ _ rfl pa pp];apply Qg hb;simp only[go_sem,e0,e1];unfold Sort.partitionEqual;refine Z3 (λm st=>∃(d1:Array Int) (i j:Nat),d1.size=d.size/\a<i/\i<=j+1/\j<b/\m+(j+1 - i)<=b/\Sort.partEqLoop Qt a i j d1=Sort.partEqLoop Qt a (a+1) (b - 1) (Sort.swp d a pv)/\st=⟨[(0,.ref lo g 0 d.size),(1,Qa a),(9,Qa i),(10,Qa j)],h.set lo (Zd g d1)⟩) b (s0:=⟨[(0,.ref lo g 0 d.size),(1,Qa a),(9,Qa (a+1:Nat)),(10,Qa (b - 1:Nat))],h.set lo (Zd g (Sort.swp d a pv))⟩) QM ⟨_,a+1,b - 1,swp_size d a pv,ω,ω,ω,ω,rfl,rfl⟩ ?_;rintro m _ hm ⟨d1,i,j,xP,NW,K7,hjb,cM,Zh,rfl⟩;have yX:=j8 (g:=g) (d:=d1) Ql;generalize hH:h.set lo (Zd g d1)=H at yX;have eQ:=Qb yX;rw[Sort.partEqLoop_eq]at Zh;have IL:=eP (λx=>!Qt d1[a]! x) (λx=>Qt d1[a]! x) (λx=>σ) d1 i j ω K7;obtain⟨u1,u2,u3,u4⟩:=Sort.scanUp_spec (λx=>!Qt d1[a]! x) d1 j _ i rfl;have u5:=u2 K7;generalize VH:Sort.scanUp (λx=>!Qt d1[a]! x) d1 j i=i2 at *;obtain⟨w1,w2,w3,w4⟩:=Sort.scanDown_spec (λx=>Qt d1[a]! x) d1 i2 j;have w5:=w2 u5;generalize V5:Sort.scanDown (λx=>Qt d1[a]! x) d1 i2 j=j2 at *;apply Qn hb;refine Z3 (λm st=>∃xa:Nat,xa=i+m/\xa<=j+1/\Sort.scanUp (λx=>!Qt d1[a]! x) d1 j xa=i2/\st=⟨[(0,.ref lo g 0 d.size),(1,Qa a),(9,Qa xa),(10,Qa j)],H⟩) d.size (s0:=⟨[(0,.ref lo g 0 d.size),(1,Qa a),(9,Qa i),(10,Qa j)],H⟩) QM ⟨i,rfl,ω,VH,rfl⟩ ?_;rintro ma _ hma ⟨xa,hxa,hya,SA,rfl⟩;have ga:xa<=j->xa<d.size:=ω;rw[Sort.scanUp]at SA;apply Qn hb;first|refine qa ?_|skip
 refine Bb [0,1,9,10] [(43,QT (decide (xa<=j)&&!Qt d1[a]! d1[xa]!))] rfl ?_ ?_
 .by_cases ca:xa<=j
  .have ea:decide (xa<=j)=true:=QU ca;have g2a:=ga ca;apply QF hb uz;simp only[go_sem,yX,xP,ea,pa,g2a];apply Jb hb zU (vp d1[a]! d1[xa]!);apply ZA hb;exact QM
  .have ea:decide (xa<=j)=false:=QI ca;apply QF hb uz;simp only[go_sem,ea];exact QM
 cases hB:(decide (xa<=j)&&!Qt d1[a]! d1[xa]!)
 .rw[hB,Qc π]at SA;apply Qn hb;subst SA;apply Qn hb;refine Z3 (λm st=>∃xb:Nat,xb+m=j/\xa<=xb+1/\Sort.scanDown (λx=>Qt d1[a]! x) d1 xa xb=j2/\st=⟨[(0,.ref lo g 0 d.size),(1,Qa a),(9,Qa xa),(10,Qa xb)],H⟩) d.size (s0:=⟨[(0,.ref lo g 0 d.size),(1,Qa a),(9,Qa xa),(10,Qa j)],H⟩) QM ⟨j,rfl,ω,V5,rfl⟩ ?_;rintro mb _ CG ⟨xb,B4,hyb,SB,rfl⟩;have gb:xa<=xb->xb<d.size:=ω;rw[pW _ _ _ _ ω]at SB;apply Qn hb;first|refine qa ?_|skip
  refine Bb [0,1,9,10] [(59,QT (decide (xa<=xb)&&Qt d1[a]! d1[xb]!))] rfl ?_ ?_
  .by_cases cb:xa<=xb
   .have eb:decide (xa<=xb)=true:=QU cb;have g2b:=gb cb;apply QF hb uy;simp only[go_sem,yX,xP,eb,pa,g2b];apply Jb hb zU (vp d1[a]! d1[xb]!);apply ZA hb;exact QM
   .have eb:decide (xa<=xb)=false:=QI cb;apply QF hb uy;simp only[go_sem,eb];exact QM
  cases hB:(decide (xa<=xb)&&Qt d1[a]! d1[xb]!)
  .rw[hB,Qc π]at SB;apply Qn hb;have CH:IntKind.i64.wrap ((xa:Int)+1)=((xa+1:Nat):Int):=Zu;subst SB;by_cases cg:xb<xa
   .have eg:decide (xb<xa)=true:=QU cg;rw[Qd cg]at Zh;apply Qg hb;simp only[go_sem,eg];apply Qn hb;rw[<- Zh,<- hH];first|exact⟨rfl,rfl⟩|rfl
   .have eg:decide (xb<xa)=false:=QI cg;have clt:=IL cg;have px:xa<d.size:=ω;have py:xb<d.size:=ω;have SC:IntKind.i64.wrap ((xb:Int) - 1)=((xb - 1:Nat):Int):=Zu;rw[Qc cg]at Zh;apply Qg hb;simp only[go_sem,eg];apply QF hb ux;simp only[go_sem,Qe,yX,xP,px,py,QE eQ,JK,ja,CH,SC];rw[jc g d1 _ _ _ xP px py];refine⟨ω,_,?_,Sort.swp d1 xa xb,xa+1,xb - 1,by rw[swp_size,xP],ω,ω,ω,ω,Zh,rfl⟩;rw[<- hH,JK];exact QM
  .rw[hB,Qd rfl]at SB;have lqb:xa<=xb:=by
    rw[Zy]at hB;exact X8 hB.1
   have vb:IntKind.i64.wrap ((xb:Int) - 1)=((xb - 1:Nat):Int):=Zu;apply Qg hb;simp only[go_sem,vb];refine⟨ω,_,?_,xb - 1,ω,ω,SB,rfl⟩;exact QM
 .rw[hB,Qd rfl]at SA;have lqa:xa<=j:=by
   rw[Zy]at hB;exact X8 hB.1
  have va:IntKind.i64.wrap ((xa:Int)+1)=((xa+1:Nat):Int):=Zu;apply Qg hb;simp only[go_sem,va];refine⟨ω,_,?_,xa+1,ω,ω,SA,rfl⟩;exact QM
omit ho in
theorem QuD(d)(a b pv):Sort.partition Qt d a b pv =
  if Sort.scanUp (λx=>Qt x (Sort.swp d a pv)[a]!) (Sort.swp d a pv) (b - 1) (a+1) > Sort.scanDown (λx=>!Qt x (Sort.swp d a pv)[a]!) (Sort.swp d a pv) (Sort.scanUp (λx=>Qt x (Sort.swp d a pv)[a]!) (Sort.swp d a pv) (b - 1) (a+1)) (b - 1) then
   (Sort.scanDown (λx=>!Qt x (Sort.swp d a pv)[a]!) (Sort.swp d a pv) (Sort.scanUp (λx=>Qt x (Sort.swp d a pv)[a]!) (Sort.swp d a pv) (b - 1) (a+1)) (b - 1),true,Sort.swp (Sort.swp d a pv) (Sort.scanDown (λx=>!Qt x (Sort.swp d a pv)[a]!) (Sort.swp d a pv) (Sort.scanUp (λx=>Qt x (Sort.swp d a pv)[a]!) (Sort.swp d a pv) (b - 1) (a+1)) (b - 1)) a)
  else ((Sort.partLoop Qt a (Sort.scanUp (λx=>Qt x (Sort.swp d a pv)[a]!) (Sort.swp d a pv) (b - 1) (a+1)+1) (Sort.scanDown (λx=>!Qt x (Sort.swp d a pv)[a]!) (Sort.swp d a pv) (Sort.scanUp (λx=>Qt x (Sort.swp d a pv)[a]!) (Sort.swp d a pv) (b - 1) (a+1)) (b - 1) - 1) (Sort.swp (Sort.swp d a pv) (Sort.scanUp (λx=>Qt x (Sort.swp d a pv)[a]!) (Sort.swp d a pv) (b - 1) (a+1)) (Sort.scanDown (λx=>!Qt x (Sort.swp d a pv)[a]!) (Sort.swp d a pv) (Sort.scanUp (λx=>Qt x (Sort.swp d a pv)[a]!) (Sort.swp d a pv) (b - 1) (a+1)) (b - 1)))).1,false,
   Sort.swp (Sort.partLoop Qt a (Sort.scanUp (λx=>Qt x (Sort.swp d a pv)[a]!) (Sort.swp d a pv) (b - 1) (a+1)+1) (Sort.scanDown (λx=>!Qt x (Sort.swp d a pv)[a]!) (Sort.swp d a pv) (Sort.scanUp (λx=>Qt x (Sort.swp d a pv)[a]!) (Sort.swp d a pv) (b - 1) (a+1)) (b - 1) - 1) (Sort.swp (Sort.swp d a pv) (Sort.scanUp (λx=>Qt x (Sort.swp d a pv)[a]!) (Sort.swp d a pv) (b - 1) (a+1)) (Sort.scanDown (λx=>!Qt x (Sort.swp d a pv)[a]!) (Sort.swp d a pv) (Sort.scanUp (λx=>Qt x (Sort.swp d a pv)[a]!) (Sort.swp d a pv) (b - 1) (a+1)) (b - 1)))).2
    (Sort.partLoop Qt a (Sort.scanUp (λx=>Qt x (Sort.swp d a pv)[a]!) (Sort.swp d a pv) (b - 1) (a+1)+1) (Sort.scanDown (λx=>!Qt x (Sort.swp d a pv)[a]!) (Sort.swp d a pv) (Sort.scanUp (λx=>Qt x (Sort.swp d a pv)[a]!) (Sort.swp d a pv) (b - 1) (a+1)) (b - 1) - 1) (Sort.swp (Sort.swp d a pv) (Sort.scanUp (λx=>Qt x (Sort.swp d a pv)[a]!) (Sort.swp d a pv) (b - 1) (a+1)) (Sort.scanDown (λx=>!Qt x (Sort.swp d a pv)[a]!) (Sort.swp d a pv) (Sort.scanUp (λx=>Qt x (Sort.swp d a pv)[a]!) (Sort.swp d a pv) (b - 1) (a+1)) (b - 1)))).1 a):=rfl
theorem QuE(a b pv)(Vu:a+1<b)(Zp:b<=d.size)(hp:a<=pv)(mu:pv<b)(hz:d.size<1000000000):
  QH prog 324 h [.ref lo g 0 d.size,Qa a,Qa b,Qa pv] (λdd h'=>dd=.tup [Qa (Sort.partition Qt d a b pv).1,QT (Sort.partition Qt d a b pv).2.1]/\h'=h.set lo (Zd g (Sort.partition Qt d a b pv).2.2)):=by
 have e0:IntKind.i64.wrap ((a:Int)+1)=((a+1:Nat):Int):=Zu;have e1:IntKind.i64.wrap ((b:Int) - 1)=((b - 1:Nat):Int):=Zu;have pa:a<d.size:=ω;have pp:pv<d.size:=ω;refine QQ func324 ntmps324 results324 λbase w pl hb=>?_;have Ql:=Qb ho;simp only[go_sem];apply QF hb ux;simp only[go_sem,Qe,ho,pa,pp,QE Ql,JK,ja];rw[jc g d _ _ _ rfl pa pp,QuD];apply Qg hb;simp only[go_sem,e0,e1];generalize hdk:Sort.swp d a pv=dk at *;have IP:dk.size=d.size:=by rw[<- hdk,swp_size]
 have NX:=j8 (g:=g) (d:=dk) Ql;generalize pX:h.set lo (Zd g dk)=Hk at NX;have QfU:=Qb NX;have QuG:=eP (λx=>Qt x dk[a]!) (λx=>!Qt x dk[a]!) (λx=>rfl) dk (a+1) (b - 1) ω ω;obtain⟨t1,t2,t3,t4⟩:=Sort.scanUp_spec (λx=>Qt x dk[a]!) dk (b - 1) _ (a+1) rfl;have t5:=t2 ω;generalize VH:Sort.scanUp (λx=>Qt x dk[a]!) dk (b - 1) (a+1)=i2 at *;obtain⟨s1,s2,s3,s4⟩:=Sort.scanDown_spec (λx=>!Qt x dk[a]!) dk i2 (b - 1);have s5:=s2 t5;generalize V5:Sort.scanDown (λx=>!Qt x dk[a]!) dk i2 (b - 1)=j2 at *;generalize hI0:a+1=I0 at *;generalize hJ0:b - 1=J0 at *;rw[show h.set lo (⟨.arr,g,1,dk.size,Bs dk⟩:Ob)=Hk from pX];refine Z3 (λm st=>∃xe:Nat,xe=I0+m/\xe<=J0+1/\Sort.scanUp (λx=>Qt x dk[a]!) dk J0 xe=i2/\st=⟨[(0,.ref lo g 0 d.size),(1,Qa a),(10,Qa xe),(11,Qa J0)],Hk⟩) d.size (s0:=⟨[(0,.ref lo g 0 d.size),(1,Qa a),(10,Qa I0),(11,Qa J0)],Hk⟩) QM ⟨I0,rfl,ω,VH,rfl⟩ ?_;rintro me _ hme ⟨xe,hxe,Wv,SD,rfl⟩;have ge:xe<=J0->xe<d.size:=ω;rw[Sort.scanUp]at SD;apply Qn hb;first|refine qa ?_|skip
 refine Bb [0,1,10,11] [(43,QT (decide (xe<=J0)&&Qt dk[xe]! dk[a]!))] rfl ?_ ?_
 .by_cases ce:xe<=J0
  .have ee:decide (xe<=J0)=true:=QU ce;have g2e:=ge ce;apply QF hb uy;simp only[go_sem,NX,IP,ee,pa,g2e];apply Jb hb zU (vp dk[xe]! dk[a]!);apply ZA hb;exact QM
  .have ee:decide (xe<=J0)=false:=QI ce;apply QF hb uy;simp only[go_sem,ee];exact QM
 cases hB:(decide (xe<=J0)&&Qt dk[xe]! dk[a]!)
 .rw[hB,Qc π]at SD;apply Qn hb;subst SD;apply Qn hb;refine Z3 (λm st=>∃xf:Nat,xf+m=J0/\xe<=xf+1/\Sort.scanDown (λx=>!Qt x dk[a]!) dk xe xf=j2/\st=⟨[(0,.ref lo g 0 d.size),(1,Qa a),(10,Qa xe),(11,Qa xf)],Hk⟩) d.size (s0:=⟨[(0,.ref lo g 0 d.size),(1,Qa a),(10,Qa xe),(11,Qa J0)],Hk⟩) QM ⟨J0,rfl,ω,V5,rfl⟩ ?_;rintro mf _ hmf ⟨xf,hxf,hyf,SE,rfl⟩;have gf:xe<=xf->xf<d.size:=ω;rw[pW _ _ _ _ ω]at SE;apply Qn hb;first|refine qa ?_|skip
  refine Bb [0,1,10,11] [(60,QT (decide (xe<=xf)&&!Qt dk[xf]! dk[a]!))] rfl ?_ ?_
  .by_cases cf:xe<=xf
   .have ef:decide (xe<=xf)=true:=QU cf;have g2f:=gf cf;apply QF hb uz;simp only[go_sem,NX,IP,ef,pa,g2f];apply Jb hb zU (vp dk[xf]! dk[a]!);apply ZA hb;exact QM
   .have ef:decide (xe<=xf)=false:=QI cf;apply QF hb uz;simp only[go_sem,ef];exact QM
  cases hB:(decide (xe<=xf)&&!Qt dk[xf]! dk[a]!)
  .rw[hB,Qc π]at SE;apply Qn hb;subst SE;have vz1:IntKind.i64.wrap ((xe:Int)+1)=((xe+1:Nat):Int):=Zu;by_cases cg:xf<xe
   .have eg:decide (xf<xe)=true:=QU cg;rw[Qd cg];apply Qg hb;simp only[go_sem,eg];have py:xf<d.size:=ω;apply QF hb ux;simp only[go_sem,Qe,NX,IP,py,pa,QE QfU,JK,ja];rw[jc g dk _ _ _ IP py pa];rw[<- pX,JK];first|exact⟨rfl,rfl⟩|rfl
   .have eg:decide (xf<xe)=false:=QI cg;have clt:=QuG cg;have px:xe<d.size:=ω;have py:xf<d.size:=ω;have vz2:IntKind.i64.wrap ((xf:Int) - 1)=((xf - 1:Nat):Int):=Zu;rw[Qc cg];apply Qg hb;simp only[go_sem,eg];apply QF hb ux;simp only[go_sem,Qe,NX,IP,px,py,QE QfU,JK,ja,vz1,vz2];rw[jc g dk _ _ _ IP px py,<- pX,JK];refine Z3 (λm st=>∃(d1:Array Int) (i j:Nat),d1.size=d.size/\a<i/\i<=j+1/\j<b/\m+(j+1 - i)<=b/\Sort.partLoop Qt a i j d1=Sort.partLoop Qt a (xe+1) (xf - 1) (Sort.swp dk xe xf)/\st=⟨[(0,.ref lo g 0 d.size),(1,Qa a),(10,Qa i),(11,Qa j)],h.set lo (Zd g d1)⟩) b (s0:=⟨[(0,.ref lo g 0 d.size),(1,Qa a),(10,Qa (xe+1:Nat)),(11,Qa (xf - 1:Nat))],h.set lo (Zd g (Sort.swp dk xe xf))⟩) QM ⟨_,xe+1,xf - 1,by rw[swp_size,IP],ω,ω,ω,ω,rfl,rfl⟩ ?_;rintro m _ hm ⟨d1,i,j,xP,NW,K7,hjb,cM,Zh,rfl⟩;have yX:=j8 (g:=g) (d:=d1) Ql;generalize hH:h.set lo (Zd g d1)=H at yX;have eQ:=Qb yX;rw[Sort.partLoop_eq]at Zh;have IL:=eP (λx=>Qt x d1[a]!) (λx=>!Qt x d1[a]!) (λx=>rfl) d1 i j ω K7;obtain⟨u1,u2,u3,u4⟩:=Sort.scanUp_spec (λx=>Qt x d1[a]!) d1 j _ i rfl;have u5:=u2 K7;generalize VH:Sort.scanUp (λx=>Qt x d1[a]!) d1 j i=i2 at *;obtain⟨w1,w2,w3,w4⟩:=Sort.scanDown_spec (λx=>!Qt x d1[a]!) d1 i2 j;have w5:=w2 u5;generalize V5:Sort.scanDown (λx=>!Qt x d1[a]!) d1 i2 j=j2 at *;apply Qn hb;refine Z3 (λm st=>∃xc:Nat,xc=i+m/\xc<=j+1/\Sort.scanUp (λx=>Qt x d1[a]!) d1 j xc=i2/\st=⟨[(0,.ref lo g 0 d.size),(1,Qa a),(10,Qa xc),(11,Qa j)],H⟩) d.size (s0:=⟨[(0,.ref lo g 0 d.size),(1,Qa a),(10,Qa i),(11,Qa j)],H⟩) QM ⟨i,rfl,ω,VH,rfl⟩ ?_;rintro mc _ xQ ⟨xc,cO,hyc,Dx,rfl⟩;have gc:xc<=j->xc<d.size:=ω;rw[Sort.scanUp]at Dx;apply Qn hb;first|refine qa ?_|skip
    refine Bb [0,1,10,11] [(112,QT (decide (xc<=j)&&Qt d1[xc]! d1[a]!))] rfl ?_ ?_
    .by_cases cc:xc<=j
     .have ec:decide (xc<=j)=true:=QU cc;have g2c:=gc cc;apply QF hb uy;simp only[go_sem,yX,xP,ec,pa,g2c];apply Jb hb zU (vp d1[xc]! d1[a]!);apply ZA hb;exact QM
     .have ec:decide (xc<=j)=false:=QI cc;apply QF hb uy;simp only[go_sem,ec];exact QM
    cases hB:(decide (xc<=j)&&Qt d1[xc]! d1[a]!)
    .rw[hB,Qc π]at Dx;apply Qn hb;subst Dx;apply Qn hb;refine Z3 (λm st=>∃xd:Nat,xd+m=j/\xc<=xd+1/\Sort.scanDown (λx=>!Qt x d1[a]!) d1 xc xd=j2/\st=⟨[(0,.ref lo g 0 d.size),(1,Qa a),(10,Qa xc),(11,Qa xd)],H⟩) d.size (s0:=⟨[(0,.ref lo g 0 d.size),(1,Qa a),(10,Qa xc),(11,Qa j)],H⟩) QM ⟨j,rfl,ω,V5,rfl⟩ ?_;rintro md _ hmd ⟨xd,hxd,SF,SG,rfl⟩;have gd:xc<=xd->xd<d.size:=ω;rw[pW _ _ _ _ ω]at SG;apply Qn hb;first|refine qa ?_|skip
     refine Bb [0,1,10,11] [(129,QT (decide (xc<=xd)&&!Qt d1[xd]! d1[a]!))] rfl ?_ ?_
     .by_cases cd:xc<=xd
      .have ed:decide (xc<=xd)=true:=QU cd;have g2d:=gd cd;apply QF hb uz;simp only[go_sem,yX,xP,ed,pa,g2d];apply Jb hb zU (vp d1[xd]! d1[a]!);apply ZA hb;exact QM
      .have ed:decide (xc<=xd)=false:=QI cd;apply QF hb uz;simp only[go_sem,ed];exact QM
     cases hB:(decide (xc<=xd)&&!Qt d1[xd]! d1[a]!)
     .rw[hB,Qc π]at SG;apply Qn hb;have CH:IntKind.i64.wrap ((xc:Int)+1)=((xc+1:Nat):Int):=Zu;subst SG;by_cases cg:xd<xc
      .have eg:decide (xd<xc)=true:=QU cg;rw[Qd cg]at Zh;apply Qg hb;simp only[go_sem,eg];apply Qn hb;have py:xd<d.size:=ω;apply QF hb ux;simp only[go_sem,Qe,yX,xP,py,pa,QE eQ,JK,ja];rw[jc g d1 _ _ _ xP py pa];rw[<- Zh,<- hH,JK];first|exact⟨rfl,rfl⟩|rfl
      .have eg:decide (xd<xc)=false:=QI cg;have clt:=IL cg;have px:xc<d.size:=ω;have py:xd<d.size:=ω;have SC:IntKind.i64.wrap ((xd:Int) - 1)=((xd - 1:Nat):Int):=Zu;rw[Qc cg]at Zh;apply Qg hb;simp only[go_sem,eg];apply QF hb ux;simp only[go_sem,Qe,yX,xP,px,py,QE eQ,JK,ja,CH,SC];rw[jc g d1 _ _ _ xP px py];refine⟨ω,_,?_,Sort.swp d1 xc xd,xc+1,xd - 1,by rw[swp_size,xP],ω,ω,ω,ω,Zh,rfl⟩;rw[<- hH,JK];exact QM
     .rw[hB,Qd rfl]at SG;have lqd:xc<=xd:=by
       rw[Zy]at hB;exact X8 hB.1
      have vd:IntKind.i64.wrap ((xd:Int) - 1)=((xd - 1:Nat):Int):=Zu;apply Qg hb;simp only[go_sem,vd];refine⟨ω,_,?_,xd - 1,ω,ω,SG,rfl⟩;exact QM
    .rw[hB,Qd rfl]at Dx;have lqc:xc<=j:=by
      rw[Zy]at hB;exact X8 hB.1
     have vc:IntKind.i64.wrap ((xc:Int)+1)=((xc+1:Nat):Int):=Zu;apply Qg hb;simp only[go_sem,vc];refine⟨ω,_,?_,xc+1,ω,ω,Dx,rfl⟩;exact QM
  .rw[hB,Qd rfl]at SE;have lqf:xe<=xf:=by
    rw[Zy]at hB;exact X8 hB.1
   have vf:IntKind.i64.wrap ((xf:Int) - 1)=((xf - 1:Nat):Int):=Zu;apply Qg hb;simp only[go_sem,vf];refine⟨ω,_,?_,xf - 1,ω,ω,SE,rfl⟩;exact QM
 .rw[hB,Qd rfl]at SD;have lqe:xe<=J0:=by
   rw[Zy]at hB;exact X8 hB.1
  have ve:IntKind.i64.wrap ((xe:Int)+1)=((xe+1:Nat):Int):=Zu;apply Qg hb;simp only[go_sem,ve];refine⟨ω,_,?_,xe+1,ω,ω,SD,rfl⟩;exact QM
end
def pY:∀(j:Nat) (d:Array Int),(Sort.shiftDown Qt j d).size=d.size
 | 0,d=>rfl
 | j+1,d=>by rw[Sort.shiftDown];split;rfl;rw[pY j,swp_size]
def QfV(b):∀(n j:Nat) (d:Array Int),b - j<=n->(Sort.shiftUp Qt b j d).size=d.size
 | n,j,d,hn=>by
  rw[Sort.shiftUp];split
  .split
   .rfl
   .obtain⟨n',rfl⟩:∃n',n=n'+1:=⟨n - 1,ω⟩;rw[QfV b n' _ _ ω,swp_size]
  .rfl
def QfW(d)(b):∀(n i:Nat),b - i<=n->i<=b->i<=Sort.scanSorted Qt d b i/\Sort.scanSorted Qt d b i<=b
 | n,i,hn,hi=>by
  rw[Sort.scanSorted];split
  .rename_i c;simp at c;obtain⟨n',rfl⟩:∃n',n=n'+1:=⟨n - 1,ω⟩;have:=QfW d b n' (i+1) ω ω;omega
  .omega
section
variable {h:List Ob}{lo g:Nat}{d:Array Int}(ho:h[lo]? = some (Zd g d))
include ho
theorem QuO(a b)(Vu:a<b)(Zp:b<=d.size)(hz:d.size<1000000000):
  QH prog 322 h [.ref lo g 0 d.size,Qa a,Qa b] (λdd h'=>dd=QT (Sort.partialInsertionSort Qt d a b).2/\h'=h.set lo (Zd g (Sort.partialInsertionSort Qt d a b).1)):=by
 have e0:IntKind.i64.wrap ((a:Int)+1)=((a+1:Nat):Int):=Zu;have eba:IntKind.i64.wrap ((b:Int) - a)=((b - a:Nat):Int):=Zu;unfold Sort.partialInsertionSort;refine QQ func322 ntmps322 results322 λbase w pl hb=>?_;have Ql:=Qb ho;simp only[go_sem,e0];refine Z3 (λm st=>∃(d1:Array Int) (x:Nat),d1.size=d.size/\a+1<=x/\x<=b/\m<=5/\Sort.partialIns Qt a b (5 - m) x d1=Sort.partialIns Qt a b 5 (a+1) d/\st=⟨[(0,.ref lo g 0 d.size),(1,Qa a),(2,Qa b),(7,Qa x),(8,Qa m)],h.set lo (Zd g d1)⟩) 5 (s0:=⟨[(0,.ref lo g 0 d.size),(1,Qa a),(2,Qa b),(7,Qa (a+1:Nat)),(8,Qa 0)],h.set lo (Zd g d)⟩) ?_ ⟨d,a+1,rfl,ω,ω,ω,rfl,rfl⟩ ?_
 .rw[vq ho];exact QM
 rintro m _ hm ⟨d1,i,ZZ,NW,hib,hm5,YF,rfl⟩;have Jj:=j8 (g:=g) (d:=d1) Ql;generalize hH:h.set lo (Zd g d1)=H at Jj;have CE:=Qb Jj;by_cases cm:m<5
 .have em:decide ((m:Int)<5)=true:=QU ω;obtain⟨sq,NY⟩:∃s,5 - m=s+1:=⟨5 - m - 1,ω⟩;have pZ:4 - m=sq:=ω;rw[NY,Sort.partialIns]at YF;dsimp only at YF;obtain⟨k1,k2⟩:=QfW d1 b _ i (QB _) hib;generalize hK:Sort.scanSorted Qt d1 b i=K at *;apply Qg hb;simp only[go_sem,em];refine Z3 (λn st=>∃x:Nat,x=i+n/\x<=b/\Sort.scanSorted Qt d1 b x=K/\st=⟨[(0,.ref lo g 0 d.size),(1,Qa a),(2,Qa b),(7,Qa x),(8,Qa m)],H⟩) d.size (s0:=⟨[(0,.ref lo g 0 d.size),(1,Qa a),(2,Qa b),(7,Qa i),(8,Qa m)],H⟩) QM ⟨i,rfl,hib,hK,rfl⟩ ?_;rintro n0 _ j9 ⟨x,hx,B4,SH,rfl⟩;have p5:IntKind.i64.wrap ((x:Int) - 1)=((x - 1:Nat):Int):=Zu;have p6:x - 1<d.size:=ω;have gx:x<b->x<d.size:=ω;rw[Sort.scanSorted]at SH;apply Qn hb;first|refine qa ?_|skip
  refine Bb [0,1,2,7,8] [(32,QT (decide (x<b)&&!Qt d1[x]! d1[x - 1]!))] rfl ?_ ?_
  .by_cases cx:x<b
   .have ex:decide (x<b)=true:=QU cx;have gx2:=gx cx;apply QF hb [0,1,2,3,4,5,6,7,8,9,10,11,12,1013,14,15];simp only[go_sem,Jj,ZZ,ex,p5,p6,gx2];apply Jb hb zU (vp d1[x]! d1[x - 1]!);apply ZA hb;exact QM
   .have ex:decide (x<b)=false:=QI cx;apply QF hb [0,1,2,3,4,5,6,7,8,9,10,11,12,1013,14,15];simp only[go_sem,ex];exact QM
  cases hB:(decide (x<b)&&!Qt d1[x]! d1[x - 1]!)
  .rw[hB,Qc π]at SH;subst SH;apply Qn hb;by_cases cb:x=b
   .have eT:((x:Int)==(b:Int))=true:=by rw[cb];exact Hj _
    rw[Qd cb]at YF;apply Qg hb;simp only[go_sem,eT];rw[<- YF,<- hH];first|exact⟨rfl,rfl⟩|rfl
   .have eT:((x:Int)==(b:Int))=false:=beq_eq_false_iff_ne.mpr ω;rw[Qc cb]at YF;by_cases Sx:b - a<50
    .have p7:decide (((b - a:Nat):Int)<50)=true:=QU ω;rw[Qd Sx]at YF;apply Qg hb;simp only[go_sem,eT,eba,p7];rw[<- YF,<- hH];first|exact⟨rfl,rfl⟩|rfl
    .have p7:decide (((b - a:Nat):Int)<50)=false:=QI ω;rw[Qc Sx]at YF;have px:x<d.size:=ω;apply Qg hb;simp only[go_sem,eT,eba,p7];refine Ey (⟨[(0,.ref lo g 0 d.size),(1,Qa a),(2,Qa b),(7,Qa x),(8,Qa m)],h.set lo (Zd g (Sort.swp d1 x (x - 1)))⟩) Q4 hb mixed [(0,true),(1,true),(2,true),(3,true),(5,true),(6,true),(7,true),(8,true),(9,true),(10,true),(11,true),(12,true),(13,true),(14,true)] [4,15,16,17] τ τ (λs hw=>Br hw rfl ?_) ?_
     rotate_left
     .simp only[go_sem,Qe,Jj,p5,px,p6,ZZ,QE CE,JK,ja];rw[jc g d1 _ _ _ ZZ px p6,<- hH,JK]
      repeat' refine And.intro ?_ ?_
      all_goals exact QM
     generalize KI:Sort.swp d1 x (x - 1)=d2 at *;have Jv:d2.size=d.size:=by rw[<- KI,swp_size,ZZ]
     have Jp:=j8 (g:=g) (d:=d2) Ql;have exa:IntKind.i64.wrap ((x:Int) - a)=((x - a:Nat):Int):=Zu;have ebx:IntKind.i64.wrap ((b:Int) - x)=((b - x:Nat):Int):=Zu;have p8:IntKind.i64.wrap ((x:Int)+1)=((x+1:Nat):Int):=Zu;generalize SI:(if x - a >= 2 then Sort.shiftDown Qt (x - 1) d2 else d2)=d3 at *;have Sz:d3.size=d.size:=by
      rw[<- SI];split
      .rw[pY,Jv]
      .exact Jv
     first|refine qa ?_|skip
     refine nD (⟨[(0,.ref lo g 0 d.size),(1,Qa a),(2,Qa b),(7,Qa x),(8,Qa m)],h.set lo (Zd g d3)⟩) ?_ ?_
     .by_cases cxa:x - a >= 2
      .have QhC:decide ((2:Int)<=((x - a:Nat):Int))=true:=QU ω;rw[Qd cxa]at SI;apply Qg hb;simp only[go_sem,exa,QhC,p5];rw[<- SI];refine Z3 (λn st=>∃(dd:Array Int) (y:Nat),dd.size=d.size/\y+n=x - 1/\Sort.shiftDown Qt y dd=Sort.shiftDown Qt (x - 1) d2/\st=⟨[(0,.ref lo g 0 d.size),(1,Qa a),(2,Qa b),(7,Qa x),(8,Qa m),(9,Qa y)],h.set lo (Zd g dd)⟩) d.size (s0:=⟨[(0,.ref lo g 0 d.size),(1,Qa a),(2,Qa b),(7,Qa x),(8,Qa m),(9,Qa (x - 1:Nat))],h.set lo (Zd g d2)⟩) QM ⟨d2,_,Jv,ω,rfl,rfl⟩ ?_;rintro n _ hn ⟨dd,y,Bt,hy,JX,rfl⟩;have EC:=j8 (g:=g) (d:=dd) Ql;generalize Bv:h.set lo (Zd g dd)=Hd at EC;have rb:=Qb EC;by_cases cy:1<=y
       .have ey:decide ((1:Int)<=(y:Int))=true:=QU ω;obtain⟨y',rfl⟩:∃y',y=y'+1:=⟨y - 1,ω⟩;rw[Sort.shiftDown]at JX;have CH:IntKind.i64.wrap (((y'+1:Nat):Int) - 1)=((y':Nat):Int):=Zu;have q1:(y'+1)<d.size:=ω;have q2:y'<d.size:=ω;apply Qg hb;simp only[go_sem,ey];apply QF hb [0,1,2,3,4,5,6,7,8,1009,10];simp only[go_sem,EC,Bt,CH,q1,q2];apply Jb hb zU (vp dd[y'+1]! dd[y']!);apply ZA hb;cases hl:Qt dd[y'+1]! dd[y']!
        .rw[hl,Fh,Qd rfl]at JX;simp only[go_sem];try (apply Qg hb;simp only[go_sem,Qe])
         first|rw[<- JX,<- Bv]|rw[<- Bv]
         exact QM
        .rw[hl,Ap,Qc π]at JX;simp only[go_sem];refine Ey (⟨[(0,.ref lo g 0 d.size),(1,Qa a),(2,Qa b),(7,Qa x),(8,Qa m),(9,Qa (y'+1:Nat))],h.set lo (Zd g (Sort.swp dd (y'+1) y'))⟩) Q4 hb mixed [(0,true),(1,true),(2,true),(3,true),(5,true),(6,true),(7,true),(8,true),(9,true),(10,true),(11,true),(12,true),(13,true),(14,true)] [4,15,16,17] τ τ (λs hw=>Br hw rfl ?_) ?_
         rotate_left
         .simp only[go_sem,Qe,EC,Bt,CH,q1,q2,QE rb,JK,ja];rw[jc g dd _ _ _ Bt q1 q2,<- Bv,JK]
          repeat' refine And.intro ?_ ?_
          all_goals exact QM
         apply Qg hb;simp only[go_sem,CH];refine⟨ω,_,?_,Sort.swp dd (y'+1) y',y',by rw[swp_size,Bt],ω,JX,rfl⟩;exact QM
       .have ey:decide ((1:Int)<=(y:Int))=false:=QI ω;obtain rfl:y=0:=ω;rw[Sort.shiftDown]at JX;apply Qn hb;try (apply Qg hb;simp only[go_sem,Qe])
        first|rw[<- JX,<- Bv]|rw[<- Bv]
        exact QM
      .have QhC:decide ((2:Int)<=((x - a:Nat):Int))=false:=QI ω;rw[Qc cxa]at SI;apply Qg hb;simp only[go_sem,exa,QhC];rw[<- SI];exact QM
     have rf:IntKind.i64.wrap ((m:Int)+1)=((m+1:Nat):Int):=Zu;by_cases cbx:b - x >= 2
     .have rh:decide ((2:Int)<=((b - x:Nat):Int))=true:=QU ω;rw[Qd cbx]at YF;apply Qg hb;simp only[go_sem,ebx,rh,p8];refine Z3 (λn st=>∃(dd:Array Int) (y:Nat),dd.size=d.size/\y=x+1+n/\y<=b/\Sort.shiftUp Qt b y dd=Sort.shiftUp Qt b (x+1) d3/\st=⟨[(0,.ref lo g 0 d.size),(1,Qa a),(2,Qa b),(7,Qa x),(8,Qa m),(10,Qa y)],h.set lo (Zd g dd)⟩) d.size (s0:=⟨[(0,.ref lo g 0 d.size),(1,Qa a),(2,Qa b),(7,Qa x),(8,Qa m),(10,Qa (x+1:Nat))],h.set lo (Zd g d3)⟩) QM ⟨d3,_,Sz,ω,ω,rfl,rfl⟩ ?_;rintro n _ hn ⟨dd,y,Bt,hy,hyb,JX,rfl⟩;have EC:=j8 (g:=g) (d:=dd) Ql;generalize Bv:h.set lo (Zd g dd)=Hd at EC;have rb:=Qb EC;by_cases cy:y<b
      .have ey:decide (y<b)=true:=QU ω;rw[Sort.shiftUp,Qd cy]at JX;have CH:IntKind.i64.wrap ((y:Int) - 1)=((y - 1:Nat):Int):=Zu;have SC:IntKind.i64.wrap ((y:Int)+1)=((y+1:Nat):Int):=Zu;have q1:y<d.size:=ω;have q2:(y - 1)<d.size:=ω;apply Qg hb;simp only[go_sem,ey];apply QF hb [0,1,2,3,4,5,6,7,8,1009,10];simp only[go_sem,EC,Bt,CH,q1,q2];apply Jb hb zU (vp dd[y]! dd[y - 1]!);apply ZA hb;cases hl:Qt dd[y]! dd[y - 1]!
       .rw[hl,Fh,Qd rfl]at JX;simp only[go_sem];try (apply Qg hb;simp only[go_sem])
        first|rw[<- JX,<- Bv]|rw[<- Bv]
        try simp only[rf]
        refine⟨ω,_,?_,dd,x,Bt,ω,ω,ω,by rw[pZ,JX];exact YF,rfl⟩;exact QM
       .rw[hl,Ap,Qc π]at JX;simp only[go_sem];refine Ey (⟨[(0,.ref lo g 0 d.size),(1,Qa a),(2,Qa b),(7,Qa x),(8,Qa m),(10,Qa (y:Nat))],h.set lo (Zd g (Sort.swp dd y (y - 1)))⟩) Q4 hb mixed [(0,true),(1,true),(2,true),(3,true),(5,true),(6,true),(7,true),(8,true),(9,true),(10,true),(11,true),(12,true),(13,true),(14,true)] [4,15,16,17] τ τ (λs hw=>Br hw rfl ?_) ?_
        rotate_left
        .simp only[go_sem,Qe,EC,Bt,CH,q1,q2,QE rb,JK,ja];rw[jc g dd _ _ _ Bt q1 q2,<- Bv,JK]
         repeat' refine And.intro ?_ ?_
         all_goals exact QM
        apply Qg hb;simp only[go_sem,SC];refine⟨ω,_,?_,Sort.swp dd y (y - 1),y+1,by rw[swp_size,Bt],ω,ω,JX,rfl⟩;exact QM
      .have ey:decide (y<b)=false:=QI ω;rw[Sort.shiftUp,Qc cy]at JX;apply Qg hb;simp only[go_sem,ey];try (apply Qg hb;simp only[go_sem])
       first|rw[<- JX,<- Bv]|rw[<- Bv]
       try simp only[rf]
       refine⟨ω,_,?_,dd,x,Bt,ω,ω,ω,by rw[pZ,JX];exact YF,rfl⟩;exact QM
     .have rh:decide ((2:Int)<=((b - x:Nat):Int))=false:=QI ω;rw[Qc cbx]at YF;apply Qg hb;simp only[go_sem,ebx,rh,rf];refine⟨ω,_,?_,d3,x,Sz,ω,ω,ω,by rw[pZ];exact YF,rfl⟩;exact QM
  .rw[hB,Qd rfl]at SH;have lq:x<b:=by
    rw[Zy]at hB;exact X8 hB.1
   have p8:IntKind.i64.wrap ((x:Int)+1)=((x+1:Nat):Int):=Zu;apply Qg hb;simp only[go_sem,p8];refine⟨ω,_,?_,x+1,ω,ω,SH,rfl⟩;exact QM
 .have em:decide ((m:Int)<5)=false:=QI ω;obtain rfl:m=5:=ω;rw[xg,Sort.partialIns]at YF;apply Qn hb;apply Qn hb;rw[<- YF,<- hH];first|exact⟨rfl,rfl⟩|rfl
end
def eU(n k)(h:2 ^ k<=n):Sort.bitsLen n=k+Sort.bitsLen (n / 2 ^ k):=by
 have e:∀m,Sort.bitsLen n<=m↔k+Sort.bitsLen (n / 2 ^ k)<=m:=by
  intro m;rw[Sort.bitsLen_le_iff];by_cases c:k<=m
  .obtain⟨j,rfl⟩:∃j,m=k+j:=⟨m - k,ω⟩;have h2:=Sort.bitsLen_le_iff (n / 2 ^ k) j;rw[Nat.div_lt_iff_lt_mul (Uw k),<- Nat.pow_add,Pp j k]at h2;rw[<- h2];omega
  .have:2 ^ m<=2 ^ k:=Nat.pow_le_pow_right π ω;constructor
   .intro hh;omega
   .intro hh;omega
 have a1:=(e (Sort.bitsLen n)).1 (QB _);have a2:=(e (k+Sort.bitsLen (n / 2 ^ k))).2 (QB _);omega
def eV(t:Array UInt8)(ht:(List.range 256).all (λi=>Nat.beq (t.getD i 0).toNat (Sort.bitsLen i))=true)(hs:t.size=256)(k i n)(hi:i<256)(hk:k<1000)(hn:Sort.bitsLen n=k+Sort.bitsLen i):
  IntKind.u8.wrap (i:Int)<(t.size:Int)/\D.raw (.int .i64 (IntKind.i64.wrap ((k:Int)+IntKind.i64.wrap ((t.getD (IntKind.u8.wrap (i:Int)).toNat 0).toNat:Int))))=D.raw (.int .i64 (Sort.bitsLen n)):=by
 have h1:=XK.1 ht i (Pj.2 hi);rw[Wa]at h1;have w:IntKind.u8.wrap (i:Int)=i:=by rw[IntKind.wrap_u8];omega
 rw[w,hs,show ((i:Int)).toNat=i from rfl,h1,hn];have h2:Sort.bitsLen i<=8:=(Sort.bitsLen_le_iff i 8).2 ω;refine⟨ω,?_⟩;have w2:IntKind.i64.wrap (Sort.bitsLen i:Int)=Sort.bitsLen i:=wrap64 ω ω;rw[w2,wrap64 ω ω];congr 2
def QuQ(n)(hn:n<4294967296):QW prog 222 [u64 n] (QN (Qa (Sort.bitsLen n))):=by
 have e1:decide ((4294967296:Int)<=n)=false:=QI ω;refine xT 0 func222 ntmps222 results222 λbase w hb=>?_;simp only[go_sem];have s1:((n:Int).fdiv (2 ^ min 16 64))=((n / 65536:Nat):Int):=Il n 16;have s2:∀m:Nat,((m:Int).fdiv (2 ^ min 8 64))=((m / 256:Nat):Int):=λm=>Il m 8;have w16:IntKind.i64.wrap 16=16:=rfl;have w24:IntKind.i64.wrap 24=24:=rfl;have w8:IntKind.i64.wrap 8=8:=rfl;by_cases c1:65536<=n
 .have d1:decide ((65536:Int)<=n)=true:=QU ω;by_cases c2:256<=n / 65536
  .have d2:decide ((256:Int)<=(n / 65536:Nat))=true:=QU ω;simp only[go_sem,e1,d1,s1,d2,s2,w16,w24];exact eV _ τ τ 24 (n / 65536 / 256) n ω π (by rw[eU n 16 ω,eU (n / 2 ^ 16) 8 ω,show n / 2 ^ 16 / 2 ^ 8=n / 65536 / 256 from rfl];omega)
  .have d2:decide ((256:Int)<=(n / 65536:Nat))=false:=QI ω;simp only[go_sem,e1,d1,s1,d2,w16];exact eV _ τ τ 16 (n / 65536) n ω π (by rw[eU n 16 ω])
 .have d1:decide ((65536:Int)<=n)=false:=QI ω;by_cases c2:256<=n
  .have d2:decide ((256:Int)<=n)=true:=QU ω;simp only[go_sem,e1,d1,d2,s2,w8];exact eV _ τ τ 8 (n / 256) n ω π (by rw[eU n 8 ω])
  .have d2:decide ((256:Int)<=n)=false:=QI ω;simp only[go_sem,e1,d1,d2];exact eV _ τ τ 0 n n ω π ω
def UP(n)(hn:n<4294967296):QW prog 174 [u64 n] (QN (Qa (Sort.bitsLen n))):=by
 refine xT 0 func174 ntmps174 results174 λbase w hb=>?_;simp only[go_sem];apply ZK hb Qqz (QuQ n hn);exact qQ hb
def QuS(n:Nat)(hn:n<1000000000):QW prog 265 [Qa n] (QN (u64 (2 ^ Sort.bitsLen n))):=by
 have w1:IntKind.u64.wrap (n:Int)=(n:Int):=η;have hb:=(Sort.bitsLen_le_iff n 30).2 ω;have hp:2 ^ Sort.bitsLen n<=2 ^ 30:=Nat.pow_le_pow_right π hb;have w2:IntKind.u64.wrap (1*2 ^ min (Sort.bitsLen n) 64)=((2 ^ Sort.bitsLen n:Nat):Int):=by
  rw[Nat.min_eq_left ω,Int.one_mul,show (2:Int) ^ Sort.bitsLen n=((2 ^ Sort.bitsLen n:Nat):Int) by push_cast;rfl,IntKind.wrap_u64];generalize 2 ^ Sort.bitsLen n=p at *;omega
 refine xT 0 func265 ntmps265 results265 λbase w hb=>?_;simp only[go_sem];simp only[go_sem,w1];apply ZK hb Qdr (UP n ω);apply Qg hb;simp only[go_sem,w2]
@[go_sem] def GB(n:Nat):Ob:=⟨.one,0,1,1,λ_=>[u64 n]⟩
def QuT{h:List Ob}{sp}(n)(xO:h[sp]? = some (GB n))(hn:n<18446744073709551616):
  QH prog 266 h [.ptr sp 0 0 0] (λdd h'=>dd=u64 (Sort.xorNextN n)/\h'=h.set sp (GB (Sort.xorNextN n))):=by
 refine QQ func266 ntmps266 results266 λbase w pl hb=>?_;have IM:=Qb xO;simp only[go_sem];have x1:∀a:Nat,a<18446744073709551616->bits .xor .u64 (a:Int) (IntKind.u64.wrap ((a:Int)*2 ^ min 13 64))=((a ^^^ (a*8192 % 18446744073709551616):Nat):Int):=λa ha=>by
  rw[show IntKind.u64.wrap ((a:Int)*2 ^ min 13 64)=((a*8192 % 18446744073709551616:Nat):Int) from RL a 8192];exact u64_xor_nat _ _ ha (X6 _ π)
 have x2:∀a:Nat,a<18446744073709551616->bits .xor .u64 (a:Int) ((a:Int).fdiv (2 ^ min 7 64))=((a ^^^ (a / 128):Nat):Int):=λa ha=>by
  rw[show (a:Int).fdiv (2 ^ min 7 64)=((a / 128:Nat):Int) from Il a 7];exact u64_xor_nat _ _ ha ω
 have x3:∀a:Nat,a<18446744073709551616->bits .xor .u64 (a:Int) (IntKind.u64.wrap ((a:Int)*2 ^ min 17 64))=((a ^^^ (a*131072 % 18446744073709551616):Nat):Int):=λa ha=>by
  rw[show IntKind.u64.wrap ((a:Int)*2 ^ min 17 64)=((a*131072 % 18446744073709551616:Nat):Int) from RL a 131072];exact u64_xor_nat _ _ ha (X6 _ π)
 have ha:n ^^^ (n*8192 % 18446744073709551616)<18446744073709551616:=Px (n:=64) ω ω;have WN:(n ^^^ (n*8192 % 18446744073709551616)) ^^^ ((n ^^^ (n*8192 % 18446744073709551616)) / 128)<18446744073709551616:=Px (n:=64) ha ω;unfold Sort.xorNextN;dsimp only;apply QF hb ot;simp only[go_sem,xO,x1 n hn];generalize n ^^^ (n*8192 % 18446744073709551616)=n1 at *;apply QF hb ot;simp only[go_sem,Qe,QE IM,JK,x2 n1 ha];generalize n1 ^^^ (n1 / 128)=n2 at *;apply QF hb ot;simp only[go_sem,Qe,QE IM,JK,x3 n2 WN];try exact⟨rfl,rfl⟩
def yY(a L M idx:Nat)(s0:UInt64 × Array Int):Nat->UInt64 × Array Int
 | 0=>s0
 | k+1=>Sort.breakStep a L M (yY a L M idx s0 k) (idx+k)
def ri(a L M idx)(s0:UInt64 × Array Int):∀k,(yY a L M idx s0 k).2.size=s0.2.size
 | 0=>rfl
 | k+1=>by
  rw[yY,Sort.breakStep];dsimp only;rw[swp_size,ri a L M idx s0 k]
def Qf5(d)(a b)(h:b - a >= 8):Sort.breakPatterns d a b=(yY a (b - a) (1 <<< Sort.bitsLen (b - a)) (a+(b - a) / 4*2 - 1) (UInt64.ofNat (b - a),d) 3).2:=by
 unfold Sort.breakPatterns;dsimp only;rw[Qd h];rfl
section
variable {h:List Ob}{lo g:Nat}{d:Array Int}(ho:h[lo]? = some (Zd g d))
include ho
theorem QuU(a b)(Vu:a<b)(Zp:b<=d.size)(hz:d.size<1000000000):
  QH prog 319 h [.ref lo g 0 d.size,Qa a,Qa b] (λdd h'=>dd=.tup []/\∃t,h'=h.set lo (Zd g (Sort.breakPatterns d a b))++t):=by
 have e0:IntKind.i64.wrap ((b:Int) - a)=((b - a:Nat):Int):=Zu;by_cases c8:b - a >= 8
 .rw[Qf5 d a b c8];have d8:decide ((8:Int)<=(b - a:Nat))=true:=QU ω;generalize hL:b - a=L at *;have hM1:=Sort.two_pow_bitsLen_le (n:=L) ω;have hM0:=Uw (Sort.bitsLen L);rw[show 1 <<< Sort.bitsLen L=2 ^ Sort.bitsLen L by rw[Nat.shiftLeft_eq,Me]];have f0:((L:Int)).tdiv 4=((L / 4:Nat):Int):=rfl;have f1:IntKind.i64.wrap (((L / 4:Nat):Int))=((L / 4:Nat):Int):=by rw[wrap64 ω ω]
  have f2:IntKind.i64.wrap (((L / 4:Nat):Int)*2)=((L / 4*2:Nat):Int):=Zu;have f3:IntKind.i64.wrap ((a:Int)+(L / 4*2:Nat))=((a+L / 4*2:Nat):Int):=Zu;have f4:IntKind.i64.wrap (((a+L / 4*2:Nat):Int) - 1)=((a+L / 4*2 - 1:Nat):Int):=Zu;have f5:IntKind.i64.wrap (((a+L / 4*2:Nat):Int)+1)=((a+L / 4*2+1:Nat):Int):=Zu;have f6:IntKind.u64.wrap (L:Int)=(L:Int):=η;refine QQ func319 ntmps319 results319 λbase w pl hb=>?_;have Ql:=Qb ho;simp only[go_sem,Qe,e0,d8,f6];apply ZK hb Qq3 (QuS L ω);apply Qg hb;simp only[go_sem,f0,f1,f2,f3,f4];generalize hM:2 ^ Sort.bitsLen L=M at *;generalize hS:(UInt64.ofNat L,d)=s0;have Yk:s0.2.size=d.size:=by rw[<- hS]
  have NZ:s0.1.toNat=L:=by rw[<- hS];simp;omega
  have Iw:s0.2=d:=by rw[<- hS]
  refine Z3 (λm st=>m<=3/\st=⟨[(0,.ref lo g 0 d.size),(1,Qa a),(6,Qa L),(7,.ptr h.length 0 0 0),(8,u64 M),(9,Qa (a+L / 4*2 - 1+m:Nat))],h.set lo (Zd g (yY a L M (a+L / 4*2 - 1) s0 m).2)++[GB (yY a L M (a+L / 4*2 - 1) s0 m).1.toNat]⟩) 3 (s0:=⟨[(0,.ref lo g 0 d.size),(1,Qa a),(6,Qa L),(7,.ptr h.length 0 0 0),(8,u64 M),(9,Qa (a+L / 4*2 - 1+0:Nat))],h.set lo (Zd g (yY a L M (a+L / 4*2 - 1) s0 0).2)++[GB (yY a L M (a+L / 4*2 - 1) s0 0).1.toNat]⟩) ?_ ⟨ω,rfl⟩ ?_
  .rw[yY,Iw,NZ,vq ho];exact QM
  rintro m _ hm ⟨Ea,rfl⟩;have Ju:=ri a L M (a+L / 4*2 - 1) s0 m;rw[Yk]at Ju;by_cases cm:m<3
  .have eW:yY a L M (a+L / 4*2 - 1) s0 (m+1)=Sort.breakStep a L M (yY a L M (a+L / 4*2 - 1) s0 m) (a+L / 4*2 - 1+m):=rfl;generalize ZO:yY a L M (a+L / 4*2 - 1) s0 m=sm at *;obtain⟨r,dm⟩:=sm;dsimp only at Ju ⊢;have XF:=j8 (g:=g) (d:=dm) Ql;have j4:(h.set lo (Zd g dm)).length=h.length:=Wu;generalize hH:h.set lo (Zd g dm)=H at *;have GC:=Qb XF;have Zq:lo<h.length:=Ql;rw[<- j4];have g1:(H++[GB r.toNat])[H.length]? = some (GB r.toNat):=σ;have hx:=Sort.xorNext_toNat r;have Kc:=r.toNat_lt;have zQ:=Sort.xorNextN_lt r.toNat Kc;have g2:∀o o':Ob,(H++[o]).set H.length o'=H++[o']:=λo o'=>by rw[bF rfl];rfl
   have c1:decide (a+L / 4*2 - 1+m<=a+L / 4*2+1)=true:=QU ω;apply Qg hb;simp only[go_sem,f0,f1,f2,f3,f5,c1];refine Zw hb Qq4 (QuT r.toNat g1 Kc) λd h hR=>?_;obtain⟨rfl,rfl⟩:=hR;apply Qg hb;simp only[go_sem,g2];have wM:IntKind.u64.wrap ((M:Int) - 1)=((M - 1:Nat):Int):=η;generalize hxx:Sort.xorNextN r.toNat=x at *;have wA:bits .and .u64 (x:Int) ((M - 1:Nat):Int)=((x &&& (M - 1):Nat):Int):=u64_and_nat x (M - 1) zQ ω;have yb:x &&& (M - 1)<=M - 1:=Nat.and_le_right;generalize hy:x &&& (M - 1)=y at *;have wI:IntKind.i64.wrap ((y:Nat):Int)=((y:Nat):Int):=by rw[wrap64 ω ω]
   have k0:IntKind.i64.wrap (((y:Nat):Int) - L)=((y - L:Nat):Int)\/¬ L<=y:=by
    by_cases q:L<=y
    .left;rw[wrap64 ω ω];omega
    .right;exact q
   have k4:IntKind.i64.wrap (((a+L / 4*2 - 1+m:Nat):Int)+1)=((a+L / 4*2 - 1+(m+1):Nat):Int):=Zu;simp only[go_sem,wM,wA,wI];by_cases cL:L<=y
   .replace k0:=k0.resolve_right (λq=>q cL);have c2:decide (L<=y)=true:=QU cL;have KL:Sort.breakStep a L M (r,dm) (a+L / 4*2 - 1+m)=(Sort.xorNext r,Sort.swp dm (a+L / 4*2 - 1+m) (a+(y - L))):=by
     unfold Sort.breakStep;dsimp only;rw[hx,hy,Qd cL]
    have k1:a+L / 4*2 - 1+m<d.size:=ω;have k2:a+(y - L)<d.size:=ω;have k3:IntKind.i64.wrap ((a:Int)+((y - L):Nat))=((a+(y - L):Nat):Int):=Zu;simp only[go_sem,c2,k0];refine Ey (⟨[(0,.ref lo g 0 d.size),(1,Qa a),(6,Qa L),(7,.ptr H.length 0 0 0),(8,u64 M),(9,Qa (a+L / 4*2 - 1+m:Nat))],H.set lo (Zd g (Sort.swp dm (a+L / 4*2 - 1+m) (a+(y - L))))++[GB x]⟩) Q4 hb mixed [(0,true),(1,true),(2,true),(3,true),(4,true),(6,true),(7,true),(8,true),(9,true),(10,true),(11,true),(12,true),(13,true),(14,true),(15,true),(16,true)] [5,17,18,19] τ τ (λs hw=>Br hw rfl ?_) ?_
    rotate_left
    .simp only[go_sem,Qe,XF,GC,Ju,k1,k2,k3,QG GC,Cd GC,QE GC,JK,ja,Wu];rw[jc g dm _ _ _ Ju k1 k2]
     repeat' refine And.intro ?_ ?_
     all_goals exact QM
    apply Qg hb;simp only[go_sem,k4];refine⟨ω,_,?_,ω,rfl⟩;rw[eW,KL,<- hH,JK,hx];rw[<- hH]at j4;rw[j4];exact QM
   .have c2:decide (L<=y)=false:=QI cL;have KL:Sort.breakStep a L M (r,dm) (a+L / 4*2 - 1+m)=(Sort.xorNext r,Sort.swp dm (a+L / 4*2 - 1+m) (a+y)):=by
     unfold Sort.breakStep;dsimp only;rw[hx,hy,Qc cL]
    have k1:a+L / 4*2 - 1+m<d.size:=ω;have k2:a+y<d.size:=ω;have k3:IntKind.i64.wrap ((a:Int)+(y:Nat))=((a+y:Nat):Int):=Zu;simp only[go_sem,c2];refine Ey (⟨[(0,.ref lo g 0 d.size),(1,Qa a),(6,Qa L),(7,.ptr H.length 0 0 0),(8,u64 M),(9,Qa (a+L / 4*2 - 1+m:Nat))],H.set lo (Zd g (Sort.swp dm (a+L / 4*2 - 1+m) (a+y)))++[GB x]⟩) Q4 hb mixed [(0,true),(1,true),(2,true),(3,true),(4,true),(6,true),(7,true),(8,true),(9,true),(10,true),(11,true),(12,true),(13,true),(14,true),(15,true),(16,true)] [5,17,18,19] τ τ (λs hw=>Br hw rfl ?_) ?_
    rotate_left
    .simp only[go_sem,Qe,XF,GC,Ju,k1,k2,k3,QG GC,Cd GC,QE GC,JK,ja,Wu];rw[jc g dm _ _ _ Ju k1 k2]
     repeat' refine And.intro ?_ ?_
     all_goals exact QM
    apply Qg hb;simp only[go_sem,k4];refine⟨ω,_,?_,ω,rfl⟩;rw[eW,KL,<- hH,JK,hx];rw[<- hH]at j4;rw[j4];exact QM
  .obtain rfl:m=3:=ω;have c1:decide (a+L / 4*2 - 1+2<=a+L / 4*2)=false:=QI ω;apply Qg hb;simp only[go_sem,f0,f1,f2,f3,f5,c1];try exact⟨_,rfl⟩
 .have d8:decide ((8:Int)<=(b - a:Nat))=false:=QI ω;have e:Sort.breakPatterns d a b=d:=by
   unfold Sort.breakPatterns;dsimp only;rw[Qc c8]
  rw[e];refine QQ func319 ntmps319 results319 λbase w pl hb=>?_;have Ql:=Qb ho;simp only[go_sem,e0,d8];exact⟨[],by rw[JI];exact(vq ho).symm⟩
end
def Qf7(a b):∀(n i:Nat) (d:Array Int),b - i<=n->(Sort.insOuter Qt a b i d).size=d.size
 | n,i,d,hn=>by
  rw[Sort.insOuter];split
  .obtain⟨n',rfl⟩:∃n',n=n'+1:=⟨n - 1,ω⟩;rw[Qf7 a b n' _ _ ω,QfN]
  .rfl
def QuV(d:Array Int)(a b:Nat):(Sort.insertionSort Qt d a b).size=d.size:=Qf7 a b _ _ d (QB _)
def Qf8(first):∀(k:Nat) (d:Array Int),(Sort.heapPop Qt first k d).size=d.size
 | 0,d=>rfl
 | k+1,d=>by rw[Sort.heapPop,Qf8 first k,eO,swp_size]
def QuW(d:Array Int)(a b:Nat):(Sort.heapSort Qt d a b).size=d.size:=by rw[Sort.heapSort,Qf8,QfQ]
def QuX(d:Array Int)(a b:Nat):(Sort.breakPatterns d a b).size=d.size:=by
 by_cases c:b - a >= 8
 .rw[Qf5 d a b c,ri]
 .unfold Sort.breakPatterns;dsimp only;rw[Qc c]
def Qf9:∀(n i j:Nat) (d:Array Int),j - i<=n->(Sort.reverseLoop i j d).size=d.size
 | n,i,j,d,hn=>by
  rw[Sort.reverseLoop];split
  .obtain⟨n',rfl⟩:∃n',n=n'+1:=⟨n - 1,ω⟩;rw[Qf9 n' _ _ _ ω,swp_size]
  .rfl
def QuY(d:Array Int)(a b:Nat):(Sort.reverseRange d a b).size=d.size:=Qf9 _ _ _ d (QB _)
def Qga(a b):∀(s i:Nat) (d:Array Int),(Sort.partialIns Qt a b s i d).1.size=d.size
 | 0,i,d=>rfl
 | s+1,i,d=>by
  rw[Sort.partialIns];dsimp only;split
  .rfl
  .split
   .rfl
   .rw[Qga a b s];have e:∀dd:Array Int,(if b - Sort.scanSorted Qt d b i >= 2 then Sort.shiftUp Qt b (Sort.scanSorted Qt d b i+1) dd else dd).size=dd.size:=λdd=>by
     split
     .exact QfV b _ _ _ (QB _)
     .rfl
    rw[e];split
    .rw[pY,swp_size]
    .rw[swp_size]
def rj(d:Array Int)(a b p:Nat):(Sort.partitionEqual Qt d a b p).2.size=d.size:=by
 rw[Sort.partitionEqual,QfR a _ _ _ _ (QB _),swp_size]
def Qsu(d:Array Int)(a b p:Nat):(Sort.partition Qt d a b p).2.2.size=d.size:=by
 rw[Sort.partition_arr,swp_size,QfS a _ _ _ _ (QB _),swp_size]
def Qgb(d:Array Int)(a b l)(wb wp:Bool):(Sort.rd Qt d a b l wb wp).d1.size=d.size/\(Sort.rd Qt d a b l wb wp).d2.size=d.size/\(Sort.rd Qt d a b l wb wp).pi.1.size=d.size:=by
 have h1:(Sort.rd Qt d a b l wb wp).d1.size=d.size:=by
  cases wb
  .exact QuX d a b
  .rfl
 have h2:(Sort.rd Qt d a b l wb wp).d2.size=d.size:=by
  by_cases hh:(Sort.rd Qt d a b l wb wp).c.2=.decreasing
  .rw[(Sort.rd_dec hh).1,QuY,h1]
  .rw[(Sort.rd_not hh).1,h1]
 refine⟨h1,h2,?_⟩;cases hc:(wb&&wp&&decide ((Sort.rd Qt d a b l wb wp).hint=.increasing))
 .rw[Sort.rd_pi_no hc,h2]
 .rw[Sort.rd_pi_yes hc,Sort.partialInsertionSort,Qga,h2]
def Qgc(a):∀(n i j:Nat) (d:Array Int),j+1 - i<=n->a<i->i<=j+1->a<(Sort.partEqLoop Qt a i j d).1/\(Sort.partEqLoop Qt a i j d).1<=j+1
 | n,i,j,d,hn,NW,K7=>by
  have IL:=eP (λx=>!Qt d[a]! x) (λx=>Qt d[a]! x) (λx=>σ) d i j ω K7;obtain⟨u1,u2,u3,u4⟩:=Sort.scanUp_spec (λx=>!Qt d[a]! x) d j _ i rfl;obtain⟨v1,v2,v3,v4⟩:=Sort.scanDown_spec (λx=>Qt d[a]! x) d (Sort.scanUp (λx=>!Qt d[a]! x) d j i) j;have u5:=u2 K7;rw[Sort.partEqLoop_eq];split
  .exact⟨by dsimp only;omega,u5⟩
  .rename_i h;have h2:=IL h;have:=Sort.partEqLoop_guard Qt a i j d h;obtain⟨n',rfl⟩:∃n',n=n'+1:=⟨n - 1,ω⟩;obtain⟨r1,r2⟩:=Qgc a n' _ _ (Sort.swp d (Sort.scanUp (λx=>!Qt d[a]! x) d j i) (Sort.scanDown (λx=>Qt d[a]! x) d (Sort.scanUp (λx=>!Qt d[a]! x) d j i) j)) (show (Sort.scanDown (λx=>Qt d[a]! x) d (Sort.scanUp (λx=>!Qt d[a]! x) d j i) j - 1)+1 - (Sort.scanUp (λx=>!Qt d[a]! x) d j i+1)<=n' by omega) ω ω;exact⟨r1,ω⟩
def QuZ(d)(a b p:Nat)(Vu:a<b):a<(Sort.partitionEqual Qt d a b p).1/\(Sort.partitionEqual Qt d a b p).1<=b:=by
 have:=Qgc a _ (a+1) (b - 1) (Sort.swp d a p) (QB _) ω ω;rw[Sort.partitionEqual];omega
def Qgd:Sort.SWO Qt:=⟨λx=>by simp[Qt],λx y z h1 h2=>by simp[Qt]at *;omega,λx y z h1 h2=>by simp[Qt]at *;omega⟩
def Qu0(d:Array Int)(a b p:Nat)(h1:a<=p)(h2:p<b)(hb:b<=d.size):a<=(Sort.partition Qt d a b p).1/\(Sort.partition Qt d a b p).1<b:=by
 have:=Sort.partition_holds Qt Qgd d a b p h1 h2 hb;exact⟨this.1,this.2.1⟩
def Qu1(d)(a b l)(wb wp:Bool)(Vu:a<b):a<=(Sort.rd Qt d a b l wb wp).pivot/\(Sort.rd Qt d a b l wb wp).pivot<b:=by
 have h:=Sort.choosePivot_holds Qt (Sort.rd Qt d a b l wb wp).d1 a b Vu;rw[<- Sort.rd_c]at h;by_cases hh:(Sort.rd Qt d a b l wb wp).c.2=.decreasing
 .rw[(Sort.rd_dec hh).2.1];omega
 .rw[(Sort.rd_not hh).2.1];exact h
def GD:∀(n:Nat) (d:Array Int) (a b l:Nat) (wb wp:Bool),b - a<=n->(Sort.pdq Qt d a b l wb wp).size=d.size
 | n,d,a,b,l,wb,wp,hn=>by
  obtain⟨z1,z2,z3⟩:=Qgb d a b l wb wp;rw[Sort.pdq_unfold];split
  .exact QuV d a b
  .split
   .exact QuW d a b
   .obtain⟨n',rfl⟩:∃n',n=n'+1:=⟨n - 1,ω⟩;split
    .exact z3
    .split
     .split
      .rename_i h;rw[GD n' _ _ _ _ _ _ ω,rj,z3]
      .rw[rj,z3]
     .split
      .rename_i h;split
       .rw[GD n' _ _ _ _ _ _ ω,GD n' _ _ _ _ _ _ ω,Qsu,z3]
       .rw[GD n' _ _ _ _ _ _ ω,GD n' _ _ _ _ _ _ ω,Qsu,z3]
      .rw[Qsu,z3]
def Qge(n:Nat):Prop:=∀(h:List Ob) (lo g:Nat) (d:Array Int),h[lo]? = some (Zd g d)->∀a b l:Nat,a<=b->b<=d.size->l<1000->d.size<1000000000->b - a<n ->
 QH prog 299 h [.ref lo g 0 d.size,Qa a,Qa b,Qa l] (λdd h'=>dd=.tup []/\∃t,h'=h.set lo (Zd g (Sort.pdq Qt d a b l true true))++t)
def ED{h t:List Ob}{lo}{x y}(hl:lo<h.length):(h.set lo x++t).set lo y=h.set lo y++t:=by
 rw[Us _ _ (by simpa using hl),JK]
def SJ{h t:List Ob}{lo}{x}(hl:lo<h.length):(h.set lo x++t)[lo]? = some x:=by
 rw[JC (by simpa using hl),QE hl]
def Qgf(c:Sort.Hint)(k:Sort.Hint):((Ez c:Int)==(Ez k:Int))=decide (c=k):=by cases c<;>cases k<;>rfl
def Qu2(n:Nat)(IH:Qge n){h:List Ob}{lo g:Nat}{d:Array Int}(ho:h[lo]? = some (Zd g d))(a b l:Nat)(Vu:a<=b)(Zp:b<=d.size)(hl:l<1000)(hz:d.size<1000000000)(hn:b - a<n+1):
  QH prog 299 h [.ref lo g 0 d.size,Qa a,Qa b,Qa l] (λdd h'=>dd=.tup []/\∃t,h'=h.set lo (Zd g (Sort.pdq Qt d a b l true true))++t):=by
 refine QQ func299 ntmps299 results299 λbase w pl hb=>?_;have Ql:=Qb ho;simp only[go_sem];refine Z3 (λm st=>∃(d1:Array Int) (a1 b1 l1:Nat) (wb wp:Bool) (t:List Ob),d1.size=d.size/\a1<=b1/\b1<=d.size/\l1<1000/\m+(b1 - a1)<=b - a/\Sort.pdq Qt d1 a1 b1 l1 wb wp=Sort.pdq Qt d a b l true true/\st=⟨[(0,.ref lo g 0 d.size),(1,Qa a1),(2,Qa b1),(3,Qa l1),(8,QT wb),(9,QT wp)],h.set lo (Zd g d1)++t⟩) (b - a) (s0:=⟨[(0,.ref lo g 0 d.size),(1,Qa a),(2,Qa b),(3,Qa l),(8,QT true),(9,QT true)],h.set lo (Zd g d)++[]⟩) ?_ ⟨d,a,b,l,true,true,[],rfl,Vu,Zp,hl,ω,rfl,rfl⟩ ?_
 .rw[vq ho,JI];exact QM
 rintro m _ hm ⟨d1,a1,b1,l1,wb,wp,t1,ZZ,QFi,QFj,Jj,cM,qT,rfl⟩;have e0:IntKind.i64.wrap ((b1:Int) - a1)=((b1 - a1:Nat):Int):=Zu;have rk:(h.set lo (Zd g d1)++t1)[lo]? = some (Zd g d1):=SJ Ql;rw[Sort.pdq_unfold]at qT;by_cases c12:b1 - a1<=12
 .have d12:decide (((b1 - a1:Nat):Int)<=12)=true:=QU ω;rw[Qd c12]at qT;apply Qg hb;simp only[go_sem,e0,d12];refine Zw hb Qri (ZZ▸Quv rk a1 b1 ω ω ω) λd h hR=>?_;obtain⟨rfl,rfl⟩:=hR;apply Qn hb;refine⟨t1,?_⟩;rw[<- qT];exact ED Ql
 .have d12:decide (((b1 - a1:Nat):Int)<=12)=false:=QI ω;rw[Qc c12]at qT;by_cases cl:l1=0
  .have dl:((l1:Int)==0)=true:=by rw[cl];rfl
   rw[Qd cl]at qT;apply Qg hb;simp only[go_sem,e0,d12,dl];refine Zw hb Qrj (ZZ▸Quw rk a1 b1 ω ω ω) λd h hR=>?_;obtain⟨rfl,rfl⟩:=hR;apply Qn hb;refine⟨t1,?_⟩;rw[<- qT];exact ED Ql
  .have dl:((l1:Int)==0)=false:=beq_eq_false_iff_ne.mpr ω;rw[Qc cl]at qT;refine HU Q4 hb 30 ?_;simp only[go_sem,e0,d12,dl];obtain⟨z1,z2,z3⟩:=Qgb d1 a1 b1 l1 wb wp;have QFk:=Sort.rd_lim_le (lt:=Qt) (d:=d1) (a:=a1) (b:=b1) (limit:=l1) (wb:=wb) (wp:=wp);have N3:=Qu1 d1 a1 b1 l1 wb wp ω;rw[ZZ]at z1 z2 z3;first|refine qa ?_|skip
   refine eN (λst=>∃t,st=⟨[(0,.ref lo g 0 d.size),(1,Qa a1),(2,Qa b1),(3,Qa (Sort.rd Qt d1 a1 b1 l1 wb wp).lim),(8,QT wb),(9,QT wp),(10,Qa (b1 - a1:Nat))],h.set lo (Zd g (Sort.rd Qt d1 a1 b1 l1 wb wp).d1)++t⟩) ?_ ?_
   .cases wb
    .have vl:IntKind.i64.wrap ((l1:Int) - 1)=((l1 - 1:Nat):Int):=Zu;rw[Sort.rd_false.1,Sort.rd_false.2];apply Qn hb;refine Zw hb Qrk (ZZ▸QuU rk a1 b1 ω ω ω) λd h hR=>?_;obtain⟨rfl,t2,rfl⟩:=hR;apply Qg hb;simp only[go_sem,vl];refine⟨_,⟨t1++t2,rfl⟩,?_⟩;rw[ED Ql,V9];exact QM
    .rw[Sort.rd_true.1,Sort.rd_true.2];apply Qn hb;refine⟨_,⟨t1,rfl⟩,?_⟩;exact QM
   have hc:=Sort.rd_c (lt:=Qt) (d:=d1) (a:=a1) (b:=b1) (limit:=l1) (wb:=wb) (wp:=wp);have Qu3:=Sort.rd_dec (lt:=Qt) (d:=d1) (a:=a1) (b:=b1) (limit:=l1) (wb:=wb) (wp:=wp);have Qu4:=Sort.rd_not (lt:=Qt) (d:=d1) (a:=a1) (b:=b1) (limit:=l1) (wb:=wb) (wp:=wp);have Qu5:=Sort.rd_pi_yes (lt:=Qt) (d:=d1) (a:=a1) (b:=b1) (limit:=l1) (wb:=wb) (wp:=wp);have ZP:=Sort.rd_pi_no (lt:=Qt) (d:=d1) (a:=a1) (b:=b1) (limit:=l1) (wb:=wb) (wp:=wp);have YJ:=Sort.choosePivot_holds Qt (Sort.rd Qt d1 a1 b1 l1 wb wp).d1 a1 b1 ω;rw[<- hc]at YJ;generalize Sort.rd Qt d1 a1 b1 l1 wb wp=R at *;rintro _ ⟨t2,rfl⟩;apply Qn hb;refine Zw hb Qrl (z1▸Qut (SJ (x:=Zd g R.d1) Ql) a1 b1 ω ω ω) λd h hR=>?_;obtain⟨rfl,t3,rfl⟩:=hR;refine HU Q4 hb 12 ?_;simp only[go_sem,V9];rw[<- hc];first|refine qa ?_|skip
   refine eN (λst=>∃t,st=⟨[(0,.ref lo g 0 d.size),(1,Qa a1),(2,Qa b1),(3,Qa R.lim),(8,QT wb),(9,QT wp),(10,Qa (b1 - a1:Nat)),(11,Qa R.pivot),(12,Qa (Ez R.hint:Nat))],h.set lo (Zd g R.d2)++t⟩) ?_ ?_
   .by_cases hh:R.c.2=.decreasing
    .obtain⟨r1,r2,r3⟩:=Qu3 hh;have b2:((Ez R.c.2:Int)==2)=true:=by rw[hh];rfl
     have v1:IntKind.i64.wrap ((b1:Int) - 1)=((b1 - 1:Nat):Int):=Zu;have v2:IntKind.i64.wrap ((R.c.1:Int) - a1)=((R.c.1 - a1:Nat):Int):=Zu;have v3:IntKind.i64.wrap (((b1 - 1:Nat):Int) - (R.c.1 - a1:Nat))=(((b1 - 1) - (R.c.1 - a1):Nat):Int):=Zu;apply Qg hb;simp only[go_sem,b2];refine Zw hb Qrm (z1▸Quu (SJ (x:=Zd g R.d1) Ql) a1 b1 ω ω ω) λd h hR=>?_;obtain⟨rfl,rfl⟩:=hR;apply Qg hb;simp only[go_sem,v1,v2,v3];rw[r1,r2,r3];refine⟨_,⟨t2++t3,rfl⟩,?_⟩;rw[ED Ql];exact Qz.frame (by simp only[go_sem];first|rfl|exact⟨rfl,rfl⟩)
    .obtain⟨r1,r2,r3⟩:=Qu4 hh;have b2:((Ez R.c.2:Int)==2)=false:=by rw[show (2:Int)=(Ez .decreasing:Int) from rfl,Qgf];exact QI hh
     apply Qg hb;simp only[go_sem,b2];rw[r1,r2,r3];refine⟨_,⟨t2++t3,rfl⟩,?_⟩;exact QM
   rintro _ ⟨t4,rfl⟩;refine qa ?_;first|refine qa ?_|skip
   refine nD (⟨[(0,.ref lo g 0 d.size),(1,Qa a1),(2,Qa b1),(3,Qa R.lim),(8,QT wb),(9,QT wp),(10,Qa (b1 - a1:Nat)),(11,Qa R.pivot),(12,Qa (Ez R.hint:Nat)),(68,QT (wb&&wp&&decide (R.hint=.increasing)))],h.set lo (Zd g R.d2)++t4⟩) ?_ ?_
   .cases wb
    .apply Qn hb;exact QM
    .cases wp
     .apply Qn hb;exact QM
     .have aq:((Ez R.hint:Int)==1)=decide (R.hint=.increasing):=Qgf R.hint .increasing;apply Qg hb;simp only[go_sem,aq];exact QM
   first|refine qa ?_|skip
   refine eN (λst=>R.pi.2=false/\∃t,st=⟨[(0,.ref lo g 0 d.size),(1,Qa a1),(2,Qa b1),(3,Qa R.lim),(8,QT wb),(9,QT wp),(10,Qa (b1 - a1:Nat)),(11,Qa R.pivot)],h.set lo (Zd g R.pi.1)++t⟩) ?_ ?_
   .cases hB:(wb&&wp&&decide (R.hint=.increasing))
    .have hp:=ZP hB;apply Qn hb;rw[hp];refine⟨_,⟨rfl,t4,rfl⟩,?_⟩;exact QM
    .have hp:=Qu5 hB;apply Qn hb;refine Zw hb Qrn (z2▸QuO (SJ (x:=Zd g R.d2) Ql) a1 b1 ω ω ω) λd h hR=>?_;obtain⟨rfl,rfl⟩:=hR;apply Qn hb;rw[<- hp];cases ZB:R.pi.2
     .simp only[go_sem];refine⟨_,⟨t4,rfl⟩,?_⟩;rw[ED Ql];exact QM
     .rw[Qd ZB]at qT;simp only[go_sem];refine⟨t4,?_⟩;rw[<- qT];exact ED Ql
   rintro _ ⟨Qu6,t5,rfl⟩;rw[Qc (by rw[Qu6];decide)]at qT;generalize hD:R.pi.1=DA at *;have SK:(h.set lo (Zd g DA)++t5)[lo]? = some (Zd g DA):=SJ Ql;generalize rn:h.set lo (Zd g DA)++t5=HD at SK;have Qu7:=Qb SK;have p2:R.pivot<d.size:=ω;have f1:a1 > 0->IntKind.i64.wrap ((a1:Int) - 1)=((a1 - 1:Nat):Int):=λq=>by exact Zu
   have p1:a1 - 1<d.size:=ω;refine qa ?_;first|refine qa ?_|skip
   refine Bb [0,1,2,3,8,9,10,11] [(87,QT (decide (a1 > 0)&&!Qt DA[a1 - 1]! DA[R.pivot]!))] rfl ?_ ?_
   .by_cases ca:a1 > 0
    .have da:decide ((0:Int)<(a1:Int))=true:=QU ω;have f2:=f1 ca;apply QF hb uz;simp only[go_sem,SK,z3,da,f2,p1,p2];apply Jb hb zU (vp DA[a1 - 1]! DA[R.pivot]!);apply ZA hb;exact Qz.frame (by simp only[go_sem,QU ca,O7])
    .have da:decide ((0:Int)<(a1:Int))=false:=QI ω;apply QF hb uz;simp only[go_sem,da];exact Qz.frame (by simp only[go_sem,QI ca,O6])
   cases hB:(decide (a1 > 0)&&!Qt DA[a1 - 1]! DA[R.pivot]!)
   .rw[hB,Qc π]at qT;have hr:=Qu0 DA a1 b1 R.pivot N3.1 N3.2 ω;have Ju:=Qsu DA a1 b1 R.pivot;rw[Qd hr]at qT;apply Qn hb;refine Zw hb Qrp (z3▸QuE SK a1 b1 R.pivot ω ω N3.1 N3.2 ω) λd h hR=>?_;obtain⟨rfl,rfl⟩:=hR;apply Qn hb;generalize Sort.partition Qt DA a1 b1 R.pivot=pt at *;obtain⟨Ym,Qgh,E⟩:=pt;dsimp only at *;have k1:IntKind.i64.wrap ((Ym:Int) - a1)=((Ym - a1:Nat):Int):=Zu;have k2:IntKind.i64.wrap ((b1:Int) - Ym)=((b1 - Ym:Nat):Int):=Zu;have k3:((b1 - a1:Nat):Int).tdiv 8=(((b1 - a1) / 8:Nat):Int):=rfl;have k4:IntKind.i64.wrap ((((b1 - a1) / 8:Nat):Int))=(((b1 - a1) / 8:Nat):Int):=by rw[wrap64 ω ω]
    have k5:IntKind.i64.wrap ((Ym:Int)+1)=((Ym+1:Nat):Int):=Zu;have hsE:E.size=d.size:=by rw[Ju,z3]
    have atE:(HD.set lo (Zd g E))[lo]? = some (Zd g E):=QE Qu7;by_cases eZ:Ym - a1<b1 - Ym
    .have rq:decide (Ym - a1<b1 - Ym)=true:=QU eZ;rw[Qd eZ]at qT;simp only[go_sem,k1,k2,k3,k4,rq];apply Qn hb;refine Zw hb m8 (hsE▸IH _ lo g E atE a1 Ym R.lim ω ω ω ω ω) λd h hR=>?_;obtain⟨rfl,t6,rfl⟩:=hR;apply Qg hb;simp only[go_sem,k5];have ru:=GD _ E a1 Ym R.lim true true (QB _);refine⟨ω,_,?_,Sort.pdq Qt E a1 Ym R.lim true true,Ym+1,b1,R.lim,decide ((b1 - a1) / 8<=Ym - a1),Qgh,t5++t6,by rw[ru,hsE],ω,ω,ω,ω,qT,rfl⟩;rw[JK,<- rn,ED Ql,V9];exact QM
    .have rq:decide (Ym - a1<b1 - Ym)=false:=QI eZ;rw[Qc eZ]at qT;simp only[go_sem,k1,k2,k3,k4,rq];apply Qg hb;simp only[go_sem,k5];refine Zw hb m8 (hsE▸IH _ lo g E atE (Ym+1) b1 R.lim ω ω ω ω ω) λd h hR=>?_;obtain⟨rfl,t6,rfl⟩:=hR;apply Qn hb;have ru:=GD _ E (Ym+1) b1 R.lim true true (QB _);refine⟨ω,_,?_,Sort.pdq Qt E (Ym+1) b1 R.lim true true,a1,Ym,R.lim,decide ((b1 - a1) / 8<=b1 - Ym),Qgh,t5++t6,by rw[ru,hsE],ω,ω,ω,ω,qT,rfl⟩;rw[JK,<- rn,ED Ql,V9];exact QM
   .rw[hB,Qd rfl]at qT;have hr:=QuZ DA a1 b1 R.pivot ω;have Ju:=rj DA a1 b1 R.pivot;rw[Qd hr]at qT;apply Qn hb;refine Zw hb Qro (z3▸Quy SK a1 b1 R.pivot ω ω N3.1 N3.2 ω) λd h hR=>?_;obtain⟨rfl,rfl⟩:=hR;apply Qn hb;refine⟨ω,_,?_,(Sort.partitionEqual Qt DA a1 b1 R.pivot).2,(Sort.partitionEqual Qt DA a1 b1 R.pivot).1,b1,R.lim,wb,wp,t5,ω,ω,ω,ω,ω,qT,rfl⟩;rw[<- rn,ED Ql];exact QM
def Qgj:∀n,Qge n
 | 0=>λ_ _ _ _ _ _ _ _ _ _ _ _ hn=>absurd hn (WZ _)
 | n+1=>λh lo g d ho a b l Vu hb hl hz hn=>Qu2 n (Qgj n) ho a b l Vu hb hl hz hn
def Qu8(n)(h:n<1000000000):Sort.bitsLen n<=30:=(Sort.bitsLen_le_iff n 30).2 ω
def Qu9{h:List Ob}{lo g}{d:Array Int}(ho:h[lo]? = some (Zd g d))(hz:d.size<1000000000):
  QH prog 254 h [.ref lo g 0 d.size] (λdd h'=>dd=.tup []/\∃t,h'=h.set lo (Zd g (Sort.sort Qt d))++t):=by
 have WN:=Qu8 _ hz;have w0:IntKind.u64.wrap (d.size:Int)=d.size:=η;refine QQ func254 ntmps254 results254 λbase w pl hb=>?_;have Ql:=Qb ho;simp only[go_sem,w0];apply ZK hb Qdr (UP d.size ω);apply Qn hb;refine Zw hb m8 (Qgj (d.size+1) h lo g d ho 0 d.size (Sort.bitsLen d.size) (Jh _) (QB _) ω hz ω) λd h hR=>?_;obtain⟨rfl,t,rfl⟩:=hR;apply Qn hb;exact⟨t,rfl⟩
def cN(f:Nat->Int):Nat->List Int
 | 0=>[]
 | n+1=>if n≠0/\f n=f (n - 1) then cN f n else cN f n++[f n]
def N4(f):∀n,(cN f n).length<=n
 | 0=>QB _
 | n+1=>by
  have:=N4 f n;rw[cN];split
  .omega
  .simp;omega
def rv(f)(x):∀n,x∈cN f n↔∃i,i<n/\f i=x
 | 0=>by simp[cN]
 | n+1=>by
  have ih:=rv f x n;rw[cN];split
  .rename_i c;rw[ih];constructor
   .rintro⟨i,h1,h2⟩;exact⟨i,ω,h2⟩
   .rintro⟨i,h1,h2⟩;by_cases e:i=n
    .subst e;exact⟨i - 1,ω,by rw[<- c.2];exact h2⟩
    .exact⟨i,ω,h2⟩
  .rw[QX,ih];simp only[q8];constructor
   .rintro (⟨i,h1,h2⟩|h)
    .exact⟨i,ω,h2⟩
    .exact⟨n,ω,h.symm⟩
   .rintro⟨i,h1,h2⟩;by_cases e:i=n
    .subst e;exact Or.inr h2.symm
    .exact Or.inl ⟨i,ω,h2⟩
def IQ(f):∀n,(cN f n).length=n->∀i,i<n->(cN f n).getD i 0=f i
 | 0,_,i,hi=>absurd hi (WZ _)
 | n+1,h,i,hi=>by
  have hle:=N4 f n;rw[cN]at h ⊢;split at h
  .omega
  .rename_i c;rw[Qc c];simp at h;by_cases e:i=n
   .subst e;rw[Q5,Kb ω,h,xg];rfl
   .rw[Q5,JC ω,<- Q5];exact IQ f n h i ω
def Qva(g)(d:Array Int)(i n)(x)(hn:d.size=n)(hi:i<n):
  (⟨.arr,g,1,n,λk=>bif k==i then [.raw (.int .u64 x)] else [.raw (.int .u64 d[k]!)]⟩:Ob)=Zd g (d.setIfInBounds i x):=by
 subst hn;unfold Zd;congr 1
 .simp
 .funext k;unfold Bs uI;by_cases k1:k=i
  .subst k1;simp[hi]
  .have e1:(k==i)=false:=beq_eq_false_iff_ne.mpr k1;rw[e1];by_cases k3:k<d.size
   .simp[k3,Q3 k1]
   .simp[k3]
def Qvb{h:List Ob}{lo g}{d:Array Int}(ho:h[lo]? = some (Zd g d))(hz:d.size<1000000000):
  QH prog 255 h [.ref lo g 0 d.size] (λdd h'=>dd=.ref lo g 0 (cN (λi=>d[i]!) d.size).length/\∃row,h'=h.set lo ⟨.arr,g,1,d.size,row⟩/\(∀i,i<(cN (λi=>d[i]!) d.size).length->row i=[uI ((cN (λi=>d[i]!) d.size).getD i 0)])/\∀i,∃x,row i=[uI x]):=by
 by_cases c2:d.size<2
 .have e2:decide ((d.size:Int)<2)=true:=QU ω;have hlen:(cN (λi=>d[i]!) d.size).length=d.size:=by
   have:d.size=0\/d.size=1:=ω;rcases this with h0|h0<;>rw[h0]<;>rfl
  rw[hlen];refine QQ func255 ntmps255 results255 λbase w pl hb=>?_;have Ql:=Qb ho;simp only[go_sem,e2];exact⟨Bs d,(vq ho).symm,λi hi=>by rw[IQ _ _ hlen i hi];rfl,λi=>⟨_,rfl⟩⟩
 .have e2:decide ((d.size:Int)<2)=false:=QI ω;refine QQ func255 ntmps255 results255 λbase w pl hb=>?_;have Ql:=Qb ho;simp only[go_sem,e2];refine Z3 (λk st=>k+1<=d.size/\(cN (λi=>d[i]!) (k+1)).length=k+1/\st=⟨[(0,.ref lo g 0 d.size),(3,Qa (k+1:Nat))],h⟩) d.size (s0:=⟨[(0,.ref lo g 0 d.size),(3,Qa (0+1:Nat))],h⟩) QM ⟨ω,rfl,rfl⟩ ?_;rintro k _ hk ⟨Qj,Z7,rfl⟩;by_cases ck:k+1<d.size
  .have ek:decide (k+1<d.size)=true:=QU ck;have v1:IntKind.i64.wrap (((k+1:Nat):Int) - 1)=((k:Nat):Int):=Zu;have v2:IntKind.i64.wrap (((k+1:Nat):Int)+1)=((k+1+1:Nat):Int):=Zu;have p0:k<d.size:=ω;apply Qg hb;simp only[go_sem,ek];apply QF hb Ud;simp only[go_sem,ho,v1,ck,p0];by_cases qG:d[k+1]! = d[k]!
   .have IS:(d[k+1]! == d[k]!)=true:=beq_iff_eq.mpr qG;have JF:(cN (λi=>d[i]!) (k+1+1)).length=k+1:=by
     rw[cN,Qd ⟨ω,by simpa using qG⟩,Z7]
    have q0:k+1<=d.size:=ω;generalize hN:d.size - (k+1)=N;have v3:((d.size:Int) - ((k+1:Nat):Int)).toNat=N:=ω;simp only[go_sem,IS,q0,ho,v3];refine Z3 (λm st=>∃(d1:Array Int),d1.size=d.size/\m+1<=N/\(cN (λi=>d[i]!) (k+1+(m+1))).length<=k+1+m/\(∀i,i<(cN (λi=>d[i]!) (k+1+(m+1))).length->d1[i]! = (cN (λi=>d[i]!) (k+1+(m+1))).getD i 0)/\(∀j,(cN (λi=>d[i]!) (k+1+(m+1))).length<=j->d1[j]! = d[j]!)/\st=⟨[(0,.ref lo g 0 d.size),(3,Qa (cN (λi=>d[i]!) (k+1+(m+1))).length),(4,.ref lo g (k+1) N),(5,Qa (m+1:Nat))],h.set lo (Zd g d1)⟩) N (s0:=⟨[(0,.ref lo g 0 d.size),(3,Qa (cN (λi=>d[i]!) (k+1+(0+1))).length),(4,.ref lo g (k+1) N),(5,Qa (0+1:Nat))],h.set lo (Zd g d)⟩) ?_ ⟨d,rfl,ω,Nat.le_of_eq JF,λi hi=>?_,λj hj=>rfl,rfl⟩ ?_
    .rw[vq ho,JF];exact QM
    .rw[cN,Qd ⟨ω,by simpa using qG⟩]at hi ⊢;exact(IQ _ _ Z7 i ω).symm
    rintro m _ hm ⟨d1,ZZ,hmN,Gq,IU,nS,rfl⟩;have Jj:=j8 (g:=g) (d:=d1) Ql;have EF:cN (λi=>d[i]!) (k+1+(m+1+1))=if d[k+1+(m+1)]! = d[k+1+m]! then cN (λi=>d[i]!) (k+1+(m+1)) else cN (λi=>d[i]!) (k+1+(m+1))++[d[k+1+(m+1)]!]:=by
     rw[show k+1+(m+1+1)=(k+1+(m+1))+1 by omega,cN];simp
    generalize hC:cN (λi=>d[i]!) (k+1+(m+1))=C at *;generalize hH:h.set lo (Zd g d1)=H at Jj;have CE:=Qb Jj;by_cases cm:m+1<N
    .have em:decide (m+1<N)=true:=QU cm;have r1:=nS (k+1+(m+1)) ω;have r2:=nS (k+1+m) ω;have u1:k+1+(m+1)<d.size:=ω;have u2:k+1+m<d.size:=ω;have u3:m<N:=ω;have w1:IntKind.i64.wrap (((m+1:Nat):Int) - 1)=(m:Int):=Zu;have w2:IntKind.i64.wrap (((m+1:Nat):Int)+1)=((m+1+1:Nat):Int):=Zu;have w3:IntKind.i64.wrap ((C.length:Int)+1)=((C.length+1:Nat):Int):=Zu;apply Qg hb;simp only[go_sem,em];apply QF hb Ud;simp only[go_sem,Jj,ZZ,w1,cm,u1,u2,u3,r1,r2];by_cases cq:d[k+1+(m+1)]! = d[k+1+m]!
     .have nq:(d[k+1+(m+1)]! != d[k+1+m]!)=false:=by rw[cq];exact bne_self_eq_false _
      rw[Qd cq]at EF;simp only[go_sem,nq,w2];rw[EF];refine⟨ω,_,?_,d1,ZZ,ω,ω,IU,nS,rfl⟩;rw[<- hH];exact QM
     .have nq:(d[k+1+(m+1)]! != d[k+1+m]!)=true:=bne_iff_ne.mpr cq;have u4:C.length<d.size:=ω;rw[Qc cq]at EF;simp only[go_sem,nq,w2,w3,Jj,ZZ,u1,cm,u4,r1];rw[Qva g d1 _ _ _ ZZ u4,EF];refine⟨ω,_,?_,d1.setIfInBounds C.length d[k+1+(m+1)]!,by simp;exact ZZ,ω,ξ,λi hi=>?_,λj hj=>?_,rfl⟩
      .rw[<- hH,JK,ZW,kE];exact QM
      .simp only[ZW,kE]at hi;by_cases e:i=C.length
       .subst e;rw[Q5,Kb (QB _),xg];simp[ZZ,u4]
       .rw[Q5,JC ω,<- Q5,<- IU i ω];simp[Q3 e,LR,wX]
      .simp only[ZW,kE]at hj;rw[<- nS j ω];simp[show C.length≠j by omega,LR,wX]
    .have em:decide (m+1<N)=false:=QI cm;have ry:k+1+(m+1)=d.size:=ω;rw[ry]at hC;rw[hC];have g1:C.length<=d.size:=ω;have g2:((d.size:Int) - (C.length:Int)).toNat=d.size - C.length:=ω;apply Qg hb;simp only[go_sem,em];apply Qg hb;simp only[go_sem,Jj,ZZ,g1,g2];refine dJ yG hb rfl Jj rfl rfl rfl rfl (by dsimp only[Zd];omega) rfl rfl rfl rfl ?_;apply Qg hb;simp only[go_sem,QE CE,ZZ,g1];refine⟨σ,qk C.length (d.size - C.length) [D.raw (.int .u64 0)] (Bs d1),?_,λi hi=>?_,λi=>?_⟩
     .rw[<- hH,JK]
     .rw[dH hi];show [uI d1[i]!]=_;rw[IU i hi];rfl
     .unfold qk;cases Nat.ble C.length i&&Nat.blt i (C.length+(d.size - C.length))
      .exact⟨d1[i]!,rfl⟩
      .exact⟨0,rfl⟩
   .have IS:(d[k+1]! == d[k]!)=false:=beq_eq_false_iff_ne.mpr qG;simp only[go_sem,IS,v2];refine⟨ω,_,?_,ω,?_,rfl⟩
    .exact QM
    .rw[cN,Qc (by simpa using qG)];simp[Z7]
  .have ek:decide (k+1<d.size)=false:=QI ck;obtain JE:k+1=d.size:=ω;rw[JE]at Z7;apply Qg hb;simp only[go_sem,ek];apply Qn hb;rw[Z7];exact⟨rfl,Bs d,(vq ho).symm,λi hi=>by rw[IQ _ _ Z7 i hi];rfl,λi=>⟨_,rfl⟩⟩
def Qgk:IntKind.i64.wrap 1=1:=π
def Qgl:IntKind.i64.wrap 0=0:=π
def Qgm(F:List Ob)(f nf:Nat)(Qs:List D)(g:Nc->Bool):Prop:=∀(h:List Ob) (c:Nc),Vj F h->Q6 prog f h (ZT nf Qs [CC c]) (λd=>d=QT (g c))
def IV(g:Nc->Bool)(l:List Nc):Int:=match l.findIdx? g with
 | some i=>i
 | none=>-1
def Qvd{g}{l:List Nc}{k}(hk:k<l.length)(h:∀i,i<k->g (l.getD i default)=false)(hg:g (l.getD k default)=true):IV g l=k:=by
 have e:l.findIdx? g=some k:=by
  rw[Fi];refine⟨hk,by simpa[Q5,hk] using hg,λi hi=>?_⟩;have:=h i hi;simpa[Q5,show i<l.length by omega] using this
 rw[IV,e]
def Qve{g}{l:List Nc}(h:∀i,i<l.length->g (l.getD i default)=false):IV g l=-1:=by
 have e:l.findIdx? g=none:=by
  rw[He];intro x hx;obtain⟨i,hi,rfl⟩:=wZ hx;have:=h i hi;simpa[Q5,hi] using this
 rw[IV,e]
def Qvf(g)(l:List Nc):decide (0<=IV g l)=l.any g:=by
 unfold IV;cases h:l.findIdx? g with
 | some i=>
  obtain⟨h1,h2,_⟩:=Fi.1 h;have e:l.any g=true:=BN.2 ⟨_,YU h1,h2⟩;rw[e];simp
 | none=>
  have:=He.1 h;have e:l.any g=false:=by rw[List.any_eq_false];intro x hx;simp[this x hx]
  rw[e];decide
section
variable (h:List Ob)(l:List Nc)(hlen:l.length<1048576)
include hlen
theorem Qvg(so:D)(f nf:Nat)(Qs:List D)(hf:Qm prog f)(KZ:Jq so=some (f,nf,Qs))(gk:Nc->Bool)(hg:Qgm (h.map Ob.ro) f nf Qs gk):
  Q6 prog 300 h [XD l,so] (λd=>d=Qa (IV gk l)):=by
 refine xD func300 ntmps300 results300 λbase w pl F hF Q7 hb=>?_;simp only[go_sem];refine Z3 (λk s=>(∀i,i<k->gk (l.getD i default)=false)/\s=⟨[(0,XD l),(1,so),(7,Qa l.length),(8,Qa k)],F⟩) l.length QM ⟨λi hi=>absurd hi ω,rfl⟩ ?_;rintro k s hk ⟨hn,rfl⟩;apply Qn hb;have Zb:=J9 (show k<4611686018427387904 from ω);first|refine jO hk (λQj=>?_) (λQj=>?_)|refine jP hk (λQj=>?_) (λQj=>?_)
 .simp only[go_sem,Qj];refine Kw hb hf KZ ?_ (hg F (l.getD k default) (by rw[<- hF];exact Vj.refl F)) rfl λd2 hR=>?_
  .simp only[go_sem];exact Bd _
  subst hR;apply Qg hb;cases be:gk (l.getD k default)
  .simp only[go_sem];refine⟨Qj,_,Qz.frame (fr':=[(0,XD l),(1,so),(7,Qa l.length),(8,Qa (k+1:Nat))]) (by simp only[go_sem,Zb]),λi hi=>?_,rfl⟩;by_cases h1:i<k
   .exact hn i h1
   .have:i=k:=ω;subst this;exact be
  .rw[Qvd Qj hn be];simp only[go_sem];exact⟨[],(JI F).symm⟩
 .have Qj:k=l.length:=ω;subst Qj;simp only[go_sem,Mb];rw[Qve hn];apply Qn hb;exact⟨[],(JI F).symm⟩
theorem Qvh(so:D)(f nf:Nat)(Qs:List D)(hf:Qm prog f)(KZ:Jq so=some (f,nf,Qs))(gk:Nc->Bool)(hg:Qgm (h.map Ob.ro) f nf Qs gk):
  Q6 prog 257 h [XD l,so] (λd=>d=QT (l.any gk)):=by
 rw[<- Qvf];refine xD func257 ntmps257 results257 λbase w pl F hF Q7 hb=>?_;simp only[go_sem];refine Kw hb Qrd rfl ?_ (Qvg F l hlen so f nf Qs hf KZ gk (λh' n hx=>?_)) rfl λd2 hR=>?_
 .simp only[go_sem];exact Cn so
 .rw[hF,nR]at hx;exact hg h' n hx
 subst hR;apply Qn hb;exact⟨[],(JI F).symm⟩
end
def Qvi(h)(c:Nc):Q6 prog 258 h [CC c] (λd=>d=QT (c.of==0)):=by
 refine xD func258 ntmps258 results258 λbase w pl F hF Q7 hb=>?_;simp only[go_sem,Qe];apply ZK hb Nk (pz c.a c.d c.b);apply JH hb;refine⟨_,rfl,?_⟩;simp only[bne,Bool.not_not];rfl
def Qgn(l:List Nc):Bool:=l.any λc=>c.of==0
def yZ(t:Int)(l:List Nc):Int:=if t<1\/65536<t then 1 else if Qgn l=true then 21 else 0
def fa(t)(l:List Nc)(hl:l.length<1048576):QW prog 202 [Qa t,XD l] (QN (Qa (yZ t l))):=by
 have hcf:=Qvh [] l hl (.raw (.func (.func 258) ⟨[]⟩ ⟨[]⟩)) 258 0 [] Qq1 rfl (λc=>c.of==0) (λh' c _=>Qvi h' c);rw[show (l.any λc=>c.of==0)=Qgn l from rfl]at hcf;refine xT 0 func202 ntmps202 results202 λbase w hb=>?_;simp only[go_sem]
 repeat' (first|((first|refine QfZ (λh=>?_) (λh=>?_)|refine Qf0 (λh=>?_) (λh=>?_)|refine QgF (λh=>?_) (λh=>?_)|refine YA (λh=>?_) (λh=>?_)|refine QgM (λh=>?_) (λh=>?_)|refine Qhb (λh=>?_) (λh=>?_)|refine F5 (λh=>?_) (λh=>?_)|refine FW (λh=>?_) (λh=>?_))<;>(try simp only[go_sem,Go.undef]))|(refine And.intro δ ?_;try simp only[go_sem,Go.undef])|(refine Kw hb Qq0 rfl ?_ (hcf) rfl ?_;(· simp only[go_sem]);intro d hR;subst hR;apply Qg hb;simp only[go_sem])|fail)
 all_goals (congr 2;unfold yZ;simp_all;try omega)
end Go.Fg.X
namespace Go.Fg.X
open Go.Proofs Go.Fg
open Go.RowKit (Below)
open Go.Proofs.Tryz
def Zi.nil{Z}{base}{w}:Zi Z base [] [] w:=⟨rfl,λl l' b q q' e1 e2=>by simp at e1,λl o e=>by simp at e,λl o b q e=>by simp at e⟩
def Qvj{P}{f}{args}{R}(d2:D)(hu:d2.upto 0=true)
  (hd:∀d hh,R d hh->Ke 6 d d2\/∃lo g sz n row,hh[lo]? = some ⟨.arr,g,sz,n,row⟩/\(∀i,i<n->(row i).all D.qI=true)/\Ke 6 (D.fz lo g n sz row d) d2) (h:QW P f args R):QW P f args (QN d2):=by
 intro Z base w pl vs h1 h2 h3 hl hc;have Zh:pl=[]:=by have:=h3.len;simpa using this
 subst Zh;refine(h Z base w [] vs h1 h2 h3 hl hc).mono λe w' he=>?_;obtain⟨v,d,hh,Qi,rfl,hR,hO,hV,hT,hB⟩:=he;suffices fin:QC Z [] [] w' d2 v by
  exact⟨v,_,[],[],rfl,⟨rfl,rfl⟩,Zi.nil,fin,⟨λb hb Qb=>⟨hb,(hT.J3 b hb Qb).2⟩,λl o p e=>by simp at e,λl o o' b q e=>by simp at e⟩,hB⟩
 rcases hd _ _ hR with hle|⟨lo,g,sz,n,row,Zq,Z7,hle⟩
 .exact(v8 6 hle hV).take hu
 have Qb:lo<Qi.length:=by rw[hO.len];exact(WC.1 Zq).1
 obtain⟨p,hp⟩:∃p,Qi[lo]? = some p:=⟨_,QP Qb⟩;have Cu:=hV.fz (l:=lo) (o:=⟨.arr,g,sz,n,row⟩) (p:=p) Zq hp rfl (λb q e=>by
  subst e;refine⟨h2 b ?_,λl' q' e'=>?_,(hO.at_ lo _ b q Zq hp).2.cells rfl⟩
  .rcases w9 b w.heap.size with Qb|Yb
   .exact absurd hp ((hT.J3 b (λi q e=>by simp at e) Qb).1 lo q)
   .exact Yb
  .exact hO.inj _ _ _ _ _ e' hp) Z7 (h':=hh.set lo (Ob.gone ⟨.arr,g,sz,n,row⟩)) (λl' o' QA e=>by
  exact⟨o',by rw[Jw (Q3 QA)];exact e,rfl,rfl,rfl⟩)
 exact(v8 6 hle Cu).take hu
end Go.Fg.X
namespace Go.Fg
def Kd.Qgp(k:Kd):k.P6 k:=by cases k<;>simp[Kd.P6,Kd.ty]
def Qgq(o):MA o o:=⟨rfl,rfl,rfl,Kd.Qgp _,λ_ _=>rfl⟩
def Qgr:∀h:List Ob,yz h h
 | []=>trivial
 | o::r=>⟨Qgq o,Qgr r⟩
def Qgs:∀{h:List Ob} {l:Nat} {o:Ob} (JU:Nat->List D),h[l]? = some o->(∀i,i<o.n->o.row i=JU i)->yz h (h.set l ⟨o.kd,o.gen,o.sz,o.n,JU⟩)
 | [],l,o,JU,e,_=>by simp at e
 | x::r,0,o,JU,e,he=>by
  simp only[List.getElem?_cons_zero,QY]at e;subst e;exact⟨⟨rfl,rfl,rfl,Kd.Qgp _,λi hi=>(he i hi).symm⟩,Qgr r⟩
 | x::r,l+1,o,JU,e,he=>⟨Qgq x,Qgs (h:=r) JU (by simpa using e) he⟩
def Qz.rows{w0}{fr}{h:List Ob}(l){o:Ob}(JU)(ho:h[l]? = some o)(he:∀i,i<o.n->o.row i=JU i):Qz w0 ⟨fr,h⟩ ⟨fr,h.set l ⟨o.kd,o.gen,o.sz,o.n,JU⟩⟩:=(Wk.FR (Qgs JU ho he)).up
end Go.Fg
namespace Go.Fg.X
open Go.Proofs Go.Fg
open Go.Proofs.Tryz
def EG(c:Nc):Bool:=c.of==3 || c.of==4
def WW(l:List Nc):List Int:=(l.filter EG).map λc=>(c.d:Int)
def Qvk(l:List Nc)(i)(h:i<l.length):WW (l.take (i+1))=if EG (l.getD i default)=true then WW (l.take i)++[((l.getD i default).d:Int)] else WW (l.take i):=by
 unfold WW;rw[Fo,QP h];simp only[Option.toList_some,Pc,Q5,QP h,KR,vK];by_cases hg:EG l[i]=true
 .rw[Qd hg,Pe hg];rfl
 .rw[Qc hg,Pd hg];simp
def rA(l:List Nc)(i):(WW (l.take i)).length<=i:=by
 have:=Xx EG (l.take i);simp only[WW,J1];simp at this;omega
def jd(l:List Nc):Array Int:=Sort.sort Qt (WW l).toArray
def WJ(l:List Nc):List Int:=cN (λi=>(jd l)[i]!) (jd l).size
def rB(l:List Nc):(jd l).size=(WW l).length:=by
 unfold jd Sort.sort;rw[GD _ _ _ _ _ _ _ (QB _)];rfl
def Qvl(l:List Nc):(jd l).toList.Perm (WW l):=by
 have h:=(Sort.sort_sorts Qt Qgd (WW l).toArray).1.2.2;have e1:((Sort.sort Qt (WW l).toArray).extract 0 (WW l).toArray.size).toList=(jd l).toList:=by
  have:=rB l;unfold jd at this ⊢;rw[show (WW l).toArray.size=(Sort.sort Qt (WW l).toArray).size from this.symm];simp
 rw[e1]at h;simpa using h
def Qvm(l)(x):x∈WJ l↔∃c,c∈l/\EG c=true/\(c.d:Int)=x:=by
 unfold WJ;rw[rv];have h1:(∃i,i<(jd l).size/\(jd l)[i]! = x)↔x∈(jd l).toList:=by
  rw[List.mem_iff_getElem];constructor
  .rintro⟨i,hi,e⟩;exact⟨i,by simpa using hi,by rw[<- e,LR,wX,zJ hi];simp⟩
  .rintro⟨i,hi,e⟩;have Z9:i<(jd l).size:=by simpa using hi
   exact⟨i,Z9,by rw[<- e,LR,wX,zJ Z9];simp⟩
 rw[h1,(Qvl l).mem_iff];simp[WW,and_assoc]
@[go_sem] def N5(K:List Int):D:=.imm 1 K.length λi=>[uI (K.getD i 0)]
def Qvn{M:List Int}{row}(hr:xL (λn:Int=>[uI n]) M 0 row):∀i,i<M.length->row i=Bs M.toArray i:=λi hi=>by
 have:=hr.at_ i hi;rw[JD]at this;rw[this];unfold Bs;simp[Q5,hi]
def Qvo(l:List Nc)(hl:l.length<1048576):QW prog 200 [XD l] (QN (N5 (WJ l))):=by
 refine Qvj (N5 (WJ l)) rfl (?_:∀d hh,(∃g n row,d=.ref 0 g 0 (WJ l).length/\hh=[⟨.arr,g,1,n,row⟩]/\(∀i,i<n->(row i).all D.qI=true)/\(WJ l).length<=n/\∀i,i<(WJ l).length->row i=[uI ((WJ l).getD i 0)])->_) ?_
 .rintro d hh ⟨g,n,row,rfl,rfl,Z7,hn,ZG⟩;right;refine⟨0,g,1,n,row,rfl,Z7,?_⟩;have e1:D.fz 0 g n 1 row (.ref 0 g 0 (WJ l).length)=.imm 1 (WJ l).length (rowFrom 0 row):=by simp[D.fz,Rj,hn]
  rw[e1];simp only[N5];rw[bE];refine⟨rfl,rfl,λi hi=>?_⟩;rw[Rt,JD,ZG i hi];exact HZ (DS _) _
 refine xT 1 func200 ntmps200 results200 λbase w hb=>?_;simp only[go_sem];refine Z3 (λi s=>∃g row,xL (λn:Int=>[uI n]) (WW (l.take i)) 0 row/\s=⟨[(3,.ref 0 g 0 (WW (l.take i)).length),(7,XD l),(8,Qa l.length),(9,Qa i)],[⟨.arr,g,1,(WW (l.take i)).length,row⟩]⟩) l.length
  (s0:=⟨[(3,.ref 0 0 0 0),(7,XD l),(8,Qa l.length),(9,Qa 0)],[⟨.arr,0,1,0,λ_=>[]⟩]⟩)
  (Qz.trans (Qz.BS 3 1 (λi=>[]) rfl) QM) ⟨0,λ_=>[],.nil,rfl⟩ ?_
 rintro i s hi ⟨g,row,hr,rfl⟩;have Z7:=rA l i;have Zb:=J9 (show i<4611686018427387904 from ω);apply Qn hb;first|refine jO hi (λQj=>?_) (λQj=>?_)|refine jP hi (λQj=>?_) (λQj=>?_)
 .obtain⟨M,hM⟩:∃M,M=WW (l.take i):=⟨_,rfl⟩;obtain⟨e,he⟩:∃e,e=l.getD i default:=⟨_,rfl⟩;have ZO:=Qvk l i Qj;rw[<- hM,<- he]at ZO;rw[<- hM]at hr Z7 ⊢;have CI:M.length<=4294967295:=ω;have Jy:xL (λn:Int=>[uI n]) (M++[(e.d:Int)]) 0 (Kt M.length 0 row λ_=>[uI e.d]):=hr.app (e.d:Int) rfl;simp only[go_sem,Qj,<- he];apply ZK hb DT (Sn e.a e.d e.b);apply Qn hb;cases e3:Vp e.a e.d e.b==3
  .cases e4:Vp e.a e.d e.b==4
   .have hb:EG e=false:=by show (Vp e.a e.d e.b==3 || Vp e.a e.d e.b==4)=false;rw[e3,e4];rfl
    rw[hb,Qc π]at ZO;simp only[go_sem,e4];repeat (refine And.intro ω ?_)
    refine⟨_,Qz.to 1 ⟨?_,by simp only[go_sem],?_,?_⟩,g,row,by rw[ZO];exact hr,rfl⟩
    .simp only[go_sem,Zb,ZO]
    .exact⟨λj hj=>hr.upto (λa=>rfl) j (by have V5:=hj;simp only[ZO]at V5;simpa using V5),trivial⟩
    .simp only[go_sem,ZO]
   .have hb:EG e=true:=by show (Vp e.a e.d e.b==3 || Vp e.a e.d e.b==4)=true;rw[e3,e4];rfl
    rw[hb,Qd rfl]at ZO;simp only[go_sem,e4,CI];repeat (refine And.intro ω ?_)
    refine⟨_,Qz.to 1 ⟨?_,by simp only[go_sem],?_,?_⟩,g+1,_,by rw[ZO];exact Jy,rfl⟩
    .simp only[go_sem,Zb,ZO,ZW,kE]
    .exact⟨λj hj=>Jy.upto (λa=>rfl) j (by have V5:=hj;simp only[ZO]at V5;simpa using V5),trivial⟩
    .simp only[go_sem,ZO,ZW,kE]
  .have hb:EG e=true:=by show (Vp e.a e.d e.b==3 || Vp e.a e.d e.b==4)=true;rw[e3];rfl
   rw[hb,Qd rfl]at ZO;simp only[go_sem,Go.undef,CI];repeat (refine And.intro ω ?_)
   refine⟨_,Qz.to 1 ⟨?_,by simp only[go_sem],?_,?_⟩,g+1,_,by rw[ZO];exact Jy,rfl⟩
   .simp only[go_sem,Zb,ZO,ZW,kE]
   .exact⟨λj hj=>Jy.upto (λa=>rfl) j (by have V5:=hj;simp only[ZO]at V5;simpa using V5),trivial⟩
   .simp only[go_sem,ZO,ZW,kE]
 .have h1:i=l.length:=ω;subst h1;rw[q9]at hr ⊢;have Ju:(WW l).toArray.size=(WW l).length:=rfl;have Jf:(WW l).length<=l.length:=by have:=rA l l.length;rw[q9]at this;exact this
  have GF:=rB l;have hcn:=N4 (λi=>(jd l)[i]!) (jd l).size;apply Qn hb;refine Rp (Qz.rows 0 (Bs (WW l).toArray) (by exact rfl) ?_) ?_
  .intro i hi;dsimp only at hi ⊢;exact Qvn hr i hi
  simp only[go_sem];refine YB hb QqX rfl ?_ (Qu9 (h:=[Zd g (WW l).toArray]) (lo:=0) (g:=g) (d:=(WW l).toArray) rfl (by rw[Ju];omega)) rfl λd h hR=>?_
  .simp only[go_sem,Fm]
  obtain⟨rfl,t,rfl⟩:=hR;apply Qg hb;simp only[go_sem,Fm];refine Zw hb QqY (GF▸Qvb (h:=[Zd g (WW l).toArray].set 0 (Zd g (jd l))++t) (lo:=0) (g:=g) (d:=jd l) rfl ω) λd h hR=>?_;obtain⟨rfl,zq,rfl,Qvp,Kj⟩:=hR;apply Qn hb;refine⟨λi hi=>?_,g,(WW l).length,zq,?_,rfl,λi hi=>?_,?_,?_⟩
  .obtain⟨x,hx⟩:=Kj i;rw[hx];rfl
  .unfold WJ;rw[GF]
  .obtain⟨x,hx⟩:=Kj i;rw[hx];rfl
  .unfold WJ;omega
  .intro i hi;have:=Qvp i (by unfold WJ at hi;rw[GF]at hi;exact hi);rw[this];unfold WJ;rw[GF];rfl
def Qvq(F:List Ob)(f nf:Nat)(Qs:List D)(K:List Int)(g:Int->Bool):Prop:=∀(h:List Ob) (x:Int),x∈K->Vj F h->Q6 prog f h (ZT nf Qs [uI x]) (λd=>d=QT (g x))
def wH(g:Int->Bool)(l:List Int):Int:=match l.findIdx? g with
 | some i=>i
 | none=>-1
def Qvr{g}{l:List Int}{k}(hk:k<l.length)(h:∀i,i<k->g (l.getD i 0)=false)(hg:g (l.getD k 0)=true):wH g l=k:=by
 have e:l.findIdx? g=some k:=by
  rw[Fi];refine⟨hk,by simpa[Q5,hk] using hg,λi hi=>?_⟩;have:=h i hi;simpa[Q5,show i<l.length by omega] using this
 rw[wH,e]
def Qvs{g}{l:List Int}(h:∀i,i<l.length->g (l.getD i 0)=false):wH g l=-1:=by
 have e:l.findIdx? g=none:=by
  rw[He];intro x hx;obtain⟨i,hi,rfl⟩:=wZ hx;have:=h i hi;simpa[Q5,hi] using this
 rw[wH,e]
def Qvt(g)(l:List Int):decide (0<=wH g l)=l.any g:=by
 unfold wH;cases h:l.findIdx? g with
 | some i=>
  obtain⟨h1,h2,_⟩:=Fi.1 h;have e:l.any g=true:=BN.2 ⟨_,YU h1,h2⟩;rw[e];simp
 | none=>
  have:=He.1 h;have e:l.any g=false:=by rw[List.any_eq_false];intro x hx;simp[this x hx]
  rw[e];decide
def Qvu{g}{l:List Int}(h:0<=wH g l):(wH g l).toNat<l.length:=by
 unfold wH at h ⊢;cases e:l.findIdx? g with
 | some i=>obtain⟨h1,_⟩:=Fi.1 e;simpa using h1
 | none=>rw[e]at h;simp at h
def Qvv{l:List Int}{i}(h:i<l.length):l.getD i 0∈l:=by
 rw[Q5,QP h];exact YU h
section
variable (h:List Ob)(K:List Int)(hlen:K.length<1048576)
include hlen
theorem Qvw(so:D)(f nf:Nat)(Qs:List D)(hf:Qm prog f)(KZ:Jq so=some (f,nf,Qs))(gk:Int->Bool)(hg:Qvq (h.map Ob.ro) f nf Qs K gk):
  Q6 prog 158 h [N5 K,so] (λd=>d=Qa (wH gk K)):=by
 refine xD func158 ntmps158 results158 λbase w pl F hF Q7 hb=>?_;simp only[go_sem];refine Z3 (λk s=>(∀i,i<k->gk (K.getD i 0)=false)/\s=⟨[(0,N5 K),(1,so),(7,Qa K.length),(8,Qa k)],F⟩) K.length QM ⟨λi hi=>absurd hi ω,rfl⟩ ?_;rintro k s hk ⟨hn,rfl⟩;apply Qn hb;have Zb:=J9 (show k<4611686018427387904 from ω);first|refine jO hk (λQj=>?_) (λQj=>?_)|refine jP hk (λQj=>?_) (λQj=>?_)
 .simp only[go_sem,Qj];refine Kw hb hf KZ ?_ (hg F (K.getD k 0) (Qvv Qj) (by rw[<- hF];exact Vj.refl F)) rfl λd2 hR=>?_
  .simp only[go_sem];exact Bd _
  subst hR;apply Qg hb;cases be:gk (K.getD k 0)
  .simp only[go_sem];refine⟨Qj,_,Qz.frame (fr':=[(0,N5 K),(1,so),(7,Qa K.length),(8,Qa (k+1:Nat))]) (by simp only[go_sem,Zb]),λi hi=>?_,rfl⟩;by_cases h1:i<k
   .exact hn i h1
   .have:i=k:=ω;subst this;exact be
  .rw[Qvr Qj hn be];simp only[go_sem];exact⟨[],(JI F).symm⟩
 .have Qj:k=K.length:=ω;subst Qj;simp only[go_sem,Mb];rw[Qvs hn];apply Qn hb;exact⟨[],(JI F).symm⟩
end
def Qvx(l:List Nc):(WJ l).length<=l.length:=by
 have h1:=N4 (λi=>(jd l)[i]!) (jd l).size;have h2:=rB l;have h3:=rA l l.length;rw[q9]at h3;unfold WJ;omega
def Qvy{l}{x}(hx:x∈WJ l):∃n:Nat,x=(n:Int)/\0<n/\n<=1048576:=by
 obtain⟨c,h1,h2,h3⟩:=(Qvm l x).1 hx;refine⟨c.d,h3.symm,?_⟩;unfold EG Nc.of Vp at h2;simp only[Df,jr]at h2
 repeat' split at h2
 all_goals first|omega|(exfalso;revert h2;decide)|skip
def Qmc(l:List Nc)(k:Nat):Nat:=CD (λc=>Wj c.a c.d c.b k) l
def Bw(t:Nat)(l:List Nc)(x:Int):Bool:=decide (65536*x.toNat<Qmc l x.toNat*t)
def Qvz{l:List Nc}(hl:l.length<1048576)(hc:∀c∈l,c.Lt){k}(hk:k<=1048576):Qmc l k<2 ^ 111:=by
 have h1:=Qno (g:=λc=>Wj c.a c.d c.b k) (M:=2 ^ 60) (λc h=>by
  show Wj c.a c.d c.b k<=_;unfold Wj;split
  .decide
  .rename_i h0;obtain⟨b1,b2,b3⟩:=pw h0;have e1:c.a*min k c.d<=4294967295*1048576:=qC b1 ω;have e2:c.b*(k - min k c.d)<=4294967295*1048576:=qC b2 ω;omega) (l:=l) (s:=0) hc
 have h2:=X7 (2 ^ 60) (show l.length<=1048576 from ω);unfold Qmc CD;omega
def rC(t:Nat)(l:List Nc):Bool:=decide (65536<CD (λc=>c.b) l*t)
def rD(t:Nat)(l:List Nc):Bool:=(WJ l).any (Bw t l) || rC t l
def rE(t:Nat)(l:List Nc):D:=if (WJ l).any (Bw t l)=true then .tup [uI ((WJ l).getD (wH (Bw t l) (WJ l)).toNat 0),QT true] else .tup [u64 0,QT (rC t l)]
def QvA{l:List Nc}(hl:l.length<1048576)(hc:∀c∈l,c.Lt):CD (λc=>c.b) l<2 ^ 111:=by
 have h1:=Qno (g:=λc=>c.b) (M:=2 ^ 64) (λc h=>by have:=h.2.2;omega) (l:=l) (s:=0) hc;have h2:=X7 (2 ^ 64) (show l.length<=1048576 from ω);unfold CD;omega
def QvB(h:List Ob)(t:Nat)(l:List Nc)(hl:l.length<1048576)(hc:∀c∈l,c.Lt)(ht:t<=65536)(b1 b2:Nat)(h1:(h.map Ob.ro)[b1]? = some ⟨.Vt,0,1,1,λ_=>[XD l]⟩)(h2:(h.map Ob.ro)[b2]? = some ⟨.Vt,0,1,1,λ_=>[Qa t]⟩)(n:Nat)(hn:n<=1048576):
  Q6 prog 259 h [uI n,.ptr b1 0 0 0,.ptr b2 0 0 0] (λd=>d=QT (Bw t l n)):=by
 have hs:QW prog 201 [XD l,u64 n] (QN (num (Qmc l n))):=QtQ l n ω hl hc;have ha:=Qfp (Qmc l n) t n (Qvz hl hc hn) ht ω;refine xD func259 ntmps259 results259 λbase w pl F hF Q7 hb=>?_;rw[<- hF]at h1 h2;have Kx:=Qb h1;have wx:=Qb h2;simp only[go_sem];apply QF hb [0,1,3,4,1002,1005,6];simp only[go_sem,h1,h2];apply Jb hb Qqy hs;apply ZA hb;apply Jb hb QdB ha;apply ZA hb;exact⟨[],(JI F).symm,rfl⟩
def QvC(t:Nat)(l:List Nc)(hl:l.length<1048576)(hc:∀c∈l,c.Lt)(hm:yZ t l=0):QW prog 203 [Qa t,XD l] (QN (rE t l)):=by
 have ht:t<=65536:=by unfold yZ at hm;split at hm;cases hm;omega
 have Vu:=Qfp (CD (λc=>c.b) l) t 1 (QvA hl hc) ht π;have e0:(yZ t l != 0)=false:=by rw[hm];rfl
 have Gq:=Qvx l;refine xT 0 func203 ntmps203 results203 λbase w hb=>?_;simp only[go_sem];apply ZK hb cF (fa t l hl);apply Qg hb;simp only[go_sem,e0];refine VC hb [] Qqx rfl ?_ (Qvo l hl) rfl λd h hR=>?_
 .simp only[go_sem]
 obtain⟨rfl,rfl⟩:=hR;simp only[go_sem];apply Qn hb;have dI:=Qvw [⟨.one,0,1,1,λ_=>[Qa t]⟩,⟨.one,0,1,1,λ_=>[XD l]⟩] (WJ l) ω (.clo 259 0 [.ptr 1 0 0 0,.ptr 0 0 0 0]) 259 0 [.ptr 1 0 0 0,.ptr 0 0 0 0] Qq2 rfl (Bw t l) (λh' x hx hF'=>by
  obtain⟨n,rfl,j9,KJ⟩:=Qvy hx;obtain⟨g',rfl⟩:=hF';exact QvB _ t l hl hc ht 1 0 rfl rfl n KJ)
 refine Kw hb Qqe rfl ?_ dI rfl λd2 hR=>?_
 .simp only[go_sem];try exact Bd _
 subst hR;have Gi:=Qvt (Bw t l) (WJ l);unfold rE;cases hA:(WJ l).any (Bw t l)
 .rw[hA]at Gi;rw[Qc π];apply Qg hb;simp only[go_sem,Gi];apply QF hb [0,2,1001,1003,4,5];simp only[go_sem];apply Jb hb Qqw (QtO l hl hc);apply ZA hb;apply Jb hb QdB Vu;apply ZA hb;rfl
 .rw[hA]at Gi;rw[Qd rfl];have h0:0<=wH (Bw t l) (WJ l):=X8 Gi;have h1:=Qvu h0;obtain⟨j,hj⟩:∃j:Nat,wH (Bw t l) (WJ l)=(j:Int):=⟨(wH (Bw t l) (WJ l)).toNat,ω⟩;rw[hj]at Gi h1 ⊢;rw[Int.toNat_natCast]at h1;apply Qg hb;simp only[go_sem,h1];first|rfl|exact⟨rfl,rfl⟩|trace_state
def CJ(t:Int)(l:List Nc):Int:=if yZ t l≠0 then yZ t l else if rD t.toNat l=true then 22 else 0
def QvE(t)(l:List Nc)(hl:l.length<1048576)(hc:∀c∈l,c.Lt):QW prog 162 [Qa t,XD l] (QN (Qa (CJ t l))):=by
 by_cases hm:yZ t l=0
 .have ht:∃n:Nat,t=(n:Int):=⟨t.toNat,by unfold yZ at hm;split at hm;cases hm;omega⟩;obtain⟨n,rfl⟩:=ht;have e0:(yZ n l != 0)=false:=by rw[hm];rfl
  have e:CJ n l=if rD n l=true then 22 else 0:=by rw[CJ,Qc (by simpa using hm)];rfl
  rw[e];have hF:=QvC n l hl hc hm;unfold rE at hF;unfold rD;cases hA:(WJ l).any (Bw n l)
  .rw[hA,Qc π]at hF;rw[LU];refine xT 0 func162 ntmps162 results162 λbase w hb=>?_;simp only[go_sem];apply ZK hb cF (fa n l hl);apply Qg hb;simp only[go_sem,e0];apply ZK hb Qdw hF;apply Qn hb;cases rC n l
   .simp only[go_sem]
   .simp only[go_sem]
  .rw[hA,Qd rfl]at hF;rw[Bool.true_or,Qd rfl];refine xT 0 func162 ntmps162 results162 λbase w hb=>?_;simp only[go_sem];apply ZK hb cF (fa n l hl);apply Qg hb;simp only[go_sem,e0];apply ZK hb Qdw hF;exact qQ hb
 .have e0:(yZ t l != 0)=true:=by simpa using hm
  have e:CJ t l=yZ t l:=by rw[CJ,Qd hm]
  rw[e];refine xT 0 func162 ntmps162 results162 λbase w hb=>?_;simp only[go_sem];apply ZK hb cF (fa t l hl);apply Qg hb;simp only[go_sem,e0]
end Go.Fg.X
namespace Go.Fg.X
open Go.Proofs Go.Fg
open Go.Proofs.Tryz
@[go_sem] def oDg(n:Nat):Ob:=⟨.one,0,4,1,λ_=>[u64 (d0 n),u64 (d1 n),u64 (d2 n),u64 (d3 n)]⟩
end Go.Fg.X
namespace Go.Fg.X
open Go.Proofs Go.Fg
open Go.Proofs.Tryz
def rF{α:Type}[Inhabited α](L:List α)(g)(i:Nat)(h:i<L.length):(L.take (i+1)).filter g=if g (L.getD i default)=true then (L.take i).filter g++[L.getD i default] else (L.take i).filter g:=by
 rw[Fo,QP h];simp only[Option.toList_some,Pc,Q5,QP h,KR];by_cases hg:g L[i]=true
 .rw[Qd hg,Pe hg];rfl
 .rw[Qc hg,Pd hg];simp
def Qgt{α:Type}(L:List α)(g:α->Bool)(i:Nat):((L.take i).filter g).length<=i:=by
 have:=Xx g (L.take i);simp at this;omega
end Go.Fg.X
namespace Go.Fg.X
open Go.Proofs Go.Fg
open Go.Proofs.Tryz
def Wl(g:Int->Bool)(l:List Int):List Int:=l.filter λx=>!g x
def Qgu{g}{l:List Int}:(wk g l=-1/\Wl g l=l)\/∃i,i<l.length/\wk g l=(i:Int)/\g (l.getD i 0)=true/\(l.take (i+1)).filter (λx=>!g x)=l.take i:=by
 unfold wk;cases h:l.findIdx? g with
 | none=>
  refine .inl ⟨rfl,yi.2 λx hx=>?_⟩;simp[He.1 h x hx]
 | some i=>
  obtain⟨h1,h2,h3⟩:=Fi.1 h;refine .inr ⟨i,h1,rfl,by simpa[Q5,h1] using h2,?_⟩;rw[rF l _ i h1,Qc (by simpa[Q5,h1] using h2)];refine yi.2 λx hx=>?_;obtain⟨j,hj,rfl⟩:=wZ hx;simp at hj;simpa using h3 j ω
section
variable (h:List Ob)(l:List Int)(lo gn off:Nat)(row:Nat->List D)(hlen:l.length<1000000)(ho:h[lo]? = some ⟨.arr,gn,1,off+l.length,row⟩)(hr:∀i,i<l.length->row (off+i)=[Qa (l.getD i 0)])
include hlen ho hr
end
def Je(c:Cv):Nc:=⟨c.m1.toNat,c.d.toNat,c.m2.toNat⟩
def QvK{c:Cv}(h:c.Nn):((Je c).a:Int)=c.m1:=Dh h.1
def QvL{c:Cv}(h:c.Nn):((Je c).d:Int)=c.d:=Dh h.2.1
def QvM{c:Cv}(h:c.Nn):((Je c).b:Int)=c.m2:=Dh h.2.2
def QvN{c:Cv}(h:c.Nn):(Je c).cells=c.cells:=by simp only[Nc.cells,Cv.cells,u64,QvK h,QvL h,QvM h]
def fb(x:Qq):Bool:=decide (1<QR x.rt)
def Yn(L:List Qq):List Nc:=(L.filter fb).map λx=>Je x.rt
def QvO(L:List Qq):(Yn L).length<=L.length:=by
 have:=Xx fb L;unfold Yn;rw[J1];exact this
section
variable (h:List Ob)(t m c:Nat){es:List Zt}{L:List Qq}(T:Va es L)(hlen:L.length<1000000)
 (ht:(h.map Ob.ro)[t]? = some ⟨.Vt,0,1,1,λ_=>[.mref m 0]⟩) (hm:(h.map Ob.ro)[m]? = some (QK .i64 c es).ro)
include T ht hm hlen
theorem QvP(hn:∀c∈L,c.Nn):Wy prog 161 h [.ptr t 0 0 0] (λd g=>(d=.nil/\Yn L=[])\/∃lo gn row,d=.ref lo gn 0 (Yn L).length/\h.length<=lo/\(h++g)[lo]? = some ⟨.arr,gn,3,(Yn L).length,row⟩/\xL Nc.cells (Yn L) 0 row):=by
 refine xz Q4 200 func161 rfl ntmps161 results161 rfl λbase w pl F hF Q7 hb=>?_;rw[<- hF]at ht hm;have ZY:=Qb ht;have Zg:=Qb hm;simp only[go_sem];have hT:RG (F.map Ob.ro) 36 0 [] fb:=λh' x xp=>by
  refine xD func36 ntmps36 results36 λbase w pl F hF Q7 hb=>?_;simp only[go_sem,Qe];apply ZK hb cw (cU x.rt);apply JH hb;exact⟨_,rfl,rfl⟩
 obtain⟨K,hK⟩:∃K,K=L.filter fb:=⟨_,rfl⟩;have hKl:K.length<=L.length:=by rw[hK];exact Xx _ _
 have hRl:Yn L=K.map λx=>Je x.rt:=by rw[hK];rfl
 refine Cc hb cu rfl ?_ (cY _ t m c T hlen (ZC ht) (DZ hm) (.raw (.func (.func 36) ⟨[]⟩ ⟨[]⟩)) 36 0 [] yH rfl _ hT) rfl λd g hs=>?_
 .simp only[go_sem]
 rw[<- hK]at hs;rcases hs with ⟨rfl,h3⟩|⟨lo,gn,off,row,rfl,Zq,ho,hr⟩
 .have hR0:Yn L=[]:=by
   rw[hRl];have:K=[]:=by simpa using h3
   rw[this];rfl
  apply Qn hb;refine Z3 (λi s=>s=⟨[(3,.nil),(8,Qa 0),(9,Qa 0)],F++g⟩) 0 QM rfl ?_;rintro i s hi rfl;apply Qn hb;apply Qn hb;exact⟨_,rfl,.inl hR0⟩
 .obtain⟨G,hG⟩:∃G,G=F++g:=⟨_,rfl⟩;have rK:Vj F G:=⟨g,hG⟩;have htG:=rK.get ht;have hmG:=rK.get hm;rw[<- hG]at ho ⊢;have QvR:=Qb htG;have QvS:=Qb hmG;have Ql:=Qb ho;rw[J1]at ho hr;have N6:=rK.len;apply Qn hb;refine Z3 (λi s=>∃gm SO rest,xL Nc.cells ((K.take i).map λx=>Je x.rt) 0 SO/\s=⟨[(0,.ptr t 0 0 0),(3,.ref G.length gm 0 ((K.take i).map λx=>Je x.rt).length),(7,.ref lo gn off K.length),(8,Qa K.length),(9,Qa i)],G++(⟨.arr,gm,3,((K.take i).map λx=>Je x.rt).length,SO⟩::rest)⟩) K.length
   (s0:=⟨[(0,.ptr t 0 0 0),(3,.ref G.length 0 0 0),(7,.ref lo gn off K.length),(8,Qa K.length),(9,Qa 0)],G++[⟨.arr,0,3,0,λ_=>[]⟩]⟩)
   (Qz.trans (Qz.BS 3 3 (λi=>[]) rfl) (Qz.frame (by simp only[go_sem,J1]))) ⟨0,λ_=>[],[],.nil,rfl⟩ ?_
  rintro i s hi ⟨gm,SO,rest,Jy,rfl⟩;have Zb:=J9 (show i<4611686018427387904 from ω);apply Qn hb;first|refine jO hi (λQj=>?_) (λQj=>?_)|refine jP hi (λQj=>?_) (λQj=>?_)
  .obtain⟨x,hx⟩:∃x,x=K.getD i default:=⟨_,rfl⟩;have hxK:x∈K:=by rw[hx,Q5,QP Qj];exact YU Qj
   have hxL:x∈L:=by rw[hK]at hxK;exact(Jt.1 hxK).1
   have Vl:Qx L x.iD=some x:=(J6 T.sorted).2 ⟨hxL,rfl⟩;have YL:=T.look x.iD;rw[Vl,KK]at YL;have wJ:=hr i (by simpa using Qj);have QvT:(K.map (·.iD)).getD i 0=x.iD:=by
    rw[hx,Q5,Q5,Ks,QP Qj];rfl
   rw[QvT]at wJ;have ZO:(K.take (i+1)).map (λx=>Je x.rt)=(K.take i).map (λx=>Je x.rt)++[Je x.rt]:=by
    rw[Fo,QP Qj,hx,Q5,QP Qj,vK];rfl
   obtain⟨M,hM⟩:∃M,M=(K.take i).map λx=>Je x.rt:=⟨_,rfl⟩;have hMl:M.length<=i:=by rw[hM,J1,Qgv];omega
   have CI:M.length<=4294967295:=ω;rw[<- hM]at ZO Jy ⊢;have zw:=Jy.app (Je x.rt) (r2:=λ_=>(Je x.rt).cells) rfl;rw[QvN (hn x hxL).1]at zw;simp only[go_sem,Qe,Qj,htG,hmG,QvR,QvS,ho,Ql,wJ,YL,CI];refine⟨ω,_,Qz.frame (fr':=[(0,.ptr t 0 0 0),(3,.ref G.length (gm+1) 0 (M.length+1)),(7,.ref lo gn off K.length),(8,Qa K.length),(9,Qa (i+1:Nat))]) (by simp only[go_sem,Zb]),gm+1,_,rest++[⟨.arr,0,3,1,λ_=>x.rt.cells⟩],by rw[ZO];exact zw,?_⟩;rw[ZO,ZW];rfl
  .have h1:i=K.length:=ω;subst h1;rw[q9,<- hRl]at Jy ⊢;apply Qn hb;refine⟨g++(⟨.arr,gm,3,(Yn L).length,SO⟩::rest),by rw[hG,V9],.inr ⟨G.length,gm,SO,rfl,ω,?_,Jy⟩⟩;have hle:G.length=(h++g).length:=by rw[hG,ZW,ZW,Q7]
   rw[<- V9,hle,Kb (QB _),xg];rfl
theorem QvU(hn:∀c∈L,c.Nn):Q6 prog 161 h [.ptr t 0 0 0] (λd=>d=XD (Yn L)):=by
 refine QeN (XD (Yn L)) (λk=>rfl) ?_ (QvP h t m c T hlen ht hm hn);rintro d g (⟨rfl,h3⟩|⟨lo,gn,row,rfl,Zq,ho,hr⟩)
 .left;rw[h3];simp only[go_sem]
 .right;refine⟨lo,gn,3,_,row,Zq,ho,λi hi=>?_,?_⟩
  .obtain⟨a,ha⟩:=hr.all i (by simpa using hi);rw[ha];rfl
  .have e1:D.fz lo gn (Yn L).length 3 row (.ref lo gn 0 (Yn L).length)=.imm 3 (Yn L).length (rowFrom 0 row):=by simp[D.fz,Rj]
   rw[e1];simp only[XD];rw[bE];refine⟨rfl,rfl,λi hi=>?_⟩;have h1:=hr.at_ i hi;rw[JD]at h1;rw[Rt,JD,h1,Nc.xA];exact HZ (DS _) _
end
@[go_sem] def jI(n:Int):D:=.raw (.int .i64 n)
def IZ(d:Array Int):Nat->List D:=λi=>[jI d[i]!]
@[go_sem] theorem QvV(d:Array Int)(i):IZ d i=[jI d[i]!]:=rfl
@[go_sem] def By(g:Nat)(d:Array Int):Ob:=⟨.arr,g,1,d.size,IZ d⟩
def QvW{h:List Ob}{lo g}{d}(hl:lo<h.length):(h.set lo (By g d))[lo]? = some (By g d):=QE hl
def QvX(g)(d:Array Int)(i n)(x)(hn:d.size=n)(hi:i<n):
  (⟨.arr,g,1,n,λk=>bif k==i then [.raw (.int .i64 x)] else [.raw (.int .i64 d[k]!)]⟩:Ob)=By g (d.setIfInBounds i x):=by
 subst hn;unfold By;congr 1
 .simp
 .funext k;unfold IZ jI;by_cases k1:k=i
  .subst k1;simp[hi]
  .have e1:(k==i)=false:=beq_eq_false_iff_ne.mpr k1;rw[e1];by_cases k3:k<d.size
   .simp[k3,Q3 k1]
   .simp[k3]
def QvY{h:List Ob}{lo g}{d:Array Int}(ho:h[lo]? = some (By g d))(hz:d.size<1000000000):
  QH prog 178 h [.ref lo g 0 d.size] (λdd h'=>dd=.ref lo g 0 (cN (λi=>d[i]!) d.size).length/\∃row,h'=h.set lo ⟨.arr,g,1,d.size,row⟩/\(∀i,i<(cN (λi=>d[i]!) d.size).length->row i=[jI ((cN (λi=>d[i]!) d.size).getD i 0)])/\∀i,∃x,row i=[jI x]):=by
 by_cases c2:d.size<2
 .have e2:decide ((d.size:Int)<2)=true:=QU ω;have hlen:(cN (λi=>d[i]!) d.size).length=d.size:=by
   have:d.size=0\/d.size=1:=ω;rcases this with h0|h0<;>rw[h0]<;>rfl
  rw[hlen];refine QQ func178 ntmps178 results178 λbase w pl hb=>?_;have Ql:=Qb ho;simp only[go_sem,e2];exact⟨IZ d,(vq ho).symm,λi hi=>by rw[IQ _ _ hlen i hi];rfl,λi=>⟨_,rfl⟩⟩
 .have e2:decide ((d.size:Int)<2)=false:=QI ω;refine QQ func178 ntmps178 results178 λbase w pl hb=>?_;have Ql:=Qb ho;simp only[go_sem,e2];refine Z3 (λk st=>k+1<=d.size/\(cN (λi=>d[i]!) (k+1)).length=k+1/\st=⟨[(0,.ref lo g 0 d.size),(3,Qa (k+1:Nat))],h⟩) d.size (s0:=⟨[(0,.ref lo g 0 d.size),(3,Qa (0+1:Nat))],h⟩) QM ⟨ω,rfl,rfl⟩ ?_;rintro k _ hk ⟨Qj,Z7,rfl⟩;by_cases ck:k+1<d.size
  .have ek:decide (k+1<d.size)=true:=QU ck;have v1:IntKind.i64.wrap (((k+1:Nat):Int) - 1)=((k:Nat):Int):=Zu;have v2:IntKind.i64.wrap (((k+1:Nat):Int)+1)=((k+1+1:Nat):Int):=Zu;have p0:k<d.size:=ω;apply Qg hb;simp only[go_sem,ek];apply QF hb Ud;simp only[go_sem,ho,v1,ck,p0];by_cases qG:d[k+1]! = d[k]!
   .have IS:(d[k+1]! == d[k]!)=true:=beq_iff_eq.mpr qG;have JF:(cN (λi=>d[i]!) (k+1+1)).length=k+1:=by
     rw[cN,Qd ⟨ω,by simpa using qG⟩,Z7]
    have q0:k+1<=d.size:=ω;generalize hN:d.size - (k+1)=N;have v3:((d.size:Int) - ((k+1:Nat):Int)).toNat=N:=ω;simp only[go_sem,IS,q0,ho,v3];refine Z3 (λm st=>∃(d1:Array Int),d1.size=d.size/\m+1<=N/\(cN (λi=>d[i]!) (k+1+(m+1))).length<=k+1+m/\(∀i,i<(cN (λi=>d[i]!) (k+1+(m+1))).length->d1[i]! = (cN (λi=>d[i]!) (k+1+(m+1))).getD i 0)/\(∀j,(cN (λi=>d[i]!) (k+1+(m+1))).length<=j->d1[j]! = d[j]!)/\st=⟨[(0,.ref lo g 0 d.size),(3,Qa (cN (λi=>d[i]!) (k+1+(m+1))).length),(4,.ref lo g (k+1) N),(5,Qa (m+1:Nat))],h.set lo (By g d1)⟩) N (s0:=⟨[(0,.ref lo g 0 d.size),(3,Qa (cN (λi=>d[i]!) (k+1+(0+1))).length),(4,.ref lo g (k+1) N),(5,Qa (0+1:Nat))],h.set lo (By g d)⟩) ?_ ⟨d,rfl,ω,Nat.le_of_eq JF,λi hi=>?_,λj hj=>rfl,rfl⟩ ?_
    .rw[vq ho,JF];exact QM
    .rw[cN,Qd ⟨ω,by simpa using qG⟩]at hi ⊢;exact(IQ _ _ Z7 i ω).symm
    rintro m _ hm ⟨d1,ZZ,hmN,Gq,IU,nS,rfl⟩;have Jj:=QvW (g:=g) (d:=d1) Ql;have EF:cN (λi=>d[i]!) (k+1+(m+1+1))=if d[k+1+(m+1)]! = d[k+1+m]! then cN (λi=>d[i]!) (k+1+(m+1)) else cN (λi=>d[i]!) (k+1+(m+1))++[d[k+1+(m+1)]!]:=by
     rw[show k+1+(m+1+1)=(k+1+(m+1))+1 by omega,cN];simp
    generalize hC:cN (λi=>d[i]!) (k+1+(m+1))=C at *;generalize hH:h.set lo (By g d1)=H at Jj;have CE:=Qb Jj;by_cases cm:m+1<N
    .have em:decide (m+1<N)=true:=QU cm;have r1:=nS (k+1+(m+1)) ω;have r2:=nS (k+1+m) ω;have u1:k+1+(m+1)<d.size:=ω;have u2:k+1+m<d.size:=ω;have u3:m<N:=ω;have w1:IntKind.i64.wrap (((m+1:Nat):Int) - 1)=(m:Int):=Zu;have w2:IntKind.i64.wrap (((m+1:Nat):Int)+1)=((m+1+1:Nat):Int):=Zu;have w3:IntKind.i64.wrap ((C.length:Int)+1)=((C.length+1:Nat):Int):=Zu;apply Qg hb;simp only[go_sem,em];apply QF hb Ud;simp only[go_sem,Jj,ZZ,w1,cm,u1,u2,u3,r1,r2];by_cases cq:d[k+1+(m+1)]! = d[k+1+m]!
     .have nq:(d[k+1+(m+1)]! != d[k+1+m]!)=false:=by rw[cq];exact bne_self_eq_false _
      rw[Qd cq]at EF;simp only[go_sem,nq,w2];rw[EF];refine⟨ω,_,?_,d1,ZZ,ω,ω,IU,nS,rfl⟩;rw[<- hH];exact QM
     .have nq:(d[k+1+(m+1)]! != d[k+1+m]!)=true:=bne_iff_ne.mpr cq;have u4:C.length<d.size:=ω;rw[Qc cq]at EF;simp only[go_sem,nq,w2,w3,Jj,ZZ,u1,cm,u4,r1];rw[QvX g d1 _ _ _ ZZ u4,EF];refine⟨ω,_,?_,d1.setIfInBounds C.length d[k+1+(m+1)]!,by simp;exact ZZ,ω,ξ,λi hi=>?_,λj hj=>?_,rfl⟩
      .rw[<- hH,JK,ZW,kE];exact QM
      .simp only[ZW,kE]at hi;by_cases e:i=C.length
       .subst e;rw[Q5,Kb (QB _),xg];simp[ZZ,u4]
       .rw[Q5,JC ω,<- Q5,<- IU i ω];simp[Q3 e,LR,wX]
      .simp only[ZW,kE]at hj;rw[<- nS j ω];simp[show C.length≠j by omega,LR,wX]
    .have em:decide (m+1<N)=false:=QI cm;have ry:k+1+(m+1)=d.size:=ω;rw[ry]at hC;rw[hC];have g1:C.length<=d.size:=ω;have g2:((d.size:Int) - (C.length:Int)).toNat=d.size - C.length:=ω;apply Qg hb;simp only[go_sem,em];apply Qg hb;simp only[go_sem,Jj,ZZ,g1,g2];refine dJ yG hb rfl Jj rfl rfl rfl rfl (by dsimp only[By];omega) rfl rfl rfl rfl ?_;apply Qg hb;simp only[go_sem,QE CE,ZZ,g1];refine⟨σ,qk C.length (d.size - C.length) [D.raw (.int .i64 0)] (IZ d1),?_,λi hi=>?_,λi=>?_⟩
     .rw[<- hH,JK]
     .rw[dH hi];show [jI d1[i]!]=_;rw[IU i hi];rfl
     .unfold qk;cases Nat.ble C.length i&&Nat.blt i (C.length+(d.size - C.length))
      .exact⟨d1[i]!,rfl⟩
      .exact⟨0,rfl⟩
   .have IS:(d[k+1]! == d[k]!)=false:=beq_eq_false_iff_ne.mpr qG;simp only[go_sem,IS,v2];refine⟨ω,_,?_,ω,?_,rfl⟩
    .exact QM
    .rw[cN,Qc (by simpa using qG)];simp[Z7]
  .have ek:decide (k+1<d.size)=false:=QI ck;obtain JE:k+1=d.size:=ω;rw[JE]at Z7;apply Qg hb;simp only[go_sem,ek];apply Qn hb;rw[Z7];exact⟨rfl,IZ d,(vq ho).symm,λi hi=>by rw[IQ _ _ Z7 i hi];rfl,λi=>⟨_,rfl⟩⟩
def QvZ(n:Nat)(h0:0<n)(hn:n<=1048576):QW prog 226 [.nil,Qa n] (λd h=>∃row,d=.ref 0 0 0 0/\h=[⟨.arr,0,1,0,row⟩]):=by
 have RU:¬ ((n:Int)<0):=ω;have YZ:((n:Int) > 0):=ω;have w1:IntKind.i64.wrap (n:Int)=n:=by rw[IntKind.wrap_i64];omega
 refine QH.cut (R:=λd h=>d=.ref 0 0 0 0/\h=[⟨.arr,0,1,n,λ_=>[Qa 0]⟩]) ?_ (by rintro d h ⟨rfl,rfl⟩;exact⟨0,_,0,rfl,rfl,Jh _,_,rfl,rfl⟩);show QW _ _ _ _;refine xT 1 func226 ntmps226 results226 λbase w hb=>?_;simp only[go_sem];simp only[QI RU,go_sem];refine oh yG rfl rfl rfl ?_;apply Qg hb;simp only[go_sem,Qgl,Int.sub_zero,w1,QU YZ];refine oh yG rfl rfl rfl ?_;apply Qn hb;refine Qsy yG hb rfl rfl rfl rfl rfl rfl π h0 ω π rfl ?_;exact qQ hb
def Qv0:QW prog 226 [.nil,Qa 0] (QN .nil):=by
 refine xT 0 func226 ntmps226 results226 λbase w hb=>?_;simp only[go_sem];refine oh yG rfl rfl rfl ?_;apply Qg hb;simp only[go_sem,Qgl,Int.sub_zero]
def Qv1(h:List Ob)(l2)(zq)(a b:List Int)(hl:a.length+b.length<1000000)(h2:(h.map Ob.ro)[l2]? = some ⟨.yl,0,1,2,zq⟩)(e0:zq 0=[ints a])(e1:zq 1=[ints b]):
  Wy prog 177 h [.ref l2 0 0 2] (λd g=>J7 h.length (h++g) d (a++b)):=by
 have w1:IntKind.i64.wrap (a.length:Int)=(a.length:Int):=by rw[IntKind.wrap_i64];omega
 have w2:IntKind.i64.wrap ((a.length:Int)+(b.length:Int))=((a.length+b.length:Nat):Int):=by rw[IntKind.wrap_i64];omega
 have n1:decide ((a.length:Int)<0)=false:=QI ω;have n2:decide (((a.length+b.length:Nat):Int)<0)=false:=QI ω;refine xz Q4 200 func177 rfl ntmps177 results177 rfl λbase w pl F hF Q7 hb=>?_;rw[<- hF]at h2;have wx:=Qb h2;simp only[go_sem];obtain⟨sz,Yk,ZZ,Jv⟩:∃sz:Nat->Int,sz 0=0/\sz 1=a.length/\sz 2=(a.length+b.length:Nat):=⟨λi=>if i=0 then 0 else if i=1 then a.length else (a.length+b.length:Nat),rfl,rfl,rfl⟩;refine Z3 (λi s=>s=⟨[(0,.ref l2 0 0 2),(3,.raw (.int .i64 (sz i))),(9,.ref l2 0 0 2),(10,Qa 2),(11,Qa i)],F⟩) 2 (Qz.frame (by simp only[go_sem,Yk])) rfl ?_;rintro i s hi rfl;have rL:i=0\/i=1\/i=2:=ω;rcases rL with rfl|rfl|rfl
 .apply Qg hb;simp only[go_sem,h2,e0,Qgk,Yk,Int.zero_add,w1,n1];exact⟨_,Qz.frame (fr':=[(0,.ref l2 0 0 2),(3,.raw (.int .i64 (sz 1))),(9,.ref l2 0 0 2),(10,Qa 2),(11,.raw (.int .i64 1))]) (by simp only[go_sem,ZZ]),rfl⟩
 .apply Qg hb;simp only[go_sem,h2,e1,ZZ,w2,n2];exact⟨_,Qz.frame (fr':=[(0,.ref l2 0 0 2),(3,.raw (.int .i64 (sz 2))),(9,.ref l2 0 0 2),(10,Qa 2),(11,.raw (.int .i64 2))]) (by simp only[go_sem,Jv]),rfl⟩
 .apply Qg hb;simp only[go_sem,Jv];apply Qn hb;by_cases hz:a.length+b.length=0
  case' pos=>
   refine cT hb Qdx ?_ Qv0 ?_
   .simp only[go_sem,hz]
   apply Qg hb;simp only[go_sem,hz];refine DF (Qz.BS 6 1 (λ_=>[]) (by simp only[go_sem])) ?_;simp only[go_sem];generalize (λ_:Nat=>([]:List D))=QgA
  case' neg=>
   refine KE hb Qdx rfl ?_ (QvZ (a.length+b.length) ω ω) (λd h ⟨row,h1,h2⟩=>⟨by rw[h1];rfl,λo ho=>by rw[h2]at ho;simp at ho;subst ho;exact λi hi=>absurd hi (WZ i)⟩) rfl λd h' hR=>?_
   .simp only[go_sem]
   obtain⟨row,rfl,rfl⟩:=hR;apply Qn hb;generalize (λi=>xr F.length (row i))=QgA
  all_goals
   refine Z3 (λi s=>∃gn m row,(i=0->m=0)/\(i=1->m=a.length/\∀k,k<a.length->row k=[Qa (a.getD k 0)])/\(i=2->m=a.length+b.length/\∀k,k<a.length+b.length->row k=[Qa ((a++b).getD k 0)])/\s=⟨[(6,.ref F.length gn 0 m),(25,.ref l2 0 0 2),(26,Qa 2),(27,Qa i)],F++[⟨.arr,gn,1,m,row⟩]⟩) 2
    (s0:=⟨[(6,.ref F.length 0 0 0),(25,.ref l2 0 0 2),(26,Qa 2),(27,Qa 0)],F++[⟨.arr,0,1,0,QgA⟩]⟩) QM ⟨0,0,_,λ_=>rfl,λh=>absurd h π,λh=>absurd h π,rfl⟩ ?_
   rintro i s hi ⟨gn,m,row,PU,SQ,YE,rfl⟩;have rL:i=0\/i=1\/i=2:=ω;have CI:a.length<=4294967295:=ω;have Bx:a.length+b.length<=4294967295:=ω;rcases rL with rfl|rfl|rfl
   .obtain rfl:m=0:=PU rfl;apply Qg hb;simp only[go_sem,Qe,h2,wx,e0,Qgk];refine⟨ω,_,Qz.frame (fr':=[(6,.ref F.length (gn+1) 0 a.length),(25,.ref l2 0 0 2),(26,Qa 2),(27,.raw (.int .i64 1))]) (by simp only[go_sem]),_,_,_,⟨rfl,λk hk=>?_⟩,rfl⟩;rw[xk (Jh k)];rfl
   .obtain⟨rfl,hr⟩:=SQ rfl;apply Qg hb;simp only[go_sem,Qe,h2,wx,e1];refine⟨ω,_,Qz.frame (fr':=[(6,.ref F.length (gn+1) 0 (a.length+b.length)),(25,.ref l2 0 0 2),(26,Qa 2),(27,.raw (.int .i64 2))]) (by simp only[go_sem]),_,_,_,⟨rfl,λk hk=>?_⟩,rfl⟩;by_cases h1:k<a.length
    .rw[Az h1,JD,hr k h1,Q5,Q5,JC h1];rfl
    .rw[xk ω,Q5,Kb ω,<- Q5];rfl
   .obtain⟨rfl,WQ⟩:=YE rfl;apply Qn hb;apply Qn hb;refine⟨_,rfl,.inr ⟨h.length,gn,0,row,by rw[Q7,ZW],⟨QB _,rfl⟩,?_,λi hi=>by rw[JD];exact WQ i (by simpa using hi)⟩⟩;rw[KV rfl,ZW,JD];rfl
def Qv2(h:List Ob)(l2)(zq)(a b:List Int)(hl:a.length+b.length<1000000)(h2:(h.map Ob.ro)[l2]? = some ⟨.yl,0,1,2,zq⟩)(e0:zq 0=[ints a])(e1:zq 1=[ints b]):
  Q6 prog 177 h [.ref l2 0 0 2] (λd=>d=ints (a++b)):=J7.closed (Qv1 h l2 zq a b hl h2 e0 e1)
deriving instance DecidableEq for Cv
deriving instance DecidableEq for Qq
def WB(A B:List Qq)(id:Int):Bool:=decide (Qx A id≠Qx B id)
def y0(A B:List Qq):List Int:=(A.map (·.iD)++B.map (·.iD)).filter (WB A B)
def zx(L:List Int):List Int:=cN (λi=>L.getD i 0) L.length
def Kf(A B:List Qq):List Int:=zx (sorted (y0 A B))
def Qv3{L}{x}:x∈zx L↔x∈L:=by
 unfold zx;rw[rv];constructor
 .rintro⟨i,hi,rfl⟩;rw[Q5,QP hi];exact YU hi
 .intro h;obtain⟨i,hi,rfl⟩:=wZ h;exact⟨i,hi,by rw[Q5,QP hi];rfl⟩
def Qv4{L}{x}:x∈sorted L↔x∈L:=(List.mergeSort_perm _ _).mem_iff
def La{A B}{id}:id∈Kf A B↔Qx A id≠Qx B id:=by
 unfold Kf;rw[Qv3,Qv4];unfold y0;rw[Jt];unfold WB;rw[XL];constructor
 .exact λh=>h.2
 .intro h;refine⟨?_,h⟩;rw[QX];cases ha:Qx A id with
  | some c=>
   refine .inl (Z2.2 ⟨c,kF ha,?_⟩);have:=vJ ha;simpa using this
  | none=>
   cases hb:Qx B id with
   | some c=>
    refine .inr (Z2.2 ⟨c,kF hb,?_⟩);have:=vJ hb;simpa using this
   | none=>rw[ha,hb]at h;exact absurd rfl h
def Qv5(x y:Qq):(x.iD==y.iD&&(x.parent==y.parent&&(x.leaf==y.leaf&&(x.rt.m1==y.rt.m1&&(x.rt.d==y.rt.d&&(x.rt.m2==y.rt.m2&&(x.ls.m1==y.ls.m1&&(x.ls.d==y.ls.d&&(x.ls.m2==y.ls.m2&&(x.ul.m1==y.ul.m1&&(x.ul.d==y.ul.d&&(x.ul.m2==y.ul.m2&&(x.ZD==y.ZD&&x.bytes==y.bytes)))))))))))))=decide (x=y):=by
 rw[vG];simp only[Zy,jr,XL];constructor
 .rintro⟨h1,h2,h3,h4,h5,h6,h7,h8,h9,qE,Mm,FH,h13,h14⟩;obtain⟨a1,a2,a3,⟨a4,a5,a6⟩,⟨a7,a8,a9⟩,⟨b1,b2,b3⟩,b4,b5⟩:=x;obtain⟨c1,c2,c3,⟨c4,c5,c6⟩,⟨c7,c8,c9⟩,⟨d1,d2,d3⟩,d4,d5⟩:=y
  simp_all
 .rintro rfl;simp
theorem bTF:(true==false)=false:=rfl
theorem bFT:(false==true)=false:=rfl
def Qv8:QW prog 178 [.nil] (QN .nil):=by
 refine xT 0 func178 ntmps178 results178 λbase w hb=>?_;simp only[go_sem]
def Qv9{h:List Ob}{lo g}{Z:List Int}(ho:h[lo]? = some (By g Z.toArray))(hz:Z.length<1000000000):
  QH prog 178 h [.ref lo g 0 Z.length] (λdd h'=>dd=.ref lo g 0 (zx Z).length/\∃row,h'=h.set lo ⟨.arr,g,1,(zx Z).length,row⟩/\∀i,i<(zx Z).length->row i=[Qa ((zx Z).getD i 0)]):=by
 have hcN:cN (λi=>Z.toArray[i]!) Z.toArray.size=zx Z:=by
  unfold zx;congr 1;funext i;simp
 have hc:=QvY ho (by simpa using hz);rw[hcN]at hc;have hl:=Qb ho;refine QH.cut (R:=λdd h'=>dd=.ref lo g 0 (zx Z).length/\∃row,h'=h.set lo ⟨.arr,g,1,Z.toArray.size,row⟩/\(∀i,i<(zx Z).length->row i=[jI ((zx Z).getD i 0)])/\∀i,∃x,row i=[jI x]) (by simpa using hc) ?_;rintro d h' ⟨rfl,row,rfl,h1,_⟩;refine⟨lo,_,(zx Z).length,QE hl,rfl,?_,rfl,row,by rw[JK],h1⟩;have:=N4 (λi=>Z.getD i 0) Z.length;show (zx Z).length<=Z.toArray.size;simpa[zx] using this
structure Bz (F:List Ob) (A B:List Qq) (t1 t2:Nat) (L:List Int) (k:Nat) (s:St):Prop where
 ex:∃d H,J7 F.length H d ((L.take k).filter (WB A B))/\Vj F H/\s=⟨[(0,.ptr t1 0 0 0),(1,.ptr t2 0 0 0),(5,d),(17,ints L),(18,Qa L.length),(19,Qa k)],H⟩
def Bz.of{F:List Ob}{A B}{t1 t2}{L:List Int}{k:Nat}{d}{H}(hs:J7 F.length H d ((L.take k).filter (WB A B)))(hx:Vj F H):Bz F A B t1 t2 L k ⟨[(0,.ptr t1 0 0 0),(1,.ptr t2 0 0 0),(5,d),(17,ints L),(18,Qa L.length),(19,Qa k)],H⟩:=⟨⟨d,H,hs,hx,rfl⟩⟩
def Qwb{h}{t1 t2}{A B:List Qq}(RA:VN h t1 A)(RB:VN h t2 B)(hA:A.length<100000)(hB:B.length<100000):
  Wy prog 140 h [.ptr t1 0 0 0,.ptr t2 0 0 0] (λd g=>J7 h.length (h++g) d (Kf A B)):=by
 refine xz Q4 200 func140 rfl ntmps140 results140 rfl λbase w pl F hF Q7 hb=>?_;simp only[go_sem];have SR:VN F t1 A:=RA.more (KC hF);have SS:VN F t2 B:=RB.more (KC hF);apply ZQ hb Rw (R5 SR ω);apply Qn hb;apply ZQ hb Rw (R5 SS ω);apply Qn hb;obtain⟨L,hL⟩:∃L,L=A.map (·.iD)++B.map (·.iD):=⟨_,rfl⟩;have hLl:L.length<200000:=by rw[hL];simp;omega
 have V6:∀zq:Nat->List D,zq 0=[ints (A.map (·.iD))]->zq 1=[ints (B.map (·.iD))]->Q6 prog 177 (F++[⟨.arr,0,1,2,zq⟩]) [.ref F.length 0 0 2] (λd=>d=ints L):=λzq e0 e1=>by
  rw[hL];exact Qv2 _ F.length zq _ _ ξ (ZC (show (F++[⟨.arr,0,1,2,zq⟩])[F.length]? = some ⟨.arr,0,1,2,zq⟩ by rw[KV rfl];rfl)) e0 e1
 apply ZQ hb Qqi (V6 _ (by exact rfl) (by exact rfl));apply Qn hb;refine Z3 (Bz F A B t1 t2 L) L.length (s0:=⟨[(0,.ptr t1 0 0 0),(1,.ptr t2 0 0 0),(5,.nil),(17,ints L),(18,Qa L.length),(19,Qa 0)],_⟩) QM ⟨⟨_,_,.inl ⟨rfl,σ⟩,⟨_,rfl⟩,rfl⟩⟩ ?_;rintro k _ hk ⟨d,H,hs,hx,rfl⟩;have RA3:∀g,VN (H++g) t1 A:=λg=>by
  obtain⟨x,rfl⟩:=hx;exact SR.more λl o e=>by rw[V9];exact zZ l o e
 have RB3:∀g,VN (H++g) t2 B:=λg=>by
  obtain⟨x,rfl⟩:=hx;exact SS.more λl o e=>by rw[V9];exact zZ l o e
 have RA4:VN H t1 A:=by have:=RA3 [];rwa [JI]at this
 by_cases Qj:k<L.length
 .have dk:=QU Qj;obtain⟨id,Q8⟩:∃id,id=L.getD k 0:=⟨_,rfl⟩;have Jk:(L.take (k+1)).filter (WB A B)=(L.take k).filter (WB A B)++(if WB A B id then [id] else []):=by
   rw[getD_take L 0 k Qj,Pc,<- Q8];cases hq:WB A B id<;>simp[hq]
  have ga:=Cw RA4 id;have gb:=λg=>Cw (RB3 g) id;have Zb:=J9 (show k<4611686018427387904 from ω);cases ha:Qx A id with
  | some x=>
   rw[ha]at ga;simp only[KR,za,Vs]at ga;cases ZB:Qx B id with
   | some y=>
    rw[ZB]at gb;simp only[KR,za,Vs]at gb;apply Qg hb;simp only[go_sem,Qj,<- Q8];apply ZQ hb qf ga;apply JH hb;apply ZQ hb qf (gb _);apply Qg hb;simp only[go_sem,Qe,bne,Qv5];by_cases e:x=y
    .have hq:WB A B id=false:=by unfold WB;rw[ha,ZB,e];simp
     have dx:=QU e;simp only[go_sem,dx];refine⟨Qj,_,Qz.frame (fr':=[(0,.ptr t1 0 0 0),(1,.ptr t2 0 0 0),(5,d),(17,ints L),(18,Qa L.length),(19,Qa (k+1:Nat))]) (by simp only[go_sem,Zb]),Bz.of (by rw[Jk,hq,Qc π,JI];exact hs.app _) (hx.app _)⟩
    .have hq:WB A B id=true:=by unfold WB;rw[ha,ZB];simpa using e
     have dx:=QI e;rcases hs with ⟨rfl,Yk⟩|⟨lo,g,off,row,rfl,⟨Zq,rfl⟩,ho,hr⟩
     .simp only[go_sem,Qe,dx];refine⟨Qj,_,Qz.frame (fr':=[(0,.ptr t1 0 0 0),(1,.ptr t2 0 0 0),(5,.ref (H.length+3) 0 0 1),(17,ints L),(18,Qa L.length),(19,Qa (k+1:Nat))]) (by simp only[go_sem,Zb]),Bz.of (.inr ⟨H.length+3,0,0,λ_=>[Qa id],?_,⟨by have:=hx.len;omega,rfl⟩,?_,?_⟩) (hx.app _)⟩
      .rw[Jk,Yk,hq];rfl
      .rw[Jk,Yk,hq,VD rfl];rfl
      .rw[Jk,Yk,hq];intro i hi;obtain rfl:i=0:=by simp at hi;omega
       rfl
     .have Ql:=Qb ho;rw[JD]at ho;simp only[go_sem,Qe,dx,ho,Ql];refine⟨by have:=Xx (WB A B) (L.take k);simp at this;omega,Qj,_,Qz.frame (fr':=[(0,.ptr t1 0 0 0),(1,.ptr t2 0 0 0),(5,.ref lo (g+1) 0 (((L.take k).filter (WB A B)).length+1)),(17,ints L),(18,Qa L.length),(19,Qa (k+1:Nat))]) (by simp only[go_sem,Zb]),Bz.of (.inr ⟨lo,g+1,0,Kt ((L.take k).filter (WB A B)).length 0 row (λ_=>[Qa id]),?_,⟨Zq,rfl⟩,?_,?_⟩) ((hx.set Zq _).app _)⟩
      .rw[Jk,hq];simp
      .rw[Jk,hq,QG (by simpa using Ql),QE Ql];simp[Qa]
      .rw[Jk,hq];exact Ie hr
   | none=>
    rw[ZB]at gb;simp only[xh,q7,vN]at gb;have hq:WB A B id=true:=by unfold WB;rw[ha,ZB];simp
    apply Qg hb;simp only[go_sem,Qj,<- Q8];apply ZQ hb qf ga;apply JH hb;apply ZQ hb qf (gb _);apply Qg hb;simp only[go_sem,Qe,bne,Go.undef,bTF];rcases hs with ⟨rfl,Yk⟩|⟨lo,g,off,row,rfl,⟨Zq,rfl⟩,ho,hr⟩
    ·(try simp only[go_sem])
     refine⟨Qj,_,Qz.frame (fr':=[(0,.ptr t1 0 0 0),(1,.ptr t2 0 0 0),(5,.ref (H.length+3) 0 0 1),(17,ints L),(18,Qa L.length),(19,Qa (k+1:Nat))]) (by simp only[go_sem,Zb]),Bz.of (.inr ⟨H.length+3,0,0,λ_=>[Qa id],?_,⟨by have:=hx.len;omega,rfl⟩,?_,?_⟩) (hx.app _)⟩
     .rw[Jk,Yk,hq];rfl
     .rw[Jk,Yk,hq,VD rfl];rfl
     .rw[Jk,Yk,hq];intro i hi;obtain rfl:i=0:=by simp at hi;omega
      rfl
    .have Ql:=Qb ho;rw[JD]at ho;simp only[go_sem,Qe,ho,Ql];refine⟨by have:=Xx (WB A B) (L.take k);simp at this;omega,Qj,_,Qz.frame (fr':=[(0,.ptr t1 0 0 0),(1,.ptr t2 0 0 0),(5,.ref lo (g+1) 0 (((L.take k).filter (WB A B)).length+1)),(17,ints L),(18,Qa L.length),(19,Qa (k+1:Nat))]) (by simp only[go_sem,Zb]),Bz.of (.inr ⟨lo,g+1,0,Kt ((L.take k).filter (WB A B)).length 0 row (λ_=>[Qa id]),?_,⟨Zq,rfl⟩,?_,?_⟩) ((hx.set Zq _).app _)⟩
     .rw[Jk,hq];simp
     .rw[Jk,hq,QG (by simpa using Ql),QE Ql];simp[Qa]
     .rw[Jk,hq];exact Ie hr
  | none=>
   rw[ha]at ga;simp only[xh,q7,vN]at ga;cases ZB:Qx B id with
   | some y=>
    rw[ZB]at gb;simp only[KR,za,Vs]at gb;have hq:WB A B id=true:=by unfold WB;rw[ha,ZB];simp
    apply Qg hb;simp only[go_sem,Qj,<- Q8];apply ZQ hb qf ga;apply JH hb;apply ZQ hb qf (gb _);apply Qg hb;simp only[go_sem,Qe,bne,Go.undef,bFT];rcases hs with ⟨rfl,Yk⟩|⟨lo,g,off,row,rfl,⟨Zq,rfl⟩,ho,hr⟩
    ·(try simp only[go_sem])
     refine⟨Qj,_,Qz.frame (fr':=[(0,.ptr t1 0 0 0),(1,.ptr t2 0 0 0),(5,.ref (H.length+3) 0 0 1),(17,ints L),(18,Qa L.length),(19,Qa (k+1:Nat))]) (by simp only[go_sem,Zb]),Bz.of (.inr ⟨H.length+3,0,0,λ_=>[Qa id],?_,⟨by have:=hx.len;omega,rfl⟩,?_,?_⟩) (hx.app _)⟩
     .rw[Jk,Yk,hq];rfl
     .rw[Jk,Yk,hq,VD rfl];rfl
     .rw[Jk,Yk,hq];intro i hi;obtain rfl:i=0:=by simp at hi;omega
      rfl
    .have Ql:=Qb ho;rw[JD]at ho;simp only[go_sem,Qe,ho,Ql];refine⟨by have:=Xx (WB A B) (L.take k);simp at this;omega,Qj,_,Qz.frame (fr':=[(0,.ptr t1 0 0 0),(1,.ptr t2 0 0 0),(5,.ref lo (g+1) 0 (((L.take k).filter (WB A B)).length+1)),(17,ints L),(18,Qa L.length),(19,Qa (k+1:Nat))]) (by simp only[go_sem,Zb]),Bz.of (.inr ⟨lo,g+1,0,Kt ((L.take k).filter (WB A B)).length 0 row (λ_=>[Qa id]),?_,⟨Zq,rfl⟩,?_,?_⟩) ((hx.set Zq _).app _)⟩
     .rw[Jk,hq];simp
     .rw[Jk,hq,QG (by simpa using Ql),QE Ql];simp[Qa]
     .rw[Jk,hq];exact Ie hr
   | none=>
    rw[ZB]at gb;simp only[xh,q7,vN]at gb;have hq:WB A B id=false:=by unfold WB;rw[ha,ZB];simp
    apply Qg hb;simp only[go_sem,Qj,<- Q8];apply ZQ hb qf ga;apply JH hb;apply ZQ hb qf (gb _);apply Qg hb;simp only[go_sem,Qe,bne];refine⟨Qj,_,Qz.frame (fr':=[(0,.ptr t1 0 0 0),(1,.ptr t2 0 0 0),(5,d),(17,ints L),(18,Qa L.length),(19,Qa (k+1:Nat))]) (by simp only[go_sem,Zb]),Bz.of (by rw[Jk,hq,Qc π,JI];exact hs.app _) (hx.app _)⟩
 .have Jf:k=L.length:=ω;have dk:=QI Qj;rw[Jf,q9]at hs;have Ed:y0 A B=L.filter (WB A B):=by rw[hL];rfl
  rw[<- Ed]at hs;have QFs:(y0 A B).length<200000:=by have:=Xx (WB A B) L;rw[Ed];omega
  rcases hs with ⟨rfl,Yk⟩|⟨lo,g,off,row,rfl,⟨Zq,rfl⟩,ho,hr⟩
  .apply Qg hb;simp only[go_sem,dk];apply Qn hb;refine Zw hb cB (Qd9 H) λd h hR=>?_;obtain⟨rfl,rfl⟩:=hR;apply Qn hb;have ht:Kf A B=[]:=by unfold Kf;rw[Yk];simp[sorted,zx,cN]
   apply ZK hb Qdt Qv8;apply Qn hb;exact J7.done Q7 hx (.inl ⟨rfl,ht⟩)
  .have Ql:=Qb ho;apply Qg hb;simp only[go_sem,dk];apply Qn hb;refine Zw hb cB (Qd8 ho ω hr ω) λd h hR=>?_;obtain⟨rfl,rfl⟩:=hR;apply Qn hb;obtain⟨Z,hZ⟩:∃Z,Z=sorted (y0 A B):=⟨_,rfl⟩;have hZl:Z.length=(y0 A B).length:=by rw[hZ,Ge]
   rw[<- hZ,<- hZl];refine Rp (Qz.rows lo (IZ Z.toArray) (QE Ql) (λi hi=>?_)) ?_
   .dsimp only at hi ⊢;unfold kZ;rw[Qd ⟨Jh _,ω⟩,Dl,QvV];simp[jI]
   rw[JK];dsimp only;have ht:zx Z=Kf A B:=by rw[hZ];rfl
   have hc:=Qv9 (h:=H.set lo (By g Z.toArray)) (lo:=lo) (g:=g) (Z:=Z) (QE Ql) ω;rw[ht]at hc;have Ju:Z.toArray.size=Z.length:=σ;rw[<- Ju];refine Zw hb Qdt (Ju▸hc) λd h hR=>?_;obtain⟨rfl,JU,rfl,EH⟩:=hR;apply Qn hb;rw[JK];refine J7.done Q7 (hx.set Zq _) (.inr ⟨lo,g,0,JU,rfl,⟨Zq,rfl⟩,by rw[QE Ql,JD],λi hi=>by rw[JD];exact EH i hi⟩)
def QgC{h}{t1 t2}{A B:List Qq}(RA:VN h t1 A)(RB:VN h t2 B)(hA:A.length<100000)(hB:B.length<100000):
  Q6 prog 140 h [.ptr t1 0 0 0,.ptr t2 0 0 0] (λd=>d=ints (Kf A B)):=J7.closed (Qwb RA RB hA hB)
def kb(T:List Qq):Prop:=∀c∈T,Qq.Ok c
def Cv.Ok.nn{c:Cv}(h:Cv.Ok c):c.Nn:=⟨(wf_u64 h.1).1,(wf_u64 h.2.1).1,(wf_u64 h.2.2.1).1⟩
def Qq.Ok.nn{c:Qq}(h:Qq.Ok c):c.Nn:=⟨h.2.2.2.1.nn,h.2.2.2.2.1.nn,h.2.2.2.2.2.1.nn⟩
def Cv.Ok.lt{c:Cv}(h:Cv.Ok c):(Je c).Lt:=by
 have h1:=wf_u64 h.1;have h2:=wf_u64 h.2.1;have h3:=wf_u64 h.2.2.1;refine⟨?_,?_,?_⟩<;>(simp only[Je];omega)
def kb.Qwg{T}(h:kb T):∀c∈Yn T,c.Lt:=λc hc=>by
 obtain⟨x,hx,rfl⟩:=Z2.1 hc;exact(h x (Jt.1 hx).1).2.2.2.1.lt
def kb.one{T}(h:kb T)(hr:WU T){c}(hc:JN.Ok c):kb (Bq T c):=by
 unfold Bq;split
 .split
  .exact λd hd=>h d (Jt.1 hd).1
  .intro d hd;rcases yO hr c.cls hd with rfl|hd
   .exact hc.2.1
   .exact h d hd
 .exact h
def qt:List Qq->List JN->Nat->Int × Nat × List Qq
 | T,[],_=>(0,0,T)
 | T,c::l,i=>if wG T c≠0 then (wG T c,i,T) else qt (Bq T c) l (i+1)
def u6(T:List Qq)(t:Int)(l:List JN):Int:=
 if 32<l.length then 2 else if (qt T l 0).1≠0 then (qt T l 0).1 else CJ t (Yn (qt T l 0).2.2)
def N7(T:List Qq)(l:List JN):Nat:=if 32<l.length then 0 else if (qt T l 0).1≠0 then (qt T l 0).2.1 else 0
def JA(T:List Qq)(l:List JN):List Qq:=(qt T l 0).2.2
def QgD:∀(l:List JN) (T:List Qq) (i:Nat),JG T->kb T->(∀c∈l,JN.Ok c)->JG (qt T l i).2.2/\kb (qt T l i).2.2
 | [],T,i,I,K,_=>⟨I,K⟩
 | c::l,T,i,I,K,hc=>by
  rw[qt];split
  .exact⟨I,K⟩
  .exact QgD l _ _ (I.one c) (K.one I.rising (hc c σ)) λd hd=>hc d (by simp[hd])
def Qwh{T0 T}{l:List JN}{k}(hk:k<l.length)(h:qt T0 l 0=qt T (l.drop k) k):qt T0 l 0=if wG T (l.getD k default)≠0 then (wG T (l.getD k default),k,T) else qt (Bq T (l.getD k default)) (l.drop (k+1)) (k+1):=by
 rw[h,Pa hk,qt,Q5,QP hk];rfl
@[go_sem] def SU(l:List JN):D:=.imm 15 l.length (JN.rows l)
def Qwi{S}{h}{t}{T}(R:VM S h t T)(I:JG T)(K:kb T)(n)(KJ:1<=n)(KO:n<=65536)(l:List JN)(hc:∀c∈l,JN.Ok c)(hl:l.length<1000000):
  QH prog 139 h [.ptr t 0 0 0,Qa n,SU l] (λd h'=>∃p,d=.tup [if u6 T n l=0 then .ptr p 0 0 0 else .raw (.pointer none),Qa (N7 T l),Qa (u6 T n l)]/\(u6 T n l=0->VM (λl=>h.length<=l) h' p (JA T l))/\∃g,h'=h++g):=by
 have d1:decide (n<1)=false:=QI ω;have d2:decide (65536<n)=false:=QI ω;by_cases GG:32<l.length
 .have d3:decide ((32:Int)<(l.length:Int))=true:=QU ω;have e1:u6 T n l=2:=Qd GG;have e2:N7 T l=0:=Qd GG;refine QQ func139 ntmps139 results139 λbase w pl hb=>?_;simp only[go_sem,d1,d2,d3];rw[e1,e2];exact⟨0,rfl,(λh=>absurd h π),[],(JI _).symm⟩
 .have d3:decide ((32:Int)<(l.length:Int))=false:=QI ω;refine QQ func139 ntmps139 results139 λbase w pl hb=>?_;simp only[go_sem,d1,d2,d3];refine Zw hb Qdn (QfG R) λd h hR=>?_;obtain⟨rfl,R2,g,rfl,hg⟩:=hR;apply Qn hb;have MF:N7 T l=if (qt T l 0).1≠0 then (qt T l 0).2.1 else 0:=Qc GG;have SV:u6 T n l=if (qt T l 0).1≠0 then (qt T l 0).1 else CJ n (Yn (qt T l 0).2.2):=Qc GG;refine Z3 (λk st=>∃Tk H,VM (λl=>h.length<=l) H (h.length+1) Tk/\JG Tk/\kb Tk/\qt T l 0=qt Tk (l.drop k) k/\(∃g,H=h++g)/\st=⟨[(1,Qa n),(9,.ptr (h.length+1) 0 0 0),(30,SU l),(31,Qa l.length),(32,Qa k)],H⟩) l.length (s0:=⟨[(1,Qa n),(9,.ptr (h.length+1) 0 0 0),(30,SU l),(31,Qa l.length),(32,Qa 0)],h++g⟩) QM ⟨T,_,R2,I,K,rfl,⟨_,rfl⟩,rfl⟩ ?_;rintro k _ hk ⟨Tk,H,Rk,Ik,Kk,vX,⟨g2,rfl⟩,rfl⟩;by_cases Qj:k<l.length
  .have dk:=QU Qj;have Jk:=Qwh Qj vX;have hcx:JN.Ok (l.getD k default):=hc _ (qg l default k Qj);obtain⟨x,hx⟩:∃x,x=l.getD k default:=⟨_,rfl⟩;rw[<- hx]at Jk hcx;have UW:=λg=>(show QH prog 176 (h++(g2++g)) [.ptr (h.length+1) 0 0 0,.agg x.cells] (λd h'=>d=Qa (wG Tk x)/\VM (λl=>h.length<=l/\l<(h++g2).length) h' (h.length+1) (Bq Tk x)/\Step (λl=>h.length<=l/\l<(h++g2).length) (h++(g2++g)) h') by rw[<- V9];exact Qun (Rk.app g) Ik x);have Zb:=J9 (show k<4611686018427387904 from ω);apply Qg hb;simp only[go_sem,Qe,Qj,JN.xA,<- hx];refine Zw hb Qqh (UW _) λd h6 hR=>?_;obtain⟨rfl,R6,s6⟩:=hR;have hg6:∃g,h6=h++g:=by
    refine⟨h6.drop h.length,?_⟩;apply wY;intro i;by_cases hi:i<h.length
    .rw[QG hi,s6.keep i ξ (λh=>by have:=h.1;omega),QG hi]
    .rw[Kb ω,Fj];congr 1;omega
   have R7:VM (λl=>h.length<=l) h6 (h.length+1) (Bq Tk x):=R6.step λl _ hs=>⟨hs.1,rfl⟩;apply Qn hb;by_cases h0:wG Tk x=0
   .rw[Qc (by simpa using h0)]at Jk;have d0:(wG Tk x != 0)=false:=by simpa using h0
    simp only[go_sem,d0];exact⟨Qj,_,Qz.frame (by simp only[go_sem,Zb]),Bq Tk x,_,R7,Ik.one x,Kk.one Ik.rising hcx,Jk,hg6,rfl⟩
   .rw[Qd (by simpa using h0)]at Jk;have d0:(wG Tk x != 0)=true:=by simpa using h0
    simp only[go_sem,d0];rw[MF,SV,Jk];simp only[Qd (show wG Tk x≠0 from h0),Qc h0];exact⟨0,trivial,(λh=>absurd h h0),hg6⟩
  .have Jf:k=l.length:=ω;have dk:=QI Qj;rw[Jf,List.drop_length,qt]at vX;rw[vX]at MF SV;simp only[ne_eq,not_true_eq_false,vN]at MF SV;have hT:JA T l=Tk:=by unfold JA;rw[vX]
   have hlen:=Ik.len;have GH:Q6 prog 161 (h++g2) [.ptr (h.length+1) 0 0 0] (λd=>d=XD (Yn Tk)):=by
    obtain⟨m,c,es,h1,h2,h3⟩:=Rk.toR;exact QvU _ _ m c h3 ω h1 h2 (λx hx=>(Kk x hx).nn)
   have Kc:=QvO Tk;apply Qg hb;simp only[go_sem,dk];apply Qn hb;apply ZQ hb Qqf GH;apply Qn hb;apply ZK hb Qqg (QvE n (Yn Tk) ω Kk.Qwg);apply JH hb;rw[MF,SV,hT];by_cases h0:CJ n (Yn Tk)=0
   .have d0:(CJ n (Yn Tk) != 0)=false:=by simpa using h0
    simp only[go_sem,d0];rw[h0];exact⟨h.length+1,σ,λ_=>Rk,g2,rfl⟩
   .have d0:(CJ n (Yn Tk) != 0)=true:=by simpa using h0
    simp only[go_sem,d0];exact⟨0,by simp[h0],λh=>absurd h h0,g2,rfl⟩
def fc{T}(I:JG T)(K:kb T){l}(hc:∀c∈l,JN.Ok c):JG (JA T l)/\kb (JA T l):=QgD l T 0 I K hc
def GI(T:List Qq)(id:Int):Bool:=decide (1<QR ((Qx T id).getD default).rt)
def rM(A B:List Qq):Bool:=(Kf A B).any λid=>GI A id || GI B id
structure Nd where
 c:Qq
 QO:Nat
 du:Du
 sh:Sh
 cp:Cp
 q:Qu
instance:Inhabited Nd:=⟨⟨default,0,default,default,default,default⟩⟩
def KQ(d:D)(n:Nd):List D:=d::(n.c.cells++(u64 n.QO::(n.du.cells++(n.sh.cells++n.cp.cells))))
section
variable (d:D)(n:Nd)
@[go_sem] theorem QFt:(KQ d n).getD 0 D.undef=d:=rfl
@[go_sem] theorem QFu:(List.drop 1 (KQ d n)).getD 0 D.undef=Qa n.c.iD:=rfl
@[go_sem] theorem QFv:(List.drop 2 (KQ d n)).getD 0 D.undef=Qa n.c.parent:=rfl
@[go_sem] theorem QFw:(List.drop 3 (KQ d n)).getD 0 D.undef=QT n.c.leaf:=rfl
@[go_sem] theorem QFx:(List.drop 15 (KQ d n)).getD 0 D.undef=u64 n.QO:=rfl
@[go_sem] theorem QFy:(List.drop 36 (KQ d n)).getD 0 D.undef=u64 n.du.XZ:=rfl
@[go_sem] theorem QFz:(List.drop 37 (KQ d n)).getD 0 D.undef=u64 n.du.dead:=rfl
@[go_sem] theorem QFA:(List.drop 48 (KQ d n)).getD 0 D.undef=u64 n.sh.time:=rfl
@[go_sem] theorem QFB:(List.drop 59 (KQ d n)).getD 0 D.undef=u64 n.cp.fit:=rfl
@[go_sem] theorem QFC:List.take 14 (List.drop 1 (KQ d n))=n.c.cells:=rfl
@[go_sem] theorem QFD:List.take 3 (List.drop 4 (KQ d n))=n.c.rt.cells:=rfl
@[go_sem] theorem QFE:List.take 3 (List.drop 7 (KQ d n))=n.c.ls.cells:=rfl
@[go_sem] theorem QFF:List.take 3 (List.drop 10 (KQ d n))=n.c.ul.cells:=rfl
@[go_sem] theorem QFG:List.take 22 (List.drop 16 (KQ d n))=n.du.cells:=rfl
@[go_sem] theorem QFH:List.take 11 (List.drop 38 (KQ d n))=n.sh.cells:=rfl
@[go_sem] theorem QFI:List.take 11 (List.drop 49 (KQ d n))=n.cp.cells:=rfl
@[go_sem] theorem QFJ(v):List.take 15 (KQ d n)++(.raw (.int .u64 ((v:Nat):Int))::List.drop 16 (KQ d n))=KQ d { n with QO:=v }:=rfl
@[go_sem] theorem QFK(x:Du):List.take 16 (KQ d n)++(.raw (.bool x.has)::.raw (.int .u64 ((x.dl.f.x:Nat):Int))::.raw (.int .u64 ((x.dl.f.y / 18446744073709551616:Nat):Int))::.raw (.int .u64 ((x.dl.f.y % 18446744073709551616:Nat):Int))::.raw (.int .u64 ((x.dl.f.m:Nat):Int))::.raw (.int .u64 ((x.dl.t.x:Nat):Int))::.raw (.int .u64 ((x.dl.t.y / 18446744073709551616:Nat):Int))::.raw (.int .u64 ((x.dl.t.y % 18446744073709551616:Nat):Int))::.raw (.int .u64 ((x.dl.t.m:Nat):Int))::.raw (.bool x.dl.b)::.raw (.int .u64 ((x.rd.f.x:Nat):Int))::.raw (.int .u64 ((x.rd.f.y / 18446744073709551616:Nat):Int))::.raw (.int .u64 ((x.rd.f.y % 18446744073709551616:Nat):Int))::.raw (.int .u64 ((x.rd.f.m:Nat):Int))::.raw (.int .u64 ((x.rd.t.x:Nat):Int))::.raw (.int .u64 ((x.rd.t.y / 18446744073709551616:Nat):Int))::.raw (.int .u64 ((x.rd.t.y % 18446744073709551616:Nat):Int))::.raw (.int .u64 ((x.rd.t.m:Nat):Int))::.raw (.bool x.rd.b)::.raw (.int .u64 ((x.JL:Nat):Int))::.raw (.int .u64 ((x.XZ:Nat):Int))::.raw (.int .u64 ((x.dead:Nat):Int))::List.drop 38 (KQ d n))=KQ d { n with du:=x }:=rfl
@[go_sem] theorem Qwj(x:Sh):List.take 38 (KQ d n)++(.raw (.bool x.has)::.raw (.int .u64 ((x.run.f.x:Nat):Int))::.raw (.int .u64 ((x.run.f.y / 18446744073709551616:Nat):Int))::.raw (.int .u64 ((x.run.f.y % 18446744073709551616:Nat):Int))::.raw (.int .u64 ((x.run.f.m:Nat):Int))::.raw (.int .u64 ((x.run.t.x:Nat):Int))::.raw (.int .u64 ((x.run.t.y / 18446744073709551616:Nat):Int))::.raw (.int .u64 ((x.run.t.y % 18446744073709551616:Nat):Int))::.raw (.int .u64 ((x.run.t.m:Nat):Int))::.raw (.bool x.run.b)::.raw (.int .u64 ((x.time:Nat):Int))::List.drop 49 (KQ d n))=KQ d { n with sh:=x }:=rfl
@[go_sem] theorem QFL(x:Cp):List.take 49 (KQ d n)++(.raw (.bool x.has)::.raw (.int .u64 ((x.run.f.x:Nat):Int))::.raw (.int .u64 ((x.run.f.y / 18446744073709551616:Nat):Int))::.raw (.int .u64 ((x.run.f.y % 18446744073709551616:Nat):Int))::.raw (.int .u64 ((x.run.f.m:Nat):Int))::.raw (.int .u64 ((x.run.t.x:Nat):Int))::.raw (.int .u64 ((x.run.t.y / 18446744073709551616:Nat):Int))::.raw (.int .u64 ((x.run.t.y % 18446744073709551616:Nat):Int))::.raw (.int .u64 ((x.run.t.m:Nat):Int))::.raw (.bool x.run.b)::.raw (.int .u64 ((x.fit:Nat):Int))::List.drop 60 (KQ d n))=KQ d { n with cp:=x }:=rfl
end
inductive Tag where
 | no|sc|tree|rN|wj (id:Int)|x5 (id:Int)|on|lv|mk|XG (id:Int)|Qwk
deriving DecidableEq
def QV(own:Nat->Tag)(h:List Ob)(t:Tag):Nat->Tag:=λl=>if h.length<=l then t else own l
def fe{own}{h}{t}(l):more (λl=>own l=t) h l->QV own h t l=t:=λhl=>by
 unfold QV;split
 .rfl
 .rcases hl with hl|hl
  .exact hl
  .omega
def Kg{own}{h:List Ob}{t}{l}(hl:l<h.length):QV own h t l=own l:=by unfold QV;rw[Qc ω]
structure Qk where
 lk:Cf
 T:List Qq
 To:List Qq
 N:List Nd
 A:List Int
 Lv:List It
 ks:Int->Bool
 KT:Int->List It
 Qf:Nat
 acc:Nat
structure Loc where
 t:Nat
 b:Nat
 o:Nat
 v:Nat
 m:Nat
 cb:Nat
 cm:Nat
 eb:List Zt
 em:List Zt
 le:Int->Nat
 lq:Int->Nat
 lk:Int->Nat
def Qh(N:List Nd)(id:Int):Option Nd:=N.find? λn=>n.c.iD==id
@[go_sem] def je(c:Cf)(t b o v m Qf acc:Nat):Ob:=⟨.one,0,9,1,λ_=>[Qa c.t,Qa c.ZX,.ptr t 0 0 0,.mref b 0,.ptr o 0 0 0,.ptr v 0 0 0,.mref m 0,u64 Qf,u64 acc]⟩
@[go_sem] def Yo(d:D)(n:Nd):Ob:=⟨.one,0,60,1,λ_=>KQ d n⟩
def qD(lq:Int->Nat)(n:Nd):D:=if n.c.leaf=true then .ptr (lq n.c.iD) 0 0 0 else .raw (.pointer none)
structure Nd.Ok (n:Nd):Prop where
 QO:n.QO<18446744073709551616
 du:n.du.Ok
 sh:n.sh.Ok
 cp:n.cp.Ok
 c:Qq.Ok n.c
structure Zr (own:Nat->Tag) (h:List Ob) (p:Nat) (L:Loc) (M:Qk):Prop where
 ob:h[p]? = some (je M.lk L.t L.b L.o L.v L.m M.Qf M.acc)
 op:own p=.sc
 tr:VM (λl=>own l=.tree) h L.t M.T
 Vv:h[L.b]? = some (QK .i64 L.cb L.eb)
 qp:KW L.eb (λid=>(Qh M.N id).map λ_=>.ptr (L.le id) 0 0 0)
 ow:own L.b=.rN
 Jm:∀id n,Qh M.N id=some n->h[L.le id]? = some (Yo (qD L.lq n) n)/\own (L.le id)=.wj id
 WX:∀id n,Qh M.N id=some n->n.c.leaf=true->∃k:Nat,n.c.ZD=k/\vn (λl=>own l=.x5 id) h (L.lq id) k n.c.bytes n.q
 YM:zn (λl=>own l=.on) h L.o M.To M.A
 XH:WA (λl=>own l=.lv) h L.v M.Lv
 VP:h[L.m]? = some (QK .i64 L.cm L.em)
 Xr:KW L.em (λid=>if M.ks id=true then some (.ptr (L.lk id) 0 0 0) else none)
 om:own L.m=.mk
 kids:∀id,M.ks id=true->WA (λl=>own l=.XG id) h (L.lk id) (M.KT id)
 YN:∀id n,Qh M.N id=some n->n.Ok
def WA.step{S S'}{h h':List Ob}{p}{L}(e:∀l,l<h.length->S l->S' l/\h'[l]? = h[l]?):WA S h p L->WA S' h' p L:=λ⟨a,m,t,c,es,T⟩=>
 have k:∀l o,S l->h[l]? = some o->h'[l]? = some o:=λl o h1 h2=>(e l (Qb h2) h1).2.trans h2
 ⟨a,m,t,c,es,k _ _ T.sp T.o,⟨k _ _ T.sa T.av.o,T.av.is.frame λl hl=>(e l (T.av.is.lt l hl) (T.st l hl)).2,T.av.list,T.av.nd,T.av.out,T.av.sorted⟩,k _ _ T.sm T.mo,T.mp,T.vi,T.pa,T.pm,T.am,T.pt,T.mt,(e _ (Qb T.o) T.sp).1,(e _ (Qb T.av.o) T.sa).1,(e _ (Qb T.mo) T.sm).1,λl hl=>(e l (T.av.is.lt l hl) (T.st l hl)).1⟩
def Live(t:Tag):Prop:=t≠.no/\t≠.Qwk
def Zr.step{own own'}{h h':List Ob}{p}{L}{M}(C:Zr own h p L M)(e:∀l,l<h.length->Live (own l)->own' l=own l/\h'[l]? = h[l]?):Zr own' h' p L M:=by
 have k:∀l o t,own l=t->Live t->h[l]? = some o->h'[l]? = some o:=λl o t h1 h2 h3=>(e l (Qb h3) (by rw[h1];exact h2)).2.trans h3;have o1:∀l o t,own l=t->Live t->h[l]? = some o->own' l=t:=λl o t h1 h2 h3=>by rw[(e l (Qb h3) (by rw[h1];exact h2)).1,h1]
 have s:∀t,Live t->∀l,l<h.length->own l=t->own' l=t/\h'[l]? = h[l]? := λt h2 l hl h1=>by
  obtain⟨a,b⟩:=e l hl (by rw[h1];exact h2);exact⟨by rw[a,h1],b⟩
 refine⟨k _ _ _ C.op (by simp[Live]) C.ob,o1 _ _ _ C.op (by simp[Live]) C.ob,C.tr.step (s _ (by simp[Live])),k _ _ _ C.ow (by simp[Live]) C.Vv,C.qp,o1 _ _ _ C.ow (by simp[Live]) C.Vv,λid n hn=>?_,λid n hn hl=>?_,C.YM.step (s _ (by simp[Live])),C.XH.step (s _ (by simp[Live])),k _ _ _ C.om (by simp[Live]) C.VP,C.Xr,o1 _ _ _ C.om (by simp[Live]) C.VP,λid hk=>(C.kids id hk).step (s _ (by simp[Live])),C.YN⟩
 .obtain⟨h1,h2⟩:=C.Jm id n hn;exact⟨k _ _ _ h2 (by simp[Live]) h1,o1 _ _ _ h2 (by simp[Live]) h1⟩
 .obtain⟨kk,h1,h2⟩:=C.WX id n hn hl;exact⟨kk,h1,h2.step (s _ (by simp[Live]))⟩
structure Zo (own:Nat->Tag) (h:List Ob) (own':Nat->Tag) (h':List Ob):Prop where
 same:∀l,l<h.length->own' l=own l
 keep:∀l,l<h.length->own l=Tag.no->h'[l]? = h[l]?
 len:h.length<=h'.length
def Zo.refl(own)(h):Zo own h own h:=⟨λ_ _=>rfl,λ_ _ _=>rfl,QB _⟩
def Zo.trans{own own' SW}{h h' Yt}(a:Zo own h own' h')(b:Zo own' h' SW Yt):Zo own h SW Yt:=
 ⟨λl hl=>(b.same l (kG hl a.len)).trans (a.same l hl),λl hl hn=>(b.keep l (kG hl a.len) ((a.same l hl).trans hn)).trans (a.keep l hl hn),Ki a.len b.len⟩
def Zo.app(own)(h g)(t):Zo own h (QV own h t) (h++g):=⟨λl hl=>Kg hl,λl hl _=>QG hl,σ⟩
def Zo.of{own}{h h'}{t}(ht:t≠.no)(s:Step (λl=>own l=t) h h'):Zo own h (QV own h t) h':=
 ⟨λl hl=>Kg hl,λl hl hn=>s.keep l hl (by rw[hn];exact λe=>ht e.symm),s.len⟩
def Zo.set{own}{h:List Ob}{l}(o)(hl:own l≠.no):Zo own h own (h.set l o):=⟨λ_ _=>rfl,λj hj hn=>Qr (λe=>hl (e▸hn)),σ⟩
section
variable {own:Nat->Tag}{h h':List Ob}{p:Nat}{L:Loc}{M:Qk}(C:Zr own h p L M)
include C
theorem Zr.N8(g):Zr (QV own h .no) (h++g) p L M:=C.step λl hl _=>⟨Kg hl,QG hl⟩
theorem Zr.loc{l}(hl:own l=.no)(o):Zr own (h.set l o) p L M:=C.step λj _ hj=>⟨rfl,Qr (λe=>hj.1 (by rw[<- e,hl]))⟩
theorem Zr.rest{t}(s:Step (λl=>own l=t) h h'):∀u,u≠t->∀l,l<h.length->own l=u->QV own h t l=u/\h'[l]? = h[l]? := λu hu l hl h1=>
 ⟨by rw[Kg hl,h1],s.keep l hl (by rw[h1];exact hu)⟩
theorem Zr.XG(id)(hk:M.ks id=true){B}(T':WA (more (λl=>own l=.XG id) h) h' (L.lk id) B)(s:Step (λl=>own l=.XG id) h h'):Zr (QV own h (.XG id)) h' p L { M with KT:=λj=>if j=id then B else M.KT j }:=by
 have r:=C.rest s;have k:∀l o t,own l=t->t≠.XG id->h[l]? = some o->h'[l]? = some o/\QV own h (.XG id) l=t:=λl o t h1 h2 h3=>by
  obtain⟨a,b⟩:=r t h2 l (Qb h3) h1;exact⟨b.trans h3,a⟩
 refine⟨(k _ _ _ C.op σ C.ob).1,(k _ _ _ C.op σ C.ob).2,C.tr.step (r _ σ),(k _ _ _ C.ow σ C.Vv).1,C.qp,(k _ _ _ C.ow σ C.Vv).2,λi n hn=>?_,λi n hn hl=>?_,C.YM.step (r _ σ),C.XH.step (r _ σ),(k _ _ _ C.om σ C.VP).1,C.Xr,(k _ _ _ C.om σ C.VP).2,λi hi=>?_,C.YN⟩
 .obtain⟨h1,h2⟩:=C.Jm i n hn;exact k _ _ _ h2 σ h1
 .obtain⟨kk,h1,h2⟩:=C.WX i n hn hl;exact⟨kk,h1,h2.step (r _ σ)⟩
 .by_cases e:i=id
  .subst e;dsimp only;rw[Qd rfl];exact T'.mono λl hl=>fe l hl
  .dsimp only;rw[Qc e];exact(C.kids i hi).step (r _ (by simpa using e))
theorem Zr.lv{B}(T':WA (more (λl=>own l=.lv) h) h' L.v B)(s:Step (λl=>own l=.lv) h h'):Zr (QV own h .lv) h' p L { M with Lv:=B }:=by
 have r:=C.rest s;have k:∀l o t,own l=t->t≠.lv->h[l]? = some o->h'[l]? = some o/\QV own h .lv l=t:=λl o t h1 h2 h3=>by
  obtain⟨a,b⟩:=r t h2 l (Qb h3) h1;exact⟨b.trans h3,a⟩
 refine⟨(k _ _ _ C.op σ C.ob).1,(k _ _ _ C.op σ C.ob).2,C.tr.step (r _ σ),(k _ _ _ C.ow σ C.Vv).1,C.qp,(k _ _ _ C.ow σ C.Vv).2,λi n hn=>?_,λi n hn hl=>?_,C.YM.step (r _ σ),T'.mono λl hl=>fe l hl,(k _ _ _ C.om σ C.VP).1,C.Xr,(k _ _ _ C.om σ C.VP).2,λi hi=>(C.kids i hi).step (r _ σ),C.YN⟩
 .obtain⟨h1,h2⟩:=C.Jm i n hn;exact k _ _ _ h2 σ h1
 .obtain⟨kk,h1,h2⟩:=C.WX i n hn hl;exact⟨kk,h1,h2.step (r _ σ)⟩
theorem Zr.act{A'}(T':zn (more (λl=>own l=.on) h) h' L.o M.To A')(s:Step (λl=>own l=.on) h h'):Zr (QV own h .on) h' p L { M with A:=A' }:=by
 have r:=C.rest s;have k:∀l o t,own l=t->t≠.on->h[l]? = some o->h'[l]? = some o/\QV own h .on l=t:=λl o t h1 h2 h3=>by
  obtain⟨a,b⟩:=r t h2 l (Qb h3) h1;exact⟨b.trans h3,a⟩
 refine⟨(k _ _ _ C.op σ C.ob).1,(k _ _ _ C.op σ C.ob).2,C.tr.step (r _ σ),(k _ _ _ C.ow σ C.Vv).1,C.qp,(k _ _ _ C.ow σ C.Vv).2,λi n hn=>?_,λi n hn hl=>?_,T'.step λl _ hl=>⟨fe l hl,rfl⟩,C.XH.step (r _ σ),(k _ _ _ C.om σ C.VP).1,C.Xr,(k _ _ _ C.om σ C.VP).2,λi hi=>(C.kids i hi).step (r _ σ),C.YN⟩
 .obtain⟨h1,h2⟩:=C.Jm i n hn;exact k _ _ _ h2 σ h1
 .obtain⟨kk,h1,h2⟩:=C.WX i n hn hl;exact⟨kk,h1,h2.step (r _ σ)⟩
end
def Zo.CK{own}{h:List Ob}{own'}{H:List Ob}(D:Zo own h own' H){l}(hl:h.length<=l)(o):Zo own h own' (H.set l o):=⟨D.same,λj h1 h2=>by rw[Qr ω];exact D.keep j h1 h2,by simpa using D.len⟩
def VV(N:List Nd)(id:Int)(f:Nd->Nd):List Nd:=N.map λn=>if n.c.iD=id then f n else n
def qU{N}{id}{f}(hf:∀n,(f n).c.iD=n.c.iD)(j:Int):Qh (VV N id f) j=if j=id then (Qh N j).map f else Qh N j:=by
 unfold Qh VV;rw[List.find?_map];have e:((λn:Nd=>n.c.iD==j) ∘ λn=>if n.c.iD=id then f n else n)=λn=>n.c.iD==j:=by
  funext n;simp only[Function.comp_apply];split<;>simp[hf]
 rw[e];by_cases hj:j=id
 .subst hj;rw[Qd rfl];cases hq:N.find? λn=>n.c.iD==j with
  | none=>rfl
  | some n=>
   have:=vJ hq;simp only[jr]at this;simp[this]
 .rw[Qc hj];cases hq:N.find? λn=>n.c.iD==j with
  | none=>rfl
  | some n=>
   have:=vJ hq;simp only[jr]at this;simp only[KK];rw[Qc (by rw[this];exact hj)]
section
variable {own:Nat->Tag}{h:List Ob}{p:Nat}{L:Loc}{M:Qk}(C:Zr own h p L M)
include C
theorem Zr.wj{id}{n:Nd}(hn:Qh M.N id=some n)(f)(hc:∀n,(f n).c=n.c)(hq:∀n,(f n).q=n.q)(ZM:(f n).Ok):Zr own (h.set (L.le id) (Yo (qD L.lq n) (f n))) p L { M with N:=VV M.N id f }:=by
 obtain⟨e1,e2⟩:=C.Jm id n hn;have QA:∀l o t,own l=t->t≠.wj id->h[l]? = some o->(h.set (L.le id) (Yo (qD L.lq n) (f n)))[l]? = some o:=λl o t h1 h2 h3=>by
  rw[Qr (λe=>h2 (by rw[<- h1,<- e,e2]))];exact h3
 have r:∀t,t≠.wj id->∀l,l<h.length->own l=t->own l=t/\(h.set (L.le id) (Yo (qD L.lq n) (f n)))[l]? = h[l]? := λt ht l hl h1=>⟨h1,Qr (λe=>ht (by rw[<- h1,<- e,e2]))⟩;have Q8:∀n,(f n).c.iD=n.c.iD:=λn=>by rw[hc]
 have EI:=qU (N:=M.N) (id:=id) Q8;refine⟨QA _ _ _ C.op σ C.ob,C.op,C.tr.step (r _ σ),QA _ _ _ C.ow σ C.Vv,C.qp.to λj=>?_,C.ow,λj m hm=>?_,λj m hm hl=>?_,C.YM.step (r _ σ),C.XH.step (r _ σ),QA _ _ _ C.om σ C.VP,C.Xr,C.om,λj hj=>(C.kids j hj).step (r _ σ),λj m hm=>?_⟩
 .dsimp only;rw[EI];split
  .cases Qh M.N j<;>rfl
  .rfl
 .dsimp only at hm;rw[EI]at hm;by_cases hj:j=id
  .subst hj;rw[Qd rfl,hn,KK]at hm;cases hm;refine⟨?_,e2⟩;rw[QE (Qb e1)];unfold qD;rw[hc]
  .rw[Qc hj]at hm;obtain⟨g1,g2⟩:=C.Jm j m hm;exact⟨QA _ _ _ g2 (by simpa using hj) g1,g2⟩
 .dsimp only at hm;rw[EI]at hm;by_cases hj:j=id
  .subst hj;rw[Qd rfl,hn,KK]at hm;cases hm;rw[hc]at hl ⊢;rw[hq];obtain⟨kk,g1,g2⟩:=C.WX j n hn hl;exact⟨kk,g1,g2.step (r _ σ)⟩
  .rw[Qc hj]at hm;obtain⟨kk,g1,g2⟩:=C.WX j m hm hl;exact⟨kk,g1,g2.step (r _ σ)⟩
 .dsimp only at hm;rw[EI]at hm;by_cases hj:j=id
  .subst hj;rw[Qd rfl,hn,KK]at hm;cases hm;exact ZM
  .rw[Qc hj]at hm;exact C.YN j m hm
theorem Zr.x5{h':List Ob}{id:Int}{n:Nd}(hn:Qh M.N id=some n)(hl:n.c.leaf=true){k:Nat}(hk:n.c.ZD=k){q':Qu}(Q:vn (λl=>own l=.x5 id) h' (L.lq id) k n.c.bytes q')(s:Step (λl=>own l=.x5 id) h h'):Zr (QV own h (.x5 id)) h' p L { M with N:=VV M.N id λn=>{ n with q:=q' } }:=by
 have r:=C.rest s;have kk:∀l o t,own l=t->t≠.x5 id->h[l]? = some o->h'[l]? = some o/\QV own h (.x5 id) l=t:=λl o t h1 h2 h3=>by
  obtain⟨a,b⟩:=r t h2 l (Qb h3) h1;exact⟨b.trans h3,a⟩
 have EI:=qU (N:=M.N) (id:=id) (f:=λn=>{ n with q:=q' }) (λ_=>rfl);refine⟨(kk _ _ _ C.op σ C.ob).1,(kk _ _ _ C.op σ C.ob).2,C.tr.step (r _ σ),(kk _ _ _ C.ow σ C.Vv).1,C.qp.to λj=>?_,(kk _ _ _ C.ow σ C.Vv).2,λj m hm=>?_,λj m hm XF=>?_,C.YM.step (r _ σ),C.XH.step (r _ σ),(kk _ _ _ C.om σ C.VP).1,C.Xr,(kk _ _ _ C.om σ C.VP).2,λj hj=>(C.kids j hj).step (r _ σ),λj m hm=>?_⟩
 .dsimp only;rw[EI];split
  .cases Qh M.N j<;>rfl
  .rfl
 .dsimp only at hm;rw[EI]at hm;by_cases hj:j=id
  .subst hj;rw[Qd rfl,hn,KK]at hm;cases hm;obtain⟨g1,g2⟩:=C.Jm j n hn;exact kk _ _ _ g2 σ g1
  .rw[Qc hj]at hm;obtain⟨g1,g2⟩:=C.Jm j m hm;exact kk _ _ _ g2 σ g1
 .dsimp only at hm;rw[EI]at hm;by_cases hj:j=id
  .subst hj;rw[Qd rfl,hn,KK]at hm;cases hm;exact⟨k,hk,Q.step λl _ h1=>⟨fe l (.inl h1),rfl⟩⟩
  .rw[Qc hj]at hm;obtain⟨kk2,g1,g2⟩:=C.WX j m hm XF;exact⟨kk2,g1,g2.step (r _ (by simpa using hj))⟩
 .dsimp only at hm;rw[EI]at hm;by_cases hj:j=id
  .subst hj;rw[Qd rfl,hn,KK]at hm;cases hm;have:=C.YN j n hn;exact⟨this.QO,this.du,this.sh,this.cp,this.c⟩
  .rw[Qc hj]at hm;exact C.YN j m hm
theorem Zr.Qf(c a):Zr own (h.set p (je M.lk L.t L.b L.o L.v L.m c a)) p L { M with Qf:=c,acc:=a }:=by
 have QA:∀l o t,own l=t->t≠.sc->h[l]? = some o->(h.set p (je M.lk L.t L.b L.o L.v L.m c a))[l]? = some o:=λl o t h1 h2 h3=>by
  rw[Qr (λe=>h2 (by rw[<- h1,<- e,C.op]))];exact h3
 have r:∀t,t≠.sc->∀l,l<h.length->own l=t->own l=t/\(h.set p (je M.lk L.t L.b L.o L.v L.m c a))[l]? = h[l]? := λt ht l hl h1=>⟨h1,Qr (λe=>ht (by rw[<- h1,<- e,C.op]))⟩;refine⟨QE (Qb C.ob),C.op,C.tr.step (r _ σ),QA _ _ _ C.ow σ C.Vv,C.qp,C.ow,λj m hm=>?_,λj m hm hl=>?_,C.YM.step (r _ σ),C.XH.step (r _ σ),QA _ _ _ C.om σ C.VP,C.Xr,C.om,λj hj=>(C.kids j hj).step (r _ σ),C.YN⟩
 .obtain⟨g1,g2⟩:=C.Jm j m hm;exact⟨QA _ _ _ g2 σ g1,g2⟩
 .obtain⟨kk,g1,g2⟩:=C.WX j m hm hl;exact⟨kk,g1,g2.step (r _ σ)⟩
end
structure Qy (M:Qk):Prop where
 tree:JG M.T
 wK:kb M.T
 to:M.To=M.T
 nodes:M.T=M.N.map (·.c)
 V7:xG M.T M.A
 ks:∀id,M.ks id=true↔id=0\/∃n,Qh M.N id=some n/\n.c.leaf=false
 u7:∀x∈M.Lv,(Qx M.T x.ki).isSome=true
 kg:∀id,∀x∈M.KT id,∃c,Qx M.T x.ki=some c/\c.parent=id
 kh:∀id,∀x∈M.KT id,x.ka<=18446744073709551615
 Qf:M.Qf<=4611686018427387904
 acc:M.acc<=1099511627776
def rO(N:List Nd)(id:Int):Qx (N.map (·.c)) id=(Qh N id).map (·.c):=by
 unfold Qx Qh;rw[List.find?_map];rfl
section
variable {M:Qk}(I:Qy M)
include I
theorem Qy.find(id:Int):Qx M.T id=(Qh M.N id).map (·.c):=by rw[I.nodes,rO]
theorem Qy.rP(id):∀x∈M.KT id,(Qx M.T x.ki).isSome=true:=λx hx=>by
 obtain⟨c,hc,_⟩:=I.kg id x hx;rw[hc];rfl
theorem Qy.some{id}{n:Nd}(h:Qh M.N id=some n):Qx M.T id=Option.some n.c:=by rw[I.find,h];rfl
omit I in
theorem Qy.id{id}{n:Nd}(h:Qh M.N id=Option.some n):n.c.iD=id:=by
 have:=vJ h;simpa using this
theorem Qy.GJ{id}{n}(h:Qh M.N id=Option.some n):id≠0:=λe=>by
 have:=I.some h;rw[e,Ig I.tree]at this;cases this
theorem Qy.Lb{id}{c}(h:Qx M.T id=Option.some c):∃n,Qh M.N id=Option.some n/\n.c=c:=by
 rw[I.find]at h;cases hn:Qh M.N id with
 | none=>rw[hn]at h;cases h
 | some n=>rw[hn]at h;exact⟨n,rfl,Mf h⟩
end
def WA.nd{S}{h}{p}{L:List It}:WA S h p L->(L.map It.ki).Nodup:=λ⟨a,m,t,c,es,T⟩=>T.ids
def SX{T}(I:JG T){L:List It}(hn:(L.map It.ki).Nodup)(hs:∀x∈L,(Qx T x.ki).isSome=true):L.length<=64:=by
 have h1:(L.map It.ki).length<=(T.map (·.iD)).length:=by
  refine List.Nodup.length_le_of_subset hn λi hi=>?_;obtain⟨x,hx,rfl⟩:=Z2.1 hi;obtain⟨c,hc⟩:=As.1 (hs x hx);exact Z2.2 ⟨c,xF I hc,Qr7 I hc⟩
 have:=I.len;simp only[J1]at h1;omega
def JV(M:Qk)(id:Int):Bool:=Ja M.T M.A id
def Wm(M:Qk)(id:Int)(n:Nd):Nat:=if n.c.leaf=true\/JV M id=false then n.cp.fit else max n.cp.fit (yT (M.KT id))
section
variable {own:Nat->Tag}{h:List Ob}{p:Nat}{L:Loc}{M:Qk}(C:Zr own h p L M)(I:Qy M)
include C I
omit I in
theorem Zr.look{id}{n}(hn:Qh M.N id=some n):ZL L.eb id=some (.ptr (L.le id) 0 0 0):=by
 have:=C.qp.at_ id;rw[hn]at this;exact this
theorem Zr.fg:Gr h L.o M.T M.A:=by
 have:=C.YM.toR;rwa [I.to]at this
theorem Qwm{id}{n}(hn:Qh M.N id=some n):Q6 prog 154 h [.ptr p 0 0 0,.ptr (L.le id) 0 0 0] (λd=>d=u64 (Wm M id n)):=by
 have ho:=ZC C.ob;have he:=ZC (C.Jm id n hn).1;have hm:=ZC C.VP;have Q8:=Qy.id hn;have xv:=Cy (C.fg I) I.tree I.V7 id (I.GJ hn);unfold Wm;cases hl:n.c.leaf with
 | true=>
  rw[Qd (.inl rfl)];refine xD func154 ntmps154 results154 λbase w pl F hF Q7 hb=>?_;rw[<- hF]at ho he;have Ql:=Qb ho;have WK:=Qb he;simp only[go_sem];apply QF hb Ue;simp only[go_sem,he,hl,Go.undef];all_goals exact cD
 | false=>
  have qq:M.ks id=true:=(I.ks id).2 (.inr ⟨n,hn,hl⟩);have qs:=C.Xr.at_ id;rw[Qd qq]at qs;have hT:=(C.kids id qq).toR;have jV:Ja M.T M.A id=JV M id:=rfl;rw[jV]at xv;cases ha:JV M id with
  | false=>
   rw[ha]at xv;rw[Qd (.inr rfl)];refine xD func154 ntmps154 results154 λbase w pl F hF Q7 hb=>?_;rw[<- hF]at ho he;have Ql:=Qb ho;have WK:=Qb he;simp only[go_sem];apply QF hb Ue;simp only[go_sem,ho,he,hl];have CL:Ja M.T M.A id=false:=ha;refine Qbl hb Gc ?_ (Cy ((C.fg I).more (KC hF)) I.tree I.V7 id (I.GJ hn)) ?_
   .simp only[go_sem,Q8]
   apply ZH hb;simp only[go_sem,he,Q8,CL];all_goals exact cD
  | true=>
   rw[ha]at xv;rw[Qc σ];have CL:Ja M.T M.A id=true:=ha;refine xD func154 ntmps154 results154 λbase w pl F hF Q7 hb=>?_;rw[<- hF]at ho he hm;have Ql:=Qb ho;have WK:=Qb he;have Zg:=Qb hm;simp only[go_sem];apply QF hb Ue;simp only[go_sem,ho,he,hl];refine Qbl hb Gc ?_ (Cy ((C.fg I).more (KC hF)) I.tree I.V7 id (I.GJ hn)) ?_
   .simp only[go_sem,Q8]
   apply ZH hb;simp only[go_sem,Q8,CL];apply QF hb Y6;simp only[go_sem,ho,he,hm,qs,Q8];apply Wz hb mS (o4 (hT.more (KC hF)) (I.kh id));apply ZA hb;apply Jb hb Qdv (QfF n.cp.fit (yT (M.KT id)));apply ZA hb;all_goals exact cD
end
def Qw(M:Qk)(id:Int):Nd:=(Qh M.N id).getD default
def Vm(M:Qk)(id:Int):Qk:=
 if JV M id=true then { M with KT:=λj=>if j=(Qw M id).c.parent then XX id (Qw M id).sh.time (Wm M id (Qw M id)) (M.KT (Qw M id).c.parent) else M.KT j } else M
def VW(M:Qk):List Int->Qk
 | []=>M
 | id::r=>VW (Vm M id) r
def QgG(M):∀(l r:List Int),VW M (l++r)=VW (VW M l) r
 | [],r=>rfl
 | id::l,r=>QgG (Vm M id) l r
def N9(M:Qk)(id:Int):(Vm M id).N=M.N/\(Vm M id).T=M.T/\(Vm M id).To=M.To/\(Vm M id).A=M.A/\(Vm M id).Lv=M.Lv/\(Vm M id).ks=M.ks/\(Vm M id).Qf=M.Qf/\(Vm M id).acc=M.acc/\(Vm M id).lk=M.lk:=by
 unfold Vm;split<;>exact⟨rfl,rfl,rfl,rfl,rfl,rfl,rfl,rfl,rfl⟩
def CM:∀(l:List Int) (M:Qk),(VW M l).N=M.N/\(VW M l).T=M.T/\(VW M l).To=M.To/\(VW M l).A=M.A/\(VW M l).Lv=M.Lv/\(VW M l).ks=M.ks/\(VW M l).Qf=M.Qf/\(VW M l).acc=M.acc/\(VW M l).lk=M.lk
 | [],M=>⟨rfl,rfl,rfl,rfl,rfl,rfl,rfl,rfl,rfl⟩
 | id::l,M=>by
  obtain⟨a1,a2,a3,a4,a5,a6,a7,a8,a9⟩:=CM l (Vm M id);obtain⟨b1,b2,b3,b4,b5,b6,b7,b8,b9⟩:=N9 M id;exact⟨a1.trans b1,a2.trans b2,a3.trans b3,a4.trans b4,a5.trans b5,a6.trans b6,a7.trans b7,a8.trans b8,a9.trans b9⟩
def rQ{M:Qk}(I:Qy M){id}{n:Nd}(hn:Qh M.N id=some n)(ZM:n.Ok):Qy (Vm M id):=by
 obtain⟨b1,b2,b3,b4,b5,b6,b7,b8,b9⟩:=N9 M id;have ZU:Qw M id=n:=by unfold Qw;rw[hn];rfl
 refine⟨by rw[b2];exact I.tree,by rw[b2];exact I.wK,by rw[b2,b3];exact I.to,by rw[b2,b1];exact I.nodes,by rw[b2,b4];exact I.V7,by rw[b6,b1];exact I.ks,by rw[b5,b2];exact I.u7,λj x hx=>?_,λj x hx=>?_,by rw[b7];exact I.Qf,by rw[b8];exact I.acc⟩
 .rw[b2];unfold Vm at hx;split at hx
  .dsimp only at hx;split at hx
   .rename_i hj;subst hj;rcases Gn.1 hx with rfl|hx
    .exact⟨n.c,I.some hn,by rw[ZU]⟩
    .exact I.kg _ x (Jt.1 hx).1
   .exact I.kg _ x hx
  .exact I.kg _ x hx
 .unfold Vm at hx;split at hx
  .dsimp only at hx;split at hx
   .rcases Gn.1 hx with rfl|hx
    .rw[ZU];have:=ZM.sh.time;show n.sh.time<=_;omega
    .exact I.kh _ x (Jt.1 hx).1
   .exact I.kh _ x hx
  .exact I.kh _ x hx
structure Oa (own:Nat->Tag) (h:List Ob) (p:Nat) (L:Loc) (M:Qk) (U:List Int) (k:Nat) (s:St):Prop where
 ex:∃own' H,Zr own' H p L (VW M (U.take k))/\Qy (VW M (U.take k))/\Zo own h own' H/\s=⟨[(0,.ptr p 0 0 0),(12,ints U),(13,Qa U.length),(14,Qa k)],H⟩
def Oa.of{own}{h}{p}{L}{M}{U:List Int}{k}{own'}{H}(C:Zr own' H p L (VW M (U.take k)))(I:Qy (VW M (U.take k)))(D:Zo own h own' H):Oa own h p L M U k ⟨[(0,.ptr p 0 0 0),(12,ints U),(13,Qa U.length),(14,Qa k)],H⟩:=⟨⟨own',H,C,I,D,rfl⟩⟩
def rR{M:Qk}(I:Qy M){id}{n:Nd}(hn:Qh M.N id=some n):M.ks n.c.parent=true:=by
 rw[I.ks];by_cases h0:n.c.parent=0
 .exact .inl h0
 .obtain⟨d,hd,hl⟩:=I.tree.J8 n.c (xF I.tree (I.some hn)) h0;obtain⟨m,hm,rfl⟩:=I.Lb hd;exact .inr ⟨m,hm,hl⟩
def rS{own}{h}{p}{L}{M:Qk}(C:Zr own h p L M)(I:Qy M)(leaf):QH prog 235 h [.ptr p 0 0 0,Qa leaf] (λd h'=>∃own',Zr own' h' p L (VW M (up M.T leaf))/\Qy (VW M (up M.T leaf))/\Zo own h own' h'):=by
 have ho:=C.ob;have fh:(up M.T leaf).length<=16:=yN;refine QQ func235 ntmps235 results235 λbase w pl hb=>?_;have Ql:=Qb ho;simp only[go_sem,ho];apply ZQ hb Ry (oL C.tr.toR I.tree.toTreeInv leaf);apply Qn hb;obtain⟨U,hU⟩:∃U,U=up M.T leaf:=⟨_,rfl⟩;rw[show Jr M.T 16 leaf=U from hU.symm];rw[<- hU]at fh ⊢;refine Z3 (Oa own h p L M U) U.length QM (Oa.of (k:=0) C I (Zo.refl own h)) ?_;rintro k _ hk ⟨own',H,Ck,Ik,Dk,rfl⟩;by_cases Qj:k<U.length
 .have dk:=QU Qj;obtain⟨id,Q8⟩:∃id,id=U.getD k 0:=⟨_,rfl⟩;have Qwn:id∈up M.T leaf:=by rw[Q8,<- hU];exact qg U 0 k Qj
  obtain⟨e1,e2,e3,e4,e5,e6,e7,e8,e9⟩:=CM (U.take k) M;have Ya:=Gk Qwn;have Jk:VW M (U.take (k+1))=Vm (VW M (U.take k)) id:=by
   rw[getD_take U 0 k Qj,QgG,<- Q8];rfl
  obtain⟨Mk,EJ⟩:∃Mk,Mk=VW M (U.take k):=⟨_,rfl⟩;rw[<- EJ]at Ck Ik e1 e2 e3 e4 e5 e6 e7 e8 e9 Jk;obtain⟨n,hn⟩:∃n,Qh Mk.N id=some n:=by
   rw[<- e2,Ik.find]at Ya;cases hq:Qh Mk.N id with
   | none=>rw[hq]at Ya;cases Ya
   | some n=>exact⟨n,rfl⟩
  have ZU:Qw Mk id=n:=by unfold Qw;rw[hn];rfl
  have YL:=Ck.look hn;have ho:=Ck.ob;have Ql:=Qb ho;have Zp:=Ck.Vv;have Nw:=Qb Zp;obtain⟨he,_⟩:=Ck.Jm id n hn;have WK:=Qb he;have hm:=Ck.VP;have Zg:=Qb hm;have qq:=rR Ik hn;have qs:=Ck.Xr.at_ n.c.parent;rw[Qd qq]at qs;have Zb:=J9 (show k<4611686018427387904 from ω);apply Qg hb;simp only[go_sem,Qj,<- Q8,ho,Zp,YL];apply ZQ hb Gc (Cy (Ck.fg Ik) Ik.tree Ik.V7 id (Ik.GJ hn));apply Qn hb;cases ha:Ja Mk.T Mk.A id with
  | false=>
   have rT:Vm Mk id=Mk:=by unfold Vm;rw[Qc (by unfold JV;rw[ha];decide)]
   rw[rT]at Jk;simp only[go_sem];exact⟨Qj,_,Qz.frame (by simp only[go_sem,Zb]),Oa.of (by rw[Jk];exact Ck) (by rw[Jk];exact Ik) Dk⟩
  | true=>
   have Yv:Vm Mk id={ Mk with KT:=λj=>if j=n.c.parent then XX id n.sh.time (Wm Mk id n) (Mk.KT n.c.parent) else Mk.KT j }:=by
    unfold Vm;rw[Qd (show JV Mk id=true from ha),ZU]
   have hT:=Ck.kids _ qq;have Oc:=Qy.id hn;have If:=SX Ik.tree hT.nd (Ik.rP _);simp only[go_sem];apply Vk [19] hb [0,1,2,3,4,5,6,7,8,9,10,11,12,13,14,15,16,17,1018,1019] [];simp only[go_sem,ho,he,hm,qs];apply Wz hb Qdo (Qwm Ck Ik hn);apply ZA hb;refine jZ hb Qq6 (Qs6 hT id n.sh.time (Wm Mk id n) ω) λd h8 hR=>?_;obtain⟨T8,s8⟩:=hR;have C8:=Ck.XG _ qq T8 s8;apply ZA hb;rw[Yv]at Jk;exact⟨Qj,_,Qz.frame (by simp only[go_sem,Zb]),Oa.of (by rw[Jk];exact C8) (by rw[Jk,<- Yv];exact rQ Ik hn (Ck.YN id n hn)) (Dk.trans (Zo.of σ s8))⟩
 .have Jf:k=U.length:=ω;have dk:=QI Qj;rw[Jf,q9]at Ck Ik;apply Qg hb;simp only[go_sem,dk];exact⟨own',Ck,Ik,Dk⟩
def vr(M:Qk)(now:Nat):Bool:=!(decide (now<M.Qf) || decide (4611686018427387904<now))
def ZE(M:Qk)(now:Nat):Qk:=if vr M now=true then { M with Qf:=now } else M
section
variable {own:Nat->Tag}{h:List Ob}{p:Nat}{L:Loc}{M:Qk}(C:Zr own h p L M)
include C
theorem QgH(now):QH prog 185 h [.ptr p 0 0 0,u64 now] (λd h'=>d=QT (vr M now)/\Zr own h' p L (ZE M now)/\Zo own h own h'):=by
 have ho:=C.ob;unfold ZE vr;by_cases h1:now<M.Qf
 .have d1:=QU h1;refine QQ func185 ntmps185 results185 λbase w pl hb=>?_;have Ql:=Qb ho;simp only[go_sem,ho,d1,Go.undef];exact⟨by simpa using C,Zo.refl own h⟩
 .have d1:=QI h1;by_cases h2:4611686018427387904<now
  .have d2:decide ((4611686018427387904:Int)<(now:Int))=true:=QU ω;have d3:=QU h2;refine QQ func185 ntmps185 results185 λbase w pl hb=>?_;have Ql:=Qb ho;simp only[go_sem,ho,d1,d2,d3];exact⟨by simpa using C,Zo.refl own h⟩
  .have d2:decide ((4611686018427387904:Int)<(now:Int))=false:=QI ω;have d3:=QI h2;refine QQ func185 ntmps185 results185 λbase w pl hb=>?_;have Ql:=Qb ho;simp only[go_sem,ho,d1,d2,d3];exact⟨C.Qf now M.acc,Zo.set _ (by rw[C.op];decide)⟩
end
def kf(n:Nd)(Jz:Int)(wL:Bool):Du:=if wL then eF n.du Jz (yU n.q) else Bo n.du (yU n.q)
def VQ(M:Qk)(id:Int)(Jz:Int)(wL:Bool):Qk:=
 if 1<QR (Qw M id).c.rt then { M with
   N:=VV M.N id λn=>{ n with du:=kf (Qw M id) Jz wL }
   Lv:=if (Qw M id).q.l=[] then Vd id (XX id (kf (Qw M id) Jz wL).XZ (kf (Qw M id) Jz wL).dead M.Lv) else XX id (kf (Qw M id) Jz wL).XZ (kf (Qw M id) Jz wL).dead M.Lv }
 else M
def rU{n:Nd}(h:n.Ok)(Jz)(wL:Bool):(kf n Jz wL).Ok:=by
 unfold kf;split
 .exact pC (l:={ n.du with JL:=VO (n.du.JL+Jz.toNat) }) h.du.dl h.du.rd (IG _) _
 .exact pC h.du.dl h.du.rd h.du.JL _
section
variable {own:Nat->Tag}{h:List Ob}{p:Nat}{L:Loc}{M:Qk}(C:Zr own h p L M)(I:Qy M)
include C I
theorem Qwo{id}{n:Nd}(hn:Qh M.N id=some n)(hl:n.c.leaf=true)(Jz)(Yk:0<=Jz)(ZZ:Jz<9223372036854775808)(wL):
  QH prog 240 h [.ptr p 0 0 0,.ptr (L.le id) 0 0 0,Qa Jz,QT wL] (λd h'=>∃own',Zr own' h' p L (VQ M id Jz wL)/\Zo own h own' h'):=by
 have ho:=C.ob;have he:=(C.Jm id n hn).1;have Q8:=Qy.id hn;have ZU:Qw M id=n:=by unfold Qw;rw[hn];rfl
 have ZM:=C.YN id n hn;have Od:=ZM.du;obtain⟨kq,Lc,hQ⟩:=C.WX id n hn hl;have EK:qD L.lq n=.ptr (L.lq id) 0 0 0:=by unfold qD;rw[Qd hl,Q8]
 rw[EK]at he;have hhd:yU n.q<9223372036854775808:=by
  obtain⟨r,Q⟩:=hQ;unfold yU;cases hq:n.q.l with
  | nil=>decide
  | cons x l=>
   have:=(Q.lens x (by rw[hq];simp)).2;show x.len<_;omega
 unfold VQ;rw[ZU];by_cases hr:1<QR n.c.rt
 .rw[Qd hr];have dr:=QU hr;refine QQ func240 ntmps240 results240 λbase w pl hb=>?_;have Ql:=Qb ho;have WK:=Qb he;simp only[go_sem,he];apply ZK hb yH (Ch n.c);apply Qg hb;simp only[go_sem,dr];have xS:=rU ZM Jz wL;cases wL
  case' true=>
   have hx:kf n Jz true=eF n.du Jz (yU n.q):=rfl;rw[hx]at xS ⊢;simp only[go_sem];apply QF hb [0,1,2,3,4,5,6,7,8,9,1010,1011,12,13,1014];simp only[go_sem,he];apply Wz hb QdH (QfB hQ.toR);apply ZA hb;apply Jb hb Qra (QtS n.du Od.dl Od.rd Od.JL Jz (yU n.q) Yk ZZ hhd);apply ZH hb;simp only[go_sem,Qe,he];generalize eF n.du Jz (yU n.q)=x at xS ⊢
  case' false=>
   have hx:kf n Jz false=Bo n.du (yU n.q):=rfl;rw[hx]at xS ⊢;simp only[go_sem];apply QF hb [0,1,2,3,4,5,6,7,8,1009,1010,11,12,1013];simp only[go_sem,he];apply Wz hb QdH (QfB hQ.toR);apply ZA hb;apply Jb hb Qrb (QtT n.du Od.dl Od.rd Od.JL (yU n.q) hhd);apply ZH hb;simp only[go_sem,Qe,he];generalize Bo n.du (yU n.q)=x at xS ⊢
  all_goals
   have C1:=C.wj hn (λm=>{ m with du:=x }) (λ_=>rfl) (λ_=>rfl) ⟨ZM.QO,xS,ZM.sh,ZM.cp,ZM.c⟩;have D1:=Zo.set (own:=own) (h:=h) (Yo (qD L.lq n) { n with du:=x }) (l:=L.le id) (by rw[(C.Jm id n hn).2];simp);rw[EK]at C1 D1;generalize hH:h.set (L.le id) (Yo (.ptr (L.lq id) 0 0 0) { n with du:=x })=H at C1 D1;have Gg:h.set (L.le id) ⟨.one,0,60,1,λ_=>KQ (.ptr (L.lq id) 0 0 0) { n with du:=x }⟩=H:=hH;have KJ:Qh (VV M.N id λm=>{ m with du:=x }) id=some { n with du:=x }:=by
    rw[qU (f:=λm=>{ m with du:=x }) (λ_=>rfl),Qd rfl,hn];rfl
   have ho:=C1.ob;have Ql:=Qb ho;have he:=(C1.Jm id _ KJ).1;have QgJ:qD L.lq { n with du:=x }=.ptr (L.lq id) 0 0 0:=EK;rw[QgJ]at he;have WK:=Qb he;have If:=SX I.tree C1.XH.nd I.u7;simp only[Gg];apply Vk [19] hb [0,1,2,3,4,5,6,7,8,9,10,11,12,13,14,15,16,17,18,1019] [];simp only[go_sem,ho,he];refine xI hb Qdy rfl ?_ (Qe6 C1.XH id x.XZ x.dead ω) rfl λd h8 hR=>?_
   .simp only[go_sem,Q8]
   obtain⟨T8,s8⟩:=hR;have C8:=C1.lv T8 s8;have D8:=D1.trans (Zo.of (own:=own) (t:=.lv) σ s8);have ho:=C8.ob;have Ql:=Qb ho;have he:=(C8.Jm id _ KJ).1;rw[QgJ]at he;have WK:=Qb he;obtain⟨kq8,QFN,rV⟩:=C8.WX id _ KJ hl;apply ZH hb;simp only[go_sem,he];apply ZQ hb Np (NS rV.toR);apply Qn hb;cases hq:n.q.l with
   | cons y l=>
    have dq:(((l.length+1:Nat):Int)==0)=false:=Xl ω;rw[Qc σ];simp only[go_sem,dq];exact⟨_,C8,D8⟩
   | nil=>
    rw[Qd rfl];have If:=SX I.tree C8.XH.nd (λy hy=>by
     rcases Gn.1 hy with rfl|hy
     .rw[I.some hn];rfl
     .exact I.u7 y (Jt.1 hy).1)
    simp only[go_sem];apply Vk [9] hb [0,1,2,3,4,5,6,7,8,1009] [];simp only[go_sem,ho,he];refine xI hb QdF rfl ?_ (Qe4 C8.XH id ω) rfl λd h9 hR=>?_
    .simp only[go_sem,Q8]
    obtain⟨rfl,T9,s9⟩:=hR;apply ZA hb;exact⟨_,C8.lv T9 s9,D8.trans (Zo.of σ s9)⟩
 .rw[Qc hr];have dr:=QI hr;refine QQ func240 ntmps240 results240 λbase w pl hb=>?_;have Ql:=Qb ho;have WK:=Qb he;simp only[go_sem,he];apply ZK hb yH (Ch n.c);apply Qg hb;simp only[go_sem,dr];exact⟨own,C,Zo.refl own h⟩
end
def Ld(L:List It):Nat:=(L.head?.getD default).ka
def xU(M:Qk)(now:Nat)(n:Nd):Nd:={ n with sh:=IK n.sh (Je n.c.ls) (Ld (M.KT n.c.parent)) n.QO,cp:=xN n.cp (Je n.c.ul) now n.QO }
def Wn(now:Nat)(M:Qk)(j:Int):Qk:={ M with N:=VV M.N j (xU M now) }
def VE(M:Qk)(now:Nat)(id:Int)(head:Int):Qk:=
 if 1<QR (Qw M id).c.rt then { M with
   N:=VV M.N id λn=>{ n with du:=z7 (Qw M id).du (Je (Qw M id).c.rt) now head }
   Lv:=XX id (z7 (Qw M id).du (Je (Qw M id).c.rt) now head).XZ (z7 (Qw M id).du (Je (Qw M id).c.rt) now head).dead M.Lv }
 else M
def Yp(M:Qk)(now:Nat)(id:Int)(head:Int):Qk:=
 if 1<QR (Qw M id).c.ls then VW ((Vo M.T M.A id).foldl (Wn now) { VE M now id head with A:=id::M.A }) (up M.T id)
 else VE M now id head
def Qwp(N:List Nd)(id)(f:Nd->Nd)(hf:∀n,(f n).c=n.c):(VV N id f).map (·.c)=N.map (·.c):=by
 unfold VV;rw[Fl];congr 1;funext n;simp only[Function.comp_apply];split
 .exact hf n
 .rfl
def Qy.VV{M:Qk}(I:Qy M)(id)(f)(hf:∀n,(f n).c=n.c):Qy { M with N:=X.VV M.N id f }:=by
 refine⟨I.tree,I.wK,I.to,by dsimp only;rw[Qwp _ _ _ hf];exact I.nodes,I.V7,λj=>?_,I.u7,I.kg,I.kh,I.Qf,I.acc⟩;dsimp only;rw[I.ks,qU (λn=>by rw[hf])];by_cases hj:j=id
 .subst hj;rw[Qd rfl];constructor
  .rintro (h|⟨n,h1,h2⟩)
   .exact .inl h
   .exact .inr ⟨f n,by rw[h1];rfl,by rw[hf];exact h2⟩
  .rintro (h|⟨n,h1,h2⟩)
   .exact .inl h
   .cases hq:Qh M.N j with
    | none=>rw[hq]at h1;cases h1
    | some m=>
     rw[hq]at h1;cases h1;exact .inr ⟨m,rfl,by rw[<- hf];exact h2⟩
 .rw[Qc hj]
def Qy.lv{M:Qk}(I:Qy M){B}(h:∀x∈B,(Qx M.T x.ki).isSome=true):Qy { M with Lv:=B }:=
 ⟨I.tree,I.wK,I.to,I.nodes,I.V7,I.ks,h,I.kg,I.kh,I.Qf,I.acc⟩
def Qy.act{M:Qk}(I:Qy M){B}(h:xG M.T B):Qy { M with A:=B }:=
 ⟨I.tree,I.wK,I.to,I.nodes,h,I.ks,I.u7,I.kg,I.kh,I.Qf,I.acc⟩
def rW{id}{a b}{L}{x:It}(h:x∈XX id a b L):x.ki=id\/x∈L:=by
 rcases Gn.1 h with rfl|h
 .exact .inl rfl
 .exact .inr (Jt.1 h).1
def rX{M}(I:Qy M){now}(Wo:now<18446744073709551616){n:Nd}(h:n.Ok):(xU M now n).Ok:=by
 have MM:Ld (M.KT n.c.parent)<18446744073709551616:=by
  unfold Ld;cases hq:M.KT n.c.parent with
  | nil=>decide
  | cons x l=>
   have:=I.kh n.c.parent x (by rw[hq];simp);show x.ka<_;omega
 exact⟨h.QO,h.du,Qt6 h.sh h.c.2.2.2.2.1.lt MM h.QO,Quc h.cp h.c.2.2.2.2.2.1.lt Wo h.QO,h.c⟩
def Qy.Wn{M}(I:Qy M)(now)(j):Qy (Wn now M j):=I.VV j (xU M now) λ_=>rfl
def GK(now):∀(l:List Int) (M:Qk),(l.foldl (Wn now) M).T=M.T/\(l.foldl (Wn now) M).A=M.A/\(l.foldl (Wn now) M).KT=M.KT/\(l.foldl (Wn now) M).lk=M.lk/\(l.foldl (Wn now) M).Qf=M.Qf/\(l.foldl (Wn now) M).acc=M.acc
 | [],M=>⟨rfl,rfl,rfl,rfl,rfl,rfl⟩
 | j::l,M=>GK now l (X.Wn now M j)
def Qy.SY{now}:∀(l:List Int) {M:Qk},Qy M->Qy (l.foldl (X.Wn now) M)
 | [],M,I=>I
 | j::l,M,I=>Qy.SY l (I.Wn now j)
def Le{M:Qk}{now}{id}{head:Int}:(VE M now id head).T=M.T/\(VE M now id head).A=M.A/\(VE M now id head).KT=M.KT/\(VE M now id head).lk=M.lk:=by
 unfold VE;split<;>exact⟨rfl,rfl,rfl,rfl⟩
def Qy.VE{M:Qk}(I:Qy M){id}{n}(hn:Qh M.N id=Option.some n)(now)(head):Qy (VE M now id head):=by
 unfold X.VE;split
 .refine(I.VV id (λn=>{ n with du:=z7 (Qw M id).du (Je (Qw M id).c.rt) now head }) λ_=>rfl).lv λx hx=>?_;rcases rW hx with h|h
  .rw[h];show (Qx M.T id).isSome=true;rw[I.some hn];rfl
  .exact I.u7 x h
 .exact I
def Qwq{M:Qk}{now}{id}{head:Int}(j){n:Nd}(hn:Qh M.N j=some n):∃m,Qh (VE M now id head).N j=some m/\m.c=n.c:=by
 unfold VE;split
 .dsimp only;rw[qU (f:=λn=>{ n with du:=z7 (Qw M id).du (Je (Qw M id).c.rt) now head }) (λ_=>rfl)];split
  .rw[hn];exact⟨_,rfl,rfl⟩
  .exact⟨n,hn,rfl⟩
 .exact⟨n,hn,rfl⟩
def rY{c:Cv}(h:Cv.Ok c):(((Je c).a:Nat):Int)=c.m1/\(((Je c).d:Nat):Int)=c.d/\(((Je c).b:Nat):Int)=c.m2:=by
 have h1:=wf_u64 h.1;have h2:=wf_u64 h.2.1;have h3:=wf_u64 h.2.2.1;refine⟨?_,?_,?_⟩
 .show ((c.m1.toNat:Nat):Int)=_;omega
 .show ((c.d.toNat:Nat):Int)=_;omega
 .show ((c.m2.toNat:Nat):Int)=_;omega
structure SZ (own:Nat->Tag) (h:List Ob) (p:Nat) (L:Loc) (M:Qk) (now:Nat) (id:Int) (lo g:Nat) (row:Nat->List D) (U:List Int) (k:Nat) (s:St):Prop where
 ex:∃own' H,Zr own' H p L ((U.take k).foldl (Wn now) M)/\Zo own h own' H/\own' lo=.on/\H[lo]? = some ⟨.arr,g,1,U.length,row⟩ /\
  s=⟨[(0,.ptr p 0 0 0),(1,u64 now),(8,Qa id),(72,.ref lo g 0 U.length),(73,Qa U.length),(74,Qa k)],H⟩
def SZ.of{own}{h}{p}{L}{M}{now}{id}{lo g}{row}{U:List Int}{k:Nat}{own'}{H:List Ob}(C:Zr own' H p L ((U.take k).foldl (Wn now) M))(D:Zo own h own' H)(h1:own' lo=.on)(h2:H[lo]? = some ⟨.arr,g,1,U.length,row⟩):
  SZ own h p L M now id lo g row U k ⟨[(0,.ptr p 0 0 0),(1,u64 now),(8,Qa id),(72,.ref lo g 0 U.length),(73,Qa U.length),(74,Qa k)],H⟩:=⟨⟨own',H,C,D,h1,h2,rfl⟩⟩
def Qwr{own}{h}{p}{L}{M:Qk}(C:Zr own h p L M)(I:Qy M){id}{n:Nd}(hn:Qh M.N id=some n)(hl:n.c.leaf=true)(now)(Wo:now<18446744073709551616)(head)(hh:head<9223372036854775808)(ZP:JV M id=false):
  QH prog 187 h [.ptr p 0 0 0,u64 now,.ptr (L.le id) 0 0 0,Qa head] (λd h'=>∃own',Zr own' h' p L (Yp M now id head)/\Qy (Yp M now id head)/\Zo own h own' h'):=by
 have ho:=C.ob;have he:=(C.Jm id n hn).1;have Q8:=Qy.id hn;have ZU:Qw M id=n:=by unfold Qw;rw[hn];rfl
 have ZM:=C.YN id n hn;obtain⟨r1,r2,r3⟩:=rY ZM.c.2.2.2.1;have IR:=Qy.VE I hn now head;have QFO:L.le id≠p:=λe=>by have h1:=(C.Jm id n hn).2;rw[e,C.op]at h1;cases h1
 obtain⟨MR,Oe⟩:∃MR,MR=VE M now id head:=⟨_,rfl⟩;have rZ:Yp M now id head=if 1<QR n.c.ls then VW ((Vo M.T M.A id).foldl (Wn now) { MR with A:=id::M.A }) (up M.T id) else MR:=by unfold Yp;rw[ZU,Oe]
 by_cases hr:1<QR n.c.rt
 case' pos=>
  have dr:=QU hr;have xS:=pJ ZM.du ZM.c.2.2.2.1.lt Wo head;refine QQ func187 ntmps187 results187 λbase w pl hb=>?_;have Ql:=Qb ho;have WK:=Qb he;simp only[go_sem,he];apply ZK hb yH (Ch n.c);apply Qg hb;simp only[go_sem,dr];apply QF hb [0,1,2,3,4,5,6,7,8,9,10,11,1012,13,14,1015];simp only[go_sem,he];refine Qad hb QqG ?_ (Qt2 n.du ZM.du (Je n.c.rt) ZM.c.2.2.2.1.lt now Wo head hh) ?_
  .simp only[go_sem,r1,r2,r3]
  apply ZH hb;simp only[go_sem,Qe,he];have Qtq:MR={ M with N:=VV M.N id λm=>{ m with du:=z7 n.du (Je n.c.rt) now head },Lv:=XX id (z7 n.du (Je n.c.rt) now head).XZ (z7 n.du (Je n.c.rt) now head).dead M.Lv }:=by
   rw[Oe];unfold VE;rw[ZU,Qd hr]
  generalize z7 n.du (Je n.c.rt) now head=x at xS Qtq ⊢;have C1:=C.wj hn (λm=>{ m with du:=x }) (λ_=>rfl) (λ_=>rfl) ⟨ZM.QO,xS,ZM.sh,ZM.cp,ZM.c⟩;have D1:=Zo.set (own:=own) (h:=h) (Yo (qD L.lq n) { n with du:=x }) (l:=L.le id) (by rw[(C.Jm id n hn).2];simp);generalize hH:h.set (L.le id) (Yo (qD L.lq n) { n with du:=x })=H at C1 D1;have Gg:h.set (L.le id) ⟨.one,0,60,1,λ_=>KQ (qD L.lq n) { n with du:=x }⟩=H:=hH;have KJ:Qh (VV M.N id λm=>{ m with du:=x }) id=some { n with du:=x }:=by
   rw[qU (f:=λm=>{ m with du:=x }) (λ_=>rfl),Qd rfl,hn];rfl
  have ZN:=C1.ob;have Lf:=Qb ZN;have BA:=(C1.Jm id _ KJ).1;have QgK:=Qb BA;have If:=SX I.tree C1.XH.nd I.u7;simp only[Gg];apply Vk [15] hb [0,1,2,3,4,5,6,7,8,9,10,11,12,13,14,1015] [];simp only[go_sem,ZN,BA];refine xI hb Qdy rfl ?_ (Qe6 C1.XH id x.XZ x.dead ω) rfl λd h8 hR=>?_
  .simp only[go_sem,Q8]
  obtain⟨T8,s8⟩:=hR;have CR:=C1.lv T8 s8;have DR:=D1.trans (Zo.of (own:=own) (t:=.lv) σ s8);rw[<- Qtq]at CR;apply ZA hb;generalize QV own H .lv=QFP at CR DR;generalize h8=HR at CR DR ⊢
 case' neg=>
  have dr:=QI hr;refine QQ func187 ntmps187 results187 λbase w pl hb=>?_;have Ql:=Qb ho;have WK:=Qb he;simp only[go_sem,he];apply ZK hb yH (Ch n.c);apply Qg hb;simp only[go_sem,dr];have Qtq:MR=M:=by rw[Oe];unfold VE;rw[ZU,Qc hr]
  have CR:=C;rw[<- Qtq]at CR;have DR:=Zo.refl own h
 all_goals
  rw[<- Oe]at IR;obtain⟨kT,kA,kK,kl⟩:=Le (M:=M) (now:=now) (id:=id) (head:=head);rw[<- Oe]at kT kA kK kl;obtain⟨m,hm,xQ⟩:∃m,Qh MR.N id=some m/\m.c=n.c:=by rw[Oe];exact Qwq id hn
  have Of:=(CR.Jm id m hm).1;have QFQ:=Qb Of;have K6:=CR.ob;have EL:=Qb K6;simp only[go_sem,Of,xQ];apply ZK hb kX (kY n.c);apply Qn hb;by_cases hs:1<QR n.c.ls;case neg=>
   have ds:=QI hs;simp only[go_sem,ds];rw[rZ,Qc hs];exact⟨_,CR,IR,DR⟩
  have ds:=QU hs;rw[Qd hs,<- kA,<- kT]at rZ;rw[rZ];have Vl:Qx MR.T id=some n.c:=by rw[kT];exact I.some hn
  have hO:=CR.YM;rw[IR.to]at hO;have QgL:Ja MR.T MR.A id=false:=by rw[kT,kA];exact ZP
  simp only[go_sem,ds,K6];refine YB hb mR rfl ?_ (QeS hO IR.tree IR.V7 id n.c Vl hl hs QgL) rfl λd h9 hR=>?_
  .simp only[go_sem,Q8]
  obtain⟨d1,rfl,A7,O9,s9⟩:=hR;rw[<- IR.to]at O9;have C9:=CR.act O9 s9;have D9:=DR.trans (Zo.of (t:=.on) σ s9);have I9:Qy { MR with A:=id::MR.A }:=IR.act (λa ha=>by
   rcases QD.1 ha with rfl|ha
   .exact⟨n.c,Vl,hl,hs⟩
   .exact IR.V7 a ha)
  obtain⟨U,hU⟩:∃U,U=Vo MR.T MR.A id:=⟨_,rfl⟩;rw[<- hU]at A7 ⊢;have fh:U.length<=16:=by
   rw[hU];exact Ki (Po _).length_le yN
  have QhH:∀j∈U,j∈up MR.T id:=λj hj=>by rw[hU]at hj;exact(Po _).subset hj
  obtain⟨M9,S3⟩:∃M9,M9={ MR with A:=id::MR.A }:=⟨_,rfl⟩;have Qts:M9.T=MR.T:=by rw[S3]
  rw[<- S3]at C9 I9 ⊢;rcases A7 with ⟨rfl,S4⟩|⟨lo,g,off,row,rfl,⟨Zq,rfl⟩,Lg,ZG⟩
  .exfalso;rw[hU,Vo,Km IR.tree Vl,Pn,QgL]at S4;cases S4
  have Qws:=Qb Lg;rw[JD]at Lg;apply Qn hb;refine Z3 (SZ own h p L M9 now id lo g row U) U.length (Qz.frame (by simp only[go_sem,Q8])) (SZ.of (k:=0) C9 D9 (by unfold QV;rw[Qd Zq]) Lg) ?_;rintro k _ hk ⟨own',H,Ck,Dk,DQ,Kc,rfl⟩;have QhU:=Qb Kc;by_cases Qj:k<U.length;case neg=>
   have Jf:k=U.length:=ω;have dk:=QI Qj;rw[Jf,q9]at Ck;have Ik:=Qy.SY (now:=now) U I9;have Lh:=(GK now U M9).1;have ZO:=rS Ck Ik id;rw[Lh,Qts]at ZO;apply Qg hb;simp only[go_sem,dk];apply Qn hb;refine Zw hb mT ZO λd qE hR=>?_;obtain⟨fk,xV,fm,GL⟩:=hR;apply Qn hb;exact⟨fk,xV,fm,Dk.trans GL⟩
  have dk:=QU Qj;obtain⟨j,hj⟩:∃j,j=U.getD k 0:=⟨_,rfl⟩;have EM:j∈up MR.T id:=QhH j (by rw[hj];exact qg U 0 k Qj);have IY:row k=[Qa j]:=by have:=ZG k Qj;rw[JD]at this;rw[this,hj]
  have Jk:(U.take (k+1)).foldl (Wn now) M9=Wn now ((U.take k).foldl (Wn now) M9) j:=by
   rw[getD_take U 0 k Qj,jo,<- hj];rfl
  have Ik:=Qy.SY (now:=now) (U.take k) I9;have Lh:=(GK now (U.take k) M9).1;obtain⟨Mk,EJ⟩:∃Mk,Mk=(U.take k).foldl (Wn now) M9:=⟨_,rfl⟩;rw[<- EJ]at Ck Ik Lh Jk;obtain⟨y,hy⟩:∃y,Qh Mk.N j=some y:=by
   have Ya:=Gk EM;rw[<- Qts,<- Lh,Ik.find]at Ya;cases hq:Qh Mk.N j with
   | none=>rw[hq]at Ya;cases Ya
   | some y=>exact⟨y,rfl⟩
  have xW:=Ck.YN j y hy;obtain⟨l1,l2,l3⟩:=rY xW.c.2.2.2.2.1;obtain⟨u1,u2,u3⟩:=rY xW.c.2.2.2.2.2.1;have YL:=Ck.look hy;have zd:=Ck.ob;have Li:=Qb zd;have qn:=Ck.Vv;have S5:=Qb qn;have BB:=(Ck.Jm j y hy).1;have fo:=Qb BB;have Ea:=Ck.VP;have Qea:=Qb Ea;have qq:=rR Ik hy;have qs:=Ck.Xr.at_ y.c.parent;rw[Qd qq]at qs;have jf:=(Ck.kids _ qq).toR;have Zb:=J9 (show k<4611686018427387904 from ω);have MM:Ld (Mk.KT y.c.parent)<18446744073709551616:=by
   unfold Ld;cases hq:Mk.KT y.c.parent with
   | nil=>decide
   | cons x l=>
    have:=Ik.kh y.c.parent x (by rw[hq];simp);show x.ka<_;omega
  have QA:L.le j≠lo:=λe=>by have h1:=(Ck.Jm j y hy).2;rw[e,DQ]at h1;cases h1
  apply Qg hb;simp only[go_sem,Qj,IY,zd,qn,Kc,YL];apply QF hb [0,1,2,3,4,5,6,7,8,9,1010,11,12,13,14,15];simp only[go_sem,zd,BB,Ea,qs];apply Wz hb QqH (Qtb jf);apply ZA hb;have S6:(((Mk.KT y.c.parent).head?.getD default).ka:Int)=((Ld (Mk.KT y.c.parent):Nat):Int):=rfl;simp only[S6];apply QF hb Y7;simp only[go_sem,BB];refine Qad hb QqI ?_ (Qt8 y.sh xW.sh (Je y.c.ls) xW.c.2.2.2.2.1.lt (Ld (Mk.KT y.c.parent)) y.QO MM xW.QO) ?_
  .simp only[go_sem,l1,l2,l3]
  apply ZH hb;simp only[go_sem,Qe,BB];have he4:∀s,(H.set (L.le j) ⟨.one,0,60,1,λ_=>KQ (qD L.lq y) s⟩)[L.le j]? = some ⟨.one,0,60,1,λ_=>KQ (qD L.lq y) s⟩:=λs=>QE fo;have QFR:∀s,L.le j<(H.set (L.le j) s).length:=λs=>by simpa using fo
  apply QF hb Y7;simp only[go_sem,he4];refine Qad hb QqJ ?_ (Qud y.cp xW.cp (Je y.c.ul) xW.c.2.2.2.2.2.1.lt now y.QO Wo xW.QO) ?_
  .simp only[go_sem,u1,u2,u3]
  apply ZH hb;simp only[go_sem,Qe,he4];have C4:=Ck.wj hy (xU Mk now) (λ_=>rfl) (λ_=>rfl) (rX Ik Wo xW);have D4:=Zo.set (own:=own') (h:=H) (Yo (qD L.lq y) (xU Mk now y)) (l:=L.le j) (by rw[(Ck.Jm j y hy).2];simp);refine⟨Qj,_,Qz.frame (by simp only[go_sem,Zb]),SZ.of (by rw[Jk];exact C4) (Dk.trans D4) DQ (by rw[Qr QA];exact Kc)⟩
def Qwt{S}{h}{p}{T}{A}(O:zn S h p T A)(leaf)(c:Qq)(hc:Qx T leaf=some c)(qR:¬ 1<QR c.ls):
  QH prog 292 h [.ptr p 0 0 0,Qa leaf] (λd h'=>d=.tup [.nil,Qa 6]/\h'=h):=by
 obtain⟨b1,b2,b3,c1,c2,c3,Zx,Z1,KP,kl,O⟩:=O;have ho:=O.o;have m1:=O.m1;have k1:=O.f1.at_ leaf;rw[vj,hc]at k1;simp only[Qc qR]at k1;refine QQ func292 ntmps292 results292 λbase w pl hb=>?_;have Ql:=Qb ho;have Sb:=Qb m1;simp only[go_sem,ho,m1,k1,Go.undef]
def y7:Sh:=⟨false,⟨⟨0,0,0⟩,⟨0,0,0⟩,false⟩,0⟩
def QgN:y7.Ok:=⟨⟨Ln.j6,Ln.j6⟩,π⟩
def W1(M:Qk)(c:Int):Qk:={ M with N:=VV M.N c λn=>{ n with sh:=y7 } }
def Wp(M:Qk)(j:Int):Qk:={ M with KT:=λi=>if i=(Qw M j).c.parent then Vd j (M.KT (Qw M j).c.parent) else M.KT i }
def JO(M:Qk)(j:Int):Qk:=
 if Vd j (M.KT (Qw M j).c.parent)=[] then (WE M.T (Qw M j).c.parent).foldl W1 (Wp M j) else Wp M j
def WY(M:Qk)(id:Int):Qk:=
 if 1<QR (Qw M id).c.ls then (Vo M.T (Ka M.A id) id).foldl JO { M with A:=Ka M.A id } else M
def Qy.W1{M}(I:Qy M)(c):Qy (W1 M c):=I.VV c (λn=>{ n with sh:=y7 }) λ_=>rfl
def fp:∀(l:List Int) (M:Qk),(l.foldl W1 M).T=M.T/\(l.foldl W1 M).A=M.A/\(l.foldl W1 M).KT=M.KT/\(l.foldl W1 M).lk=M.lk/\(l.foldl W1 M).Qf=M.Qf/\(l.foldl W1 M).acc=M.acc/\(l.foldl W1 M).Lv=M.Lv
 | [],M=>⟨rfl,rfl,rfl,rfl,rfl,rfl,rfl⟩
 | j::l,M=>fp l (W1 M j)
def Qy.Qh8:∀(l:List Int) {M:Qk},Qy M->Qy (l.foldl X.W1 M)
 | [],M,I=>I
 | j::l,M,I=>Qy.Qh8 l (I.W1 j)
def Qy.Wp{M}(I:Qy M)(j):Qy (Wp M j):=by
 refine⟨I.tree,I.wK,I.to,I.nodes,I.V7,I.ks,I.u7,λi x hx=>?_,λi x hx=>?_,I.Qf,I.acc⟩
 .unfold X.Wp at hx;dsimp only at hx;split at hx
  .rename_i hj;subst hj;exact I.kg _ x (Jt.1 hx).1
  .exact I.kg _ x hx
 .unfold X.Wp at hx;dsimp only at hx;split at hx
  .exact I.kh _ x (Jt.1 hx).1
  .exact I.kh _ x hx
def Qy.JO{M}(I:Qy M)(j):Qy (JO M j):=by
 unfold X.JO;split
 .exact Qy.Qh8 _ (I.Wp j)
 .exact I.Wp j
def Qy.S7:∀(l:List Int) {M:Qk},Qy M->Qy (l.foldl X.JO M)
 | [],M,I=>I
 | j::l,M,I=>Qy.S7 l (I.JO j)
def QgO(M:Qk)(j:Int):(JO M j).T=M.T/\(JO M j).A=M.A/\(JO M j).lk=M.lk/\(JO M j).Qf=M.Qf/\(JO M j).acc=M.acc/\(JO M j).Lv=M.Lv:=by
 unfold JO;split
 .obtain⟨a1,a2,a3,a4,a5,a6,a7⟩:=fp (WE M.T (Qw M j).c.parent) (Wp M j);exact⟨a1,a2,a4,a5,a6,a7⟩
 .exact⟨rfl,rfl,rfl,rfl,rfl,rfl⟩
def GM:∀(l:List Int) (M:Qk),(l.foldl JO M).T=M.T/\(l.foldl JO M).A=M.A/\(l.foldl JO M).lk=M.lk/\(l.foldl JO M).Qf=M.Qf/\(l.foldl JO M).acc=M.acc/\(l.foldl JO M).Lv=M.Lv
 | [],M=>⟨rfl,rfl,rfl,rfl,rfl,rfl⟩
 | j::l,M=>by
  obtain⟨a1,a2,a3,a4,a5,a6⟩:=GM l (JO M j);obtain⟨b1,b2,b3,b4,b5,b6⟩:=QgO M j;exact⟨a1.trans b1,a2.trans b2,a3.trans b3,a4.trans b4,a5.trans b5,a6.trans b6⟩
def Qy.WY{M}(I:Qy M)(id):Qy (WY M id):=by
 unfold X.WY;split
 .exact Qy.S7 _ (I.act (I.V7.off id))
 .exact I
structure Og (own:Nat->Tag) (h:List Ob) (p:Nat) (L:Loc) (M:Qk) (lo g:Nat) (row:Nat->List D) (U:List Int) (k:Nat) (s:St):Prop where
 ex:∃own' H,Zr own' H p L ((U.take k).foldl JO M)/\Zo own h own' H/\own' lo=.on/\H[lo]? = some ⟨.arr,g,1,U.length,row⟩ /\
  s=⟨[(0,.ptr p 0 0 0),(22,.ref lo g 0 U.length),(23,Qa U.length),(24,Qa k)],H⟩
def Og.of{own}{h}{p}{L}{M}{lo g}{row}{U:List Int}{k:Nat}{own'}{H:List Ob}(C:Zr own' H p L ((U.take k).foldl JO M))(D:Zo own h own' H)(h1:own' lo=.on)(h2:H[lo]? = some ⟨.arr,g,1,U.length,row⟩):
  Og own h p L M lo g row U k ⟨[(0,.ptr p 0 0 0),(22,.ref lo g 0 U.length),(23,Qa U.length),(24,Qa k)],H⟩:=⟨⟨own',H,C,D,h1,h2,rfl⟩⟩
structure S8 (own:Nat->Tag) (h:List Ob) (p:Nat) (L:Loc) (M:Qk) (lo g:Nat) (row:Nat->List D) (U V:List Int) (k:Nat) (i:Nat) (s:St):Prop where
 ex:∃own' H,Zr own' H p L ((V.take i).foldl W1 M)/\Zo own h own' H/\own' lo=.on/\H[lo]? = some ⟨.arr,g,1,U.length,row⟩ /\
  s=⟨[(0,.ptr p 0 0 0),(22,.ref lo g 0 U.length),(23,Qa U.length),(24,Qa k),(59,ints V),(60,Qa V.length),(61,Qa i)],H⟩
def S8.of{own}{h}{p}{L}{M}{lo g}{row}{U V:List Int}{k i:Nat}{own'}{H:List Ob}(C:Zr own' H p L ((V.take i).foldl W1 M))(D:Zo own h own' H)(h1:own' lo=.on)(h2:H[lo]? = some ⟨.arr,g,1,U.length,row⟩):
  S8 own h p L M lo g row U V k i ⟨[(0,.ptr p 0 0 0),(22,.ref lo g 0 U.length),(23,Qa U.length),(24,Qa k),(59,ints V),(60,Qa V.length),(61,Qa i)],H⟩:=⟨⟨own',H,C,D,h1,h2,rfl⟩⟩
def Qwu{own}{h}{p}{L}{M:Qk}(C:Zr own h p L M)(I:Qy M){id}{n:Nd}(hn:Qh M.N id=some n)(hl:n.c.leaf=true)(K9:1<QR n.c.ls->id∈M.A)(ZP:Ja M.T (Ka M.A id) id=false):
  QH prog 241 h [.ptr p 0 0 0,Qa id] (λd h'=>∃own',Zr own' h' p L (WY M id)/\Qy (WY M id)/\Zo own h own' h'):=by
 have ho:=C.ob;have ZU:Qw M id=n:=by unfold Qw;rw[hn];rfl
 have Vl:Qx M.T id=some n.c:=I.some hn;have hO:=C.YM;have hlen:=I.tree.len;rw[I.to]at hO;by_cases hs:1<QR n.c.ls;case neg=>
  have hM:WY M id=M:=by unfold WY;rw[ZU,Qc hs]
  refine QQ func241 ntmps241 results241 λbase w pl hb=>?_;have Ql:=Qb ho;simp only[go_sem,ho];refine Zw hb QdI (Qwt hO id n.c Vl hs) λd h9 hR=>?_;obtain⟨rfl,rfl⟩:=hR;apply Qn hb;rw[hM];exact⟨own,C,I,Zo.refl own h9⟩
 have hM:WY M id=(Vo M.T (Ka M.A id) id).foldl JO { M with A:=Ka M.A id }:=by unfold WY;rw[ZU,Qd hs]
 have I9:Qy { M with A:=Ka M.A id }:=I.act (I.V7.off id);have r8:=Qy.S7 (Vo M.T (Ka M.A id) id) I9;rw[hM];refine QQ func241 ntmps241 results241 λbase w pl hb=>?_;have Ql:=Qb ho;simp only[go_sem,ho];refine Zw hb QdI (QsY hO I.tree I.V7 id n.c Vl hl hs (K9 hs) ZP) λd h9 hR=>?_;obtain⟨d1,rfl,A7,O9,s9⟩:=hR;rw[<- I.to]at O9;have C9:=C.act O9 s9;have D9:=Zo.of (own:=own) (t:=.on) σ s9;obtain⟨U,hU⟩:∃U,U=Vo M.T (Ka M.A id) id:=⟨_,rfl⟩;rw[<- hU]at A7 r8 ⊢;have fh:U.length<=16:=by
  rw[hU];exact Ki (Po _).length_le yN
 have QhH:∀j∈U,j∈up M.T id:=λj hj=>by rw[hU]at hj;exact(Po _).subset hj
 obtain⟨M9,S3⟩:∃M9,M9={ M with A:=Ka M.A id }:=⟨_,rfl⟩;have Qts:M9.T=M.T:=by rw[S3]
 rw[<- S3]at C9 I9 r8 ⊢;rcases A7 with ⟨rfl,S4⟩|⟨lo,g,off,row,rfl,⟨Zq,rfl⟩,Lg,ZG⟩
 .exfalso;rw[hU,Vo,Km I.tree Vl,Pn,ZP]at S4;cases S4
 have Qws:=Qb Lg;rw[JD]at Lg;apply Qn hb;refine Z3 (Og own h p L M9 lo g row U) U.length QM (Og.of (k:=0) C9 D9 (by unfold QV;rw[Qd Zq]) Lg) ?_;rintro k _ hk ⟨own',H,Ck,Dk,DQ,Kc,rfl⟩;have QhU:=Qb Kc;by_cases Qj:k<U.length;case neg=>
  have Jf:k=U.length:=ω;have dk:=QI Qj;rw[Jf,q9]at Ck;apply Qg hb;simp only[go_sem,dk];exact⟨own',Ck,r8,Dk⟩
 have dk:=QU Qj;obtain⟨j,hj⟩:∃j,j=U.getD k 0:=⟨_,rfl⟩;have EM:j∈up M.T id:=QhH j (by rw[hj];exact qg U 0 k Qj);have IY:row k=[Qa j]:=by have:=ZG k Qj;rw[JD]at this;rw[this,hj]
 have Jk:(U.take (k+1)).foldl JO M9=JO ((U.take k).foldl JO M9) j:=by
  rw[getD_take U 0 k Qj,jo,<- hj];rfl
 have Ik:=Qy.S7 (U.take k) I9;have Lh:=(GM (U.take k) M9).1;obtain⟨Mk,EJ⟩:∃Mk,Mk=(U.take k).foldl JO M9:=⟨_,rfl⟩;rw[<- EJ]at Ck Ik Lh Jk;obtain⟨y,hy⟩:∃y,Qh Mk.N j=some y:=by
  have Ya:=Gk EM;rw[<- Qts,<- Lh,Ik.find]at Ya;cases hq:Qh Mk.N j with
  | none=>rw[hq]at Ya;cases Ya
  | some y=>exact⟨y,rfl⟩
 have SF:Qw Mk j=y:=by unfold Qw;rw[hy];rfl
 have YL:=Ck.look hy;have zd:=Ck.ob;have Li:=Qb zd;have qn:=Ck.Vv;have S5:=Qb qn;have BB:=(Ck.Jm j y hy).1;have fo:=Qb BB;have Ea:=Ck.VP;have Qea:=Qb Ea;have qq:=rR Ik hy;have qs:=Ck.Xr.at_ y.c.parent;rw[Qd qq]at qs;have jf:=Ck.kids _ qq;have Zb:=J9 (show k<4611686018427387904 from ω);have If:=SX Ik.tree jf.nd (Ik.rP _);apply Qg hb;simp only[go_sem,Qj,IY,zd,qn,Kc,YL,BB,Ea,qs];refine Zw hb Qrc (Qtd jf j ω) λd qE hR=>?_;obtain⟨rfl,T10,r9⟩:=hR;have xV:=Ck.XG _ qq T10 r9;have GL:=Dk.trans (Zo.of (t:=.XG y.c.parent) σ r9);have ZR:{ Mk with KT:=λi=>if i=y.c.parent then Vd j (Mk.KT y.c.parent) else Mk.KT i }=Wp Mk j:=by unfold Wp;rw[SF]
 rw[ZR]at xV;have fm:=Ik.Wp j;have fk:QV own' H (.XG y.c.parent) lo=.on:=by rw[Kg QhU];exact DQ
 have QgQ:qE[lo]? = some ⟨.arr,g,1,U.length,row⟩:=(r9.keep lo QhU (by rw[DQ];simp)).trans Kc;have S9:JO Mk j=if Vd j (Mk.KT y.c.parent)=[] then (WE Mk.T y.c.parent).foldl W1 (Wp Mk j) else Wp Mk j:=by unfold JO;rw[SF]
 have Oh:=xV.ob;have Qwv:=Qb Oh;have hm4:=xV.VP;have QFS:=Qb hm4;have QgS:=xV.Xr.at_ y.c.parent;rw[Qd (show (Wp Mk j).ks y.c.parent=true from qq)]at QgS;have GN:Et qE (L.lk y.c.parent) (Vd j (Mk.KT y.c.parent)):=T10.toR;apply Qg hb;simp only[go_sem,Oh,hm4,QgS];apply ZQ hb mV (oY GN);apply Qn hb;by_cases hz:Vd j (Mk.KT y.c.parent)=[];case neg=>
  have YZ:0<(Vd j (Mk.KT y.c.parent)).length:=QpJ.2 hz;have dz:decide ((0:Int)<((Vd j (Mk.KT y.c.parent)).length:Int))=true:=QU ω;rw[Qc hz]at S9;simp only[go_sem,dz];exact⟨Qj,_,Qz.frame (by simp only[go_sem,Zb]),Og.of (by rw[Jk,S9];exact xV) GL fk QgQ⟩
 rw[Qd hz]at S9;have dz:decide ((0:Int)<((Vd j (Mk.KT y.c.parent)).length:Int))=false:=QI (by rw[hz];simp);simp only[go_sem,dz,Oh];apply ZQ hb mW (QsT xV.tr.toR (by have:=fm.tree.len;omega) y.c.parent);apply Qn hb;obtain⟨V,hV⟩:∃V,V=WE Mk.T y.c.parent:=⟨_,rfl⟩;have hVl:V.length<=64:=by
  rw[hV];unfold WE;rw[J1];exact Ki (Xx _ _) Ik.tree.len
 have hVm:∀c∈V,(Qx Mk.T c).isSome=true:=λc hc=>by
  rw[hV]at hc;obtain⟨x,hx,rfl⟩:=Z2.1 hc;rw[(J6 Ik.tree.rising).2 ⟨(Jt.1 hx).1,rfl⟩];rfl
 rw[show WE (Wp Mk j).T y.c.parent=V from hV.symm];rw[<- hV]at S9;refine Z3 (S8 own h p L (Wp Mk j) lo g row U V k) V.length QM (S8.of (i:=0) xV GL fk QgQ) ?_;rintro i _ hi ⟨wN,H5,C5,D5,EN,QgT,rfl⟩;by_cases WO:i<V.length;case neg=>
  have VH:i=V.length:=ω;have di:=QI WO;rw[VH,q9]at C5;apply Qg hb;simp only[go_sem,di];apply Qn hb;exact⟨Qj,_,Qz.frame (by simp only[go_sem,Zb]),Og.of (by rw[Jk,S9];exact C5) D5 EN QgT⟩
 have di:=QU WO;have CN:=J9 (show i<4611686018427387904 from ω);obtain⟨c,hc⟩:∃c,c=V.getD i 0:=⟨_,rfl⟩;have hcV:c∈V:=by rw[hc];exact qg V 0 i WO
 have QgU:(V.take (i+1)).foldl W1 (Wp Mk j)=W1 ((V.take i).foldl W1 (Wp Mk j)) c:=by
  rw[getD_take V 0 i WO,jo,<- hc];rfl
 have I5:=Qy.Qh8 (V.take i) fm;have kT5:=(fp (V.take i) (Wp Mk j)).1;obtain⟨M5,Oi⟩:∃M5,M5=(V.take i).foldl W1 (Wp Mk j):=⟨_,rfl⟩;rw[<- Oi]at C5 I5 kT5 QgU;obtain⟨x,hx⟩:∃x,Qh M5.N c=some x:=by
  have Ya:=hVm c hcV;rw[show Mk.T=M5.T from kT5.symm,I5.find]at Ya;cases hq:Qh M5.N c with
  | none=>rw[hq]at Ya;cases Ya
  | some x=>exact⟨x,rfl⟩
 have xS:=C5.YN c x hx;have fq:=C5.look hx;have CO:=C5.ob;have sb:=Qb CO;have Bx:=C5.Vv;have sf:=Qb Bx;have Lj:=(C5.Jm c x hx).1;have sg:=Qb Lj;have QA:L.le c≠lo:=λe=>by have h1:=(C5.Jm c x hx).2;rw[e,EN]at h1;cases h1
 apply Qg hb;simp only[go_sem,Qe,WO,<- hc,CO,Bx,fq,Lj];have C6:=C5.wj hx (λn=>{ n with sh:=y7 }) (λ_=>rfl) (λ_=>rfl) ⟨xS.QO,xS.du,QgN,xS.cp,xS.c⟩;have D6:=Zo.set (own:=wN) (h:=H5) (Yo (qD L.lq x) { x with sh:=y7 }) (l:=L.le c) (by rw[(C5.Jm c x hx).2];simp);have B8:(⟨.one,0,60,1,λ_=>List.take 38 (KQ (qD L.lq x) x)++.raw (.bool false)::.raw (.int .u64 0)::.raw (.int .u64 0)::.raw (.int .u64 0)::.raw (.int .u64 0)::.raw (.int .u64 0)::.raw (.int .u64 0)::.raw (.int .u64 0)::.raw (.int .u64 0)::.raw (.bool false)::.raw (.int .u64 0)::List.drop 49 (KQ (qD L.lq x) x)⟩:Ob)=Yo (qD L.lq x) { x with sh:=y7 }:=by
  unfold Yo;rw[<- Qwj (qD L.lq x) x y7];rfl
 rw[B8];refine⟨_,Qz.frame (by simp only[go_sem,CN]),S8.of (by rw[QgU];exact C6) (D5.trans D6) EN (by rw[Qr QA];exact QgT)⟩
def firstM(M:Qk)(now:Nat)(id:Int):Option It:=(M.KT id).find? λx=>decide (x.va<=min now 9223372036854775807)
def wO(M:Qk)(now:Nat):Nat->Int->Option Int
 | 0,_=>none
 | n+1,id=>match firstM M now id with
  | none=>none
  | some x=>if (Qw M x.ki).c.leaf=true then some x.ki else wO M now n x.ki
def QgW(o:Option Int):D:=.tup [Qa (o.getD 0),QT false,QT o.isSome]
def wP(M:Qk)(now:Nat)(o:Option It):Prop:=xH o (M.Lv.filter λx=>decide (x.ka<=min now 9223372036854775807))
def Oj(M:Qk)(now:Nat)(o:Option It):D:=match o with
 | some x=>.tup [Qa x.ki,QT true,QT true]
 | none=>QgW (wO M now 17 0)
section
variable {own:Nat->Tag}{h:List Ob}{p:Nat}{L:Loc}{M:Qk}(C:Zr own h p L M)(I:Qy M)
include C I
theorem Qwy(now):Q6 prog 236 h [.ptr p 0 0 0,u64 now] (λd=>∃o,wP M now o/\d=Oj M now o):=by
 have ho:=ZC C.ob;have hm:=ZC C.VP;have Zp:=ZC C.Vv;have hv:=C.XH.toR;refine xD func236 ntmps236 results236 λbase w pl F hF Q7 hb=>?_;rw[<- hF]at ho hm Zp;have Ql:=Qb ho;have Zg:=Qb hm;have Nw:=Qb Zp;simp only[go_sem,ho];refine oz hb Qq7 (Qte (hv.more (KC hF)) now) λd hR=>?_;obtain⟨o,hLO,rfl⟩:=hR;apply Qn hb;cases o with
 | some x=>
  simp only[go_sem,za,KR];exact⟨[],(JI F).symm,some x,hLO,rfl⟩
 | none=>
  simp only[go_sem,xh];have QFU:(up M.T 0).length=0:=by rw[Gj I.tree];rfl
  refine HJ (λn st=>∃id,M.ks id=true/\(up M.T id).length+n=16/\wO M now 17 0=wO M now (n+1) id/\st=⟨[(0,.ptr p 0 0 0),(1,u64 now),(9,Qa id)],F⟩) 16 QM ⟨0,(I.ks 0).2 (.inl rfl),ω,rfl,rfl⟩ ?_;rintro n _ ⟨id,qq,hlen,y8,rfl⟩;have qs:=C.Xr.at_ id;rw[Qd qq]at qs;have hT:=(C.kids id qq).toR
  conv at y8=>rhs;rw[wO]
  apply Qg hb;simp only[go_sem,ho,hm,qs];apply ZQ hb Qq8 (Qta (hT.more (KC hF)) now);apply Qn hb;have hfm:(M.KT id).find? (λx=>decide (x.va<=min now 9223372036854775807))=firstM M now id:=rfl;rw[hfm];cases hq:firstM M now id with
  | none=>
   rw[hq]at y8;simp only[go_sem,xh];exact⟨[],(JI F).symm,none,hLO,by unfold Oj;rw[y8];rfl⟩
  | some x=>
   rw[hq]at y8;have SN:x∈M.KT id:=kF hq;obtain⟨c,hc,YJ⟩:=I.kg id x SN;obtain⟨y,hy,hyc⟩:=I.Lb hc;have SF:Qw M x.ki=y:=by unfold Qw;rw[hy];rfl
   have IX:(up M.T x.ki).length=(up M.T id).length+1:=by rw[Km I.tree hc,YJ];rfl
   have h16:(up M.T x.ki).length<=16:=yN;have YL:=C.look hy;have he:=ZC (C.Jm x.ki y hy).1;rw[<- hF]at he;have WK:=Qb he;dsimp only at y8;rw[SF]at y8;simp only[go_sem,za,KR,ho,Zp,YL,he];cases hl:y.c.leaf with
   | true=>
    rw[hl,Qd rfl]at y8;simp only[go_sem];exact⟨[],(JI F).symm,none,hLO,by unfold Oj;rw[y8];rfl⟩
   | false=>
    rw[hl,Qc π]at y8;obtain⟨n,rfl⟩:∃n',n=n'+1:=⟨n - 1,ω⟩;simp only[go_sem];exact⟨n,_,ω,QM,x.ki,(I.ks _).2 (.inr ⟨y,hy,hl⟩),ω,y8,rfl⟩
end
def QwA{T}(I:JG T){id a}{c:Qq}(hc:Qx T id=some c)(hl:c.leaf=true)(h:id∈up T a):a=id:=by
 refine kC λQA=>?_;obtain⟨i,d,h1,h2,h3⟩:=dB I h QA;have h0:d.parent≠0:=λe=>by rw[<- h3,e,Ig I]at hc;cases hc
 obtain⟨e,h4,h5⟩:=I.J8 d (xF I h2) h0;rw[h3,hc]at h4;cases h4;rw[hl]at h5;cases h5
def ft{T}(I:JG T){id}{c:Qq}(hc:Qx T id=some c)(hl:c.leaf=true)(A):Ja T A id=true↔id∈A:=by
 rw[XU];constructor
 .rintro⟨a,ha,h⟩;rw[<- QwA I hc hl h];exact ha
 .exact λh=>⟨id,h,Xo I hc⟩
def QwB{T}(I:JG T){id}{c:Qq}(hc:Qx T id=some c)(hl:c.leaf=true)(A):Ja T (Ka A id) id=false:=by
 rw[Xe];intro h;have:=(ft I hc hl _).1 h;simp[Ka]at this
def xX(len:Nat)(n:Nd):Nd:={ n with QO:=VO (n.QO+len),sh:=GA n.sh (VO (n.QO+len)),cp:=z8 n.cp (VO (n.QO+len)) }
def Vw(len:Nat)(M:Qk)(j:Int):Qk:={ M with N:=VV M.N j (xX len) }
def QgY{n:Nd}(h:n.Ok)(len):(xX len n).Ok:=⟨IG _,h.du,Qt7 h.sh _,Qub h.cp _,h.c⟩
def Qy.Vw{M}(I:Qy M)(len)(j):Qy (Vw len M j):=I.VV j (xX len) λ_=>rfl
def Qy.fu{len}:∀(l:List Int) {M:Qk},Qy M->Qy (l.foldl (X.Vw len) M)
 | [],M,I=>I
 | j::l,M,I=>Qy.fu l (I.Vw len j)
def Lk(len):∀(l:List Int) (M:Qk),(l.foldl (Vw len) M).T=M.T/\(l.foldl (Vw len) M).A=M.A/\(l.foldl (Vw len) M).KT=M.KT/\(l.foldl (Vw len) M).lk=M.lk/\(l.foldl (Vw len) M).Qf=M.Qf/\(l.foldl (Vw len) M).acc=M.acc/\(l.foldl (Vw len) M).Lv=M.Lv
 | [],M=>⟨rfl,rfl,rfl,rfl,rfl,rfl,rfl⟩
 | j::l,M=>Lk len l (Vw len M j)
def QgZ{N}{j}{f}(hc:∀n,(f n).c=n.c)(i){n:Nd}(h:Qh N i=some n):∃m,Qh (VV N j f) i=some m/\m.c=n.c/\(m=n\/(i=j/\m=f n)):=by
 rw[qU (λn=>by rw[hc])];by_cases e:i=j
 .rw[Qd e,h];exact⟨f n,rfl,hc n,.inr ⟨e,rfl⟩⟩
 .rw[Qc e];exact⟨n,h,rfl,.inl rfl⟩
def Qg0(len):∀(l:List Int) (M:Qk) (i:Int) {n:Nd},Qh M.N i=some n->∃m,Qh (l.foldl (Vw len) M).N i=some m/\m.c=n.c/\m.q=n.q/\m.du=n.du
 | [],M,i,n,h=>⟨n,h,rfl,rfl,rfl⟩
 | j::l,M,i,n,h=>by
  obtain⟨m,h1,h2,h3⟩:=QgZ (f:=xX len) (j:=j) (λ_=>rfl) i h;obtain⟨m2,h4,h5,h6,h7⟩:=Qg0 len l (Vw len M j) i h1;refine⟨m2,h4,h5.trans h2,?_,?_⟩
  .rw[h6];rcases h3 with rfl|⟨_,rfl⟩<;>rfl
  .rw[h7];rcases h3 with rfl|⟨_,rfl⟩<;>rfl
def WL(M:Qk)(id:Int):Qk:={ M with N:=VV M.N id λn=>{ n with q:=WI (Qw M id).q } }
def Qy.WL{M}(I:Qy M)(id:Int):Qy (WL M id):=I.VV id (λn=>{ n with q:=WI (Qw M id).q }) λ_=>rfl
def Qy.VQ{M:Qk}(I:Qy M){id}{n}(hn:Qh M.N id=Option.some n)(Jz)(r):Qy (VQ M id Jz r):=by
 unfold X.VQ;split
 .refine(I.VV id (λn=>{ n with du:=kf (Qw M id) Jz r }) λ_=>rfl).lv λx hx=>?_;have Wf:x.ki=id\/x∈M.Lv:=by
   split at hx
   .exact rW (Jt.1 hx).1
   .exact rW hx
  rcases Wf with h|h
  .rw[h];show (Qx M.T id).isSome=true;rw[I.some hn];rfl
  .exact I.u7 x h
 .exact I
def Ol(M:Qk)(id)(Jz)(r:Bool):(VQ M id Jz r).T=M.T/\(VQ M id Jz r).A=M.A/\(VQ M id Jz r).KT=M.KT/\(VQ M id Jz r).lk=M.lk/\(VQ M id Jz r).Qf=M.Qf/\(VQ M id Jz r).acc=M.acc:=by
 unfold VQ;split<;>exact⟨rfl,rfl,rfl,rfl,rfl,rfl⟩
def QwC(M:Qk)(id)(Jz)(r:Bool)(i){n:Nd}(h:Qh M.N i=some n):∃m,Qh (VQ M id Jz r).N i=some m/\m.c=n.c/\m.q=n.q:=by
 unfold VQ;split
 .obtain⟨m,h1,h2,h3⟩:=QgZ (f:=λn=>{ n with du:=kf (Qw M id) Jz r }) (j:=id) (λ_=>rfl) i h;exact⟨m,h1,h2,by rcases h3 with rfl|⟨_,rfl⟩<;>rfl⟩
 .exact⟨n,h,rfl,rfl⟩
def K8(M:Qk)(now:Nat)(o:Option It):Option (Int × Bool):=match o with
 | some x=>some (x.ki,true)
 | none=>(wO M now 17 0).map λid=>(id,false)
def Xb(M:Qk)(id:Int)(r:Bool):Qk:=
 let len:=((Qw M id).q.l.headD default).len;let M3:=VQ ((up M.T id).foldl (Vw len.toNat) (WL M id)) id len r;let M4:=if (WI (Qw M id).q).l=[] then WY M3 id else M3
 VW M4 (up M.T id)
end Go.Fg.X
