/- Contracts and laws on the way to the statement. No conditions. -/
import Derived.Test.YtjhngjdipealfaaGreatFgFork
import Derived.Test.YtjhngjdipealfaaGreatFgHx
import Derived.Sort.AssemblyPlain
import Derived.Sort.LotD5
import Derived.Sort.Walk13a
import Derived.Test.YtjhngjdipealfaaGreatFgHeap
set_option maxRecDepth 100000
set_option maxHeartbeats 16000000
set_option linter.unusedVariables false
set_option linter.unusedSimpArgs false
set_option linter.unusedSectionVars false
set_option linter.defProp false
namespace Go.Fg
section
variable {P:Program}{base nt:Nat}{w0:Start}{Q:Exit->St->Prop}{k:List Item}{s:St}
def aB(P:Program)(base nt:Nat)(w0:Start)(Q:Exit->St->Prop)(k:List Item)(T:St->Prop):Exit->St->Prop
 | .normal,s=>∃s1,T s1/\QI w0 s s1
 | e,s=>Qw P base nt w0 Q k e s
variable {T:St->Prop}
@[go_sem] theorem QEq:aB P base nt w0 Q k T .normal s=∃s1,T s1/\QI w0 s s1:=Kw rfl
@[go_sem] theorem QEr{j}:aB P base nt w0 Q k T (.exit j) s=Qw P base nt w0 Q k (.exit j) s:=Kw rfl
@[go_sem] theorem QEs:aB P base nt w0 Q k T .ret s=Qw P base nt w0 Q k .ret s:=Kw rfl
def aC{x}{c}(T)(h1:Qw P base nt w0 (aB P base nt w0 Q (.code c::k) T) [x] .normal s)(h2:∀s1,T s1->Qw P base nt w0 Q (.code c::k) .normal s1):Qw P base nt w0 Q (x::.code c::k) .normal s:=by
 have key:∀s',(∃s1,T s1/\QI w0 s' s1)->Qw P base nt w0 Q (.code c::k) .normal s':=λs' ⟨s1,ht,hw⟩=>EO hw (h2 s1 ht);cases x with
 | code x=>
  simp only[Qw]at h1;show A P base nt w0 x _ s;refine h1.mono λe s' he=>?_;cases e with
  | normal=>exact key _ he
  | _=>exact he
 | ops l=>
  simp only[Qw]at h1;show AG P base nt w0 l _ s;intro Z z pl a w r b;refine UI (λe a' w' ⟨s',Qj,hs,r',b'⟩=>⟨s',Qj,?_,r',b'⟩) _ _ _ (h1 Z z pl a w r b);cases e with
  | normal=>exact key _ hs
  | _=>exact hs
 | inBlock id=>simp only[Qw]at h1 ⊢;exact key _ h1
 | inScope=>simp only[Qw]at h1 ⊢;exact key _ h1
end
def PD:List Item->Bool
 | .inBlock _::k=>PD k
 | .inScope::k=>PD k
 | .code _::_=>true
 | .ops _::_=>true
 | []=>false
def AI{P}{base nt}{w0}{Q}{s s'}(h:QI w0 s s'):∀{k:List Item},PD k=true->Qw P base nt w0 Q k .normal s'->Qw P base nt w0 Q k .normal s
 | [],hc,_=>by cases hc
 | .code c::k,_,hk=>EO h hk
 | .ops l::k,_,hk=>GW h hk
 | .inBlock n::k,hc,hk=>by
  rw[PD]at hc;simp only[Qw]at hk ⊢;exact AI h hc hk
 | .inScope::k,hc,hk=>by
  rw[PD]at hc;simp only[Qw]at hk ⊢;exact AI h hc hk
end Go.Fg
namespace Go.Fg.X
open Go.Proofs Go.Fg
open Go.Proofs.Tryz
@[go_sem] def uI(n:Int):D:=.raw (.int .u64 n)
def Qt(x y:Int):Bool:=decide (x<y)
def AJ(d:Array Int):Nat->List D:=λi=>[uI d[i]!]
@[go_sem] theorem QEt(d:Array Int)(i):AJ d i=[uI d[i]!]:=rfl
@[go_sem] def Q6(g:Nat)(d:Array Int):Ob:=⟨.arr,g,1,d.size,AJ d⟩
structure QEu (h h':List Ob) (lo:Nat) (o:Ob):Prop where
 at_:h'[lo]? = some o
 Kj:∀l,l<h.length->l≠lo->h'[l]? = h[l]?
 len:h.length<=h'.length
def QvG(x):Zh prog 180 [uI x] (Qo (QY false)):=by
 refine Zy 0 Qh 200 func180 rfl ntmps180 results180 rfl λbase w hb=>?_;simp only[go_sem];simp only[go_sem,bne_self_eq_false]
def kh(x y):Zh prog 142 [uI x,uI y] (Qo (QY (Qt x y))):=by
 refine Zy 0 Qh 200 func142 rfl ntmps142 results142 rfl λbase w hb=>?_;simp only[go_sem];refine ZA hb QdP rfl ?_ (QvG x) (Qo.flat rfl) rfl λd h hR=>?_
 ·simp only[go_sem,Go.undef]
 obtain⟨rfl,rfl⟩:=hR;refine Qf hb ?_;simp only[go_sem,Go.undef];unfold Qt;rfl
def kj{h:List Ob}{l}{o}(e:h[l]? = some o):h.set l o=h:=xh λi=>by
 by_cases c:l=i
 ·subst c;rw[Qv (Qc e),e]
 ·rw[Qi c]
@[go_sem] def Mq(n:Nat):Ob:=⟨.one,0,1,1,λ_=>[Qb n]⟩
section
variable {h:List Ob}{lo g:Nat}{d:Array Int}(ho:h[lo]? = some (Q6 g d))
include ho
theorem lS{sp}(s)(zD:h[sp]? = some (Mq s))(QB:sp≠lo)(a b)(ha:a<d.size)(Zo:b<d.size)(hs:s<1000000):
  MFn prog 291 h [.ref lo g 0 d.size,Qb a,Qb b,.ptr sp 0 0 0] (λdd h'=>dd=.tup [Qb (Sort.order2 Qt d a b s).1,Qb (Sort.order2 Qt d a b s).2.1]/\h'=h.set sp (Mq (Sort.order2 Qt d a b s).2.2)):=by
 have Zq:=Vp (show s<4611686018427387904 by omega);unfold Sort.order2;refine QU Qh 200 func291 rfl ntmps291 results291 rfl λbase w pl hb=>?_;have Qe:=Qc ho;have km:=Qc zD;simp only[go_sem,Qa,ho,Qe,zD,km];apply QH hb [0,1,2,3,4,5,6,7,1008];simp only[go_sem,ho,Qe,ha,Zo];refine K9 hb zk (kh d[b]! d[a]!) (Qo.flat rfl) λd h hR=>?_;obtain⟨rfl,rfl⟩:=hR;apply V6 hb;cases hl:Qt d[b]! d[a]!
 ·simp only[go_sem,hl];exact(kj zD).symm
 ·simp only[go_sem,hl,zD,km,Zq]
theorem Qf1(a b s:Nat)(ha:a<d.size)(hb:b<d.size):(Sort.order2 Qt d a b s).1<d.size/\(Sort.order2 Qt d a b s).2.1<d.size/\(Sort.order2 Qt d a b s).2.2<=s+1:=by
 have _hu:=ho;unfold Sort.order2;split<;>simp_all
theorem lT{sp}(s)(zD:h[sp]? = some (Mq s))(QB:sp≠lo)(a b c)(ha:a<d.size)(Zo:b<d.size)(LL:c<d.size)(hs:s<900000):
  MFn prog 290 h [.ref lo g 0 d.size,Qb a,Qb b,Qb c,.ptr sp 0 0 0] (λdd h'=>dd=Qb (Sort.median Qt d a b c s).1/\h'=h.set sp (Mq (Sort.median Qt d a b c s).2)):=by
 have q1:=Qf1 ho a b s ha Zo;have q2:=Qf1 ho (Sort.order2 Qt d a b s).2.1 c (Sort.order2 Qt d a b s).2.2 q1.2.1 LL;have km:=Qc zD;have g1:∀o,(h.set sp o)[lo]? = some (Q6 g d):=λo=>(Qi QB).trans ho;have g2:∀o,(h.set sp o)[sp]? = some o:=λo=>Qv km;unfold Sort.median;refine QU Qh 200 func290 rfl ntmps290 results290 rfl λbase w pl hb=>?_;have Qe:=Qc ho;have km:=Qc zD;simp only[go_sem,Qa,ho,Qe,zD,km];refine Jl hb gp (lS ho s zD QB a b ha Zo (by omega)) λd h hR=>?_;obtain⟨rfl,rfl⟩:=hR;apply ZC hb;refine KW hb gp rfl ?_ (lS (g1 _) _ (g2 _) QB _ c q1.2.1 LL (by omega)) rfl λd h hR=>?_
 ·simp only[go_sem,Ji]
 obtain⟨rfl,rfl⟩:=hR;refine Qf hb ?_;simp only[go_sem,Ji];refine KW hb gp rfl ?_ (lS (g1 _) _ (g2 _) QB _ _ q1.1 q2.1 (by omega)) rfl λd h hR=>?_
 ·simp only[go_sem,Ji]
 obtain⟨rfl,rfl⟩:=hR;refine Qf hb ?_;simp only[go_sem,Ji]
theorem lU{sp}(s)(zD:h[sp]? = some (Mq s))(QB:sp≠lo)(a)(ha:1<=a)(Zo:a+1<d.size)(hs:s<900000)(hz:d.size<1000000000):
  MFn prog 289 h [.ref lo g 0 d.size,Qb a,.ptr sp 0 0 0] (λdd h'=>dd=Qb (Sort.medianAdjacent Qt d a s).1/\h'=h.set sp (Mq (Sort.medianAdjacent Qt d a s).2)):=by
 have e1:IntKind.i64.wrap ((a:Int) - 1)=((a - 1:Nat):Int):=by rw[wrap64 (by omega) (by omega)];omega
 have e2:IntKind.i64.wrap ((a:Int)+1)=((a+1:Nat):Int):=by rw[wrap64 (by omega) (by omega)];omega
 unfold Sort.medianAdjacent;refine QU Qh 200 func289 rfl ntmps289 results289 rfl λbase w pl hb=>?_;have Qe:=Qc ho;have km:=Qc zD;simp only[go_sem,Qa,ho,Qe,zD,km,e1,e2];refine Jl hb gl (lT ho s zD QB (a - 1) a (a+1) (by omega) (by omega) (by omega) hs) λd h hR=>?_;obtain⟨rfl,rfl⟩:=hR;exact xY hb
end
def lV{d:Array Int}(a b c s:Nat)(ha:a<d.size)(hb:b<d.size)(hc:c<d.size):(Sort.median Qt d a b c s).1<d.size/\(Sort.median Qt d a b c s).2<=s+3:=by
 unfold Sort.median Sort.order2;dsimp only
 repeat' split
 all_goals simp_all
def Dw:Sort.Hint->Nat
 | .unknown=>0
 | .increasing=>1
 | .decreasing=>2
def lW(r:Nat × Nat):Nat × Sort.Hint:=(r.1,if r.2=0 then .increasing else if r.2=12 then .decreasing else .unknown)
section
variable (d:Array Int)(a b:Nat)
def JV(k:Nat):Nat:=a+(b - a) / 4*k
def Dx:Nat × Nat:=Sort.medianAdjacent Qt d (JV a b 1) 0
def Dy:Nat × Nat:=Sort.medianAdjacent Qt d (JV a b 2) (Dx d a b).2
def HE:Nat × Nat:=Sort.medianAdjacent Qt d (JV a b 3) (Dy d a b).2
def ch4:Nat × Nat:=Sort.median Qt d (Dx d a b).1 (Dy d a b).1 (HE d a b).1 (HE d a b).2
def ch5:Nat × Nat:=Sort.median Qt d (JV a b 1) (JV a b 2) (JV a b 3) 0
def chP:Nat × Nat:=if b - a >= 8 then (if b - a >= 50 then ch4 d a b else ch5 d a b) else (JV a b 2,0)
theorem QvH:Sort.choosePivot Qt d a b=lW (chP d a b):=rfl
end
section
variable {h:List Ob}{lo g:Nat}{d:Array Int}(ho:h[lo]? = some (Q6 g d))
include ho
theorem QvI(a b)(Vb:a<b)(Zo:b<=d.size)(hz:d.size<1000000000):
  MFn prog 279 h [.ref lo g 0 d.size,Qb a,Qb b] (λdd h'=>dd=.tup [Qb (Sort.choosePivot Qt d a b).1,Qb (Dw (Sort.choosePivot Qt d a b).2)]/\∃t,h'=h++t):=by
 have e0:IntKind.i64.wrap ((b:Int) - a)=((b - a:Nat):Int):=by rw[wrap64 (by omega) (by omega)];omega
 have w0:∀n:Nat,n<1000000000->IntKind.i64.wrap (n:Int)=n:=λn hn=>wrap64 (by omega) (by omega);have e1:IntKind.i64.wrap (((b - a) / 4:Nat)*(1:Int))=(((b - a) / 4*1:Nat):Int):=by rw[wrap64 (by omega) (by omega)];omega
 have e2:IntKind.i64.wrap (((b - a) / 4:Nat)*(2:Int))=(((b - a) / 4*2:Nat):Int):=by rw[wrap64 (by omega) (by omega)];omega
 have e3:IntKind.i64.wrap (((b - a) / 4:Nat)*(3:Int))=(((b - a) / 4*3:Nat):Int):=by rw[wrap64 (by omega) (by omega)];omega
 have f1:IntKind.i64.wrap ((a:Int)+((b - a) / 4*1:Nat))=((JV a b 1:Nat):Int):=by unfold JV;rw[wrap64 (by omega) (by omega)];omega
 have f2:IntKind.i64.wrap ((a:Int)+((b - a) / 4*2:Nat))=((JV a b 2:Nat):Int):=by unfold JV;rw[wrap64 (by omega) (by omega)];omega
 have f3:IntKind.i64.wrap ((a:Int)+((b - a) / 4*3:Nat))=((JV a b 3:Nat):Int):=by unfold JV;rw[wrap64 (by omega) (by omega)];omega
 have f0:IntKind.i64.wrap (((b - a:Nat):Int).tdiv 4)=(((b - a) / 4:Nat):Int):=by rw[show ((b - a:Nat):Int).tdiv 4=(((b - a) / 4:Nat):Int) from rfl,wrap64 (by omega) (by omega)]
 refine QU Qh 200 func279 rfl ntmps279 results279 rfl λbase w pl hb=>?_;have Qe:=Qc ho;simp only[go_sem,Qa,ho,Qe,e0,f0,e1,e2,e3,f1,f2,f3];have g1:∀o:Ob,(h++[o])[lo]? = some (Q6 g d):=λo=>by rw[Jy Qe];exact ho
 have g2:∀o:Ob,(h++[o])[h.length]? = some o:=λo=>by simp
 have g3:∀o o':Ob,(h++[o]).set h.length o'=h++[o']:=λo o'=>by rw[Uq rfl];rfl
 have QB:h.length≠lo:=by omega
 rw[QvH];unfold chP;by_cases c8:b - a >= 8
 ·rw[Qg c8];have d8:decide ((8:Int)<=(b - a:Nat))=true:=Q7 (by omega);by_cases PE:b - a >= 50
  ·rw[Qg PE];have d50:decide ((50:Int)<=(b - a:Nat))=true:=Q7 (by omega);simp only[go_sem,d8,d50];have q1:(Dx d a b).1<d.size/\(Dx d a b).2<=3:=by unfold Dx;exact lV _ _ _ _ (by unfold JV;omega) (by unfold JV;omega) (by unfold JV;omega)
   have q2:(Dy d a b).1<d.size/\(Dy d a b).2<=(Dx d a b).2+3:=by unfold Dy;exact lV _ _ _ _ (by unfold JV;omega) (by unfold JV;omega) (by unfold JV;omega)
   have q3:(HE d a b).1<d.size/\(HE d a b).2<=(Dy d a b).2+3:=by unfold HE;exact lV _ _ _ _ (by unfold JV;omega) (by unfold JV;omega) (by unfold JV;omega)
   refine KW hb gj rfl ?_ (lU (g1 _) 0 (g2 _) QB (JV a b 1) (by unfold JV;omega) (by unfold JV;omega) (by omega) hz) rfl λd h hR=>?_
   ·simp only[go_sem,g3]
   obtain⟨rfl,rfl⟩:=hR;refine Qf hb ?_;simp only[go_sem,g3];refine KW hb gj rfl ?_ (lU (g1 _) (Dx d a b).2 (g2 _) QB (JV a b 2) (by unfold JV;omega) (by unfold JV;omega) (by omega) hz) rfl λd h hR=>?_
   ·simp only[go_sem,g3]
   obtain⟨rfl,rfl⟩:=hR;refine Qf hb ?_;simp only[go_sem,g3];refine KW hb gj rfl ?_ (lU (g1 _) (Dy d a b).2 (g2 _) QB (JV a b 3) (by unfold JV;omega) (by unfold JV;omega) (by omega) hz) rfl λd h hR=>?_
   ·simp only[go_sem,g3]
   obtain⟨rfl,rfl⟩:=hR;refine Qf hb ?_;simp only[go_sem,g3];refine KW hb gl rfl ?_ (lT (g1 _) (HE d a b).2 (g2 _) QB (Sort.medianAdjacent Qt d (JV a b 1) 0).1 (Sort.medianAdjacent Qt d (JV a b 2) (Dx d a b).2).1 (Sort.medianAdjacent Qt d (JV a b 3) (Dy d a b).2).1 q1.1 q2.1 q3.1 (by omega)) rfl λd h hR=>?_
   ·simp only[go_sem,g3]
   obtain⟨rfl,rfl⟩:=hR;refine Qf hb ?_;simp only[go_sem,g3];generalize hr:Sort.median Qt d (Sort.medianAdjacent Qt d (JV a b 1) 0).1 (Sort.medianAdjacent Qt d (JV a b 2) (Dx d a b).2).1 (Sort.medianAdjacent Qt d (JV a b 3) (Dy d a b).2).1 (HE d a b).2=r;have Mr:ch4 d a b=r:=hr;rw[Mr];simp only[go_sem,g2];unfold lW;by_cases z0:r.2=0
   ·have z1:((r.2:Int)==0)=true:=by rw[z0];rfl
    simp only[go_sem,z1,z0];exact⟨rfl,_,rfl⟩
   ·have z1:((r.2:Int)==0)=false:=beq_eq_false_iff_ne.mpr (by omega);by_cases z12:r.2=12
    ·have z2:((r.2:Int)==12)=true:=by rw[z12];rfl
     simp only[go_sem,z1,z2,z0,z12];exact⟨rfl,_,rfl⟩
    ·have z2:((r.2:Int)==12)=false:=beq_eq_false_iff_ne.mpr (by omega);simp only[go_sem,z1,z2,z0,z12];exact⟨rfl,_,rfl⟩
  ·rw[Qd PE];have d50:decide ((50:Int)<=(b - a:Nat))=false:=QQ (by omega);simp only[go_sem,d8,d50];refine KW hb gl rfl ?_ (lT (g1 _) 0 (g2 _) QB (JV a b 1) (JV a b 2) (JV a b 3) (by unfold JV;omega) (by unfold JV;omega) (by unfold JV;omega) (by omega)) rfl λd h hR=>?_
   ·simp only[go_sem,g3]
   obtain⟨rfl,rfl⟩:=hR;refine Qf hb ?_;simp only[go_sem,g3];generalize hr:Sort.median Qt d (JV a b 1) (JV a b 2) (JV a b 3) 0=r;have Mr:ch5 d a b=r:=hr;rw[Mr];simp only[go_sem,g2];unfold lW;by_cases z0:r.2=0
   ·have z1:((r.2:Int)==0)=true:=by rw[z0];rfl
    simp only[go_sem,z1,z0];exact⟨rfl,_,rfl⟩
   ·have z1:((r.2:Int)==0)=false:=beq_eq_false_iff_ne.mpr (by omega);by_cases z12:r.2=12
    ·have z2:((r.2:Int)==12)=true:=by rw[z12];rfl
     simp only[go_sem,z1,z2,z0,z12];exact⟨rfl,_,rfl⟩
    ·have z2:((r.2:Int)==12)=false:=beq_eq_false_iff_ne.mpr (by omega);simp only[go_sem,z1,z2,z0,z12];exact⟨rfl,_,rfl⟩
 ·rw[Qd c8];have d8:decide ((8:Int)<=(b - a:Nat))=false:=QQ (by omega);simp only[go_sem,d8,g2];exact⟨rfl,_,rfl⟩
end
def jC{h:List Ob}{lo g}{d}(hl:lo<h.length):(h.set lo (Q6 g d))[lo]? = some (Q6 g d):=Qv hl
def swp_size(d:Array Int)(i j:Nat):(Sort.swp d i j).size=d.size:=by simp[Sort.swp]
def zE(c:Bool)(x y:D):List.drop 1 (bif c then [x] else [y])=[]:=by cases c<;>rfl
def zF(g)(d:Array Int)(i j n)(hn:d.size=n)(hi:i<n)(hj:j<n):
  (⟨.arr,g,1,n,λk=>bif k==j then [.raw (.int .u64 d[i]!)] else bif k==i then [.raw (.int .u64 d[j]!)] else [.raw (.int .u64 d[k]!)]⟩:Ob)=Q6 g (Sort.swp d i j):=by
 subst hn;unfold Q6;congr 1
 ·exact(swp_size d i j).symm
 ·funext k;unfold AJ uI Sort.swp;by_cases k1:k=j
  ·subst k1;have e1:(k==k)=true:=ID k;by_cases k2:k=i
   ·subst k2;simp[hi]
   ·simp[hi,hj,k2,Q3 k2]
  ·by_cases k2:k=i
   ·subst k2;have e1:(k==j)=false:=beq_eq_false_iff_ne.mpr k1;simp[hi,hj,k1,Q3 k1,e1]
   ·have e1:(k==j)=false:=beq_eq_false_iff_ne.mpr k1;have e2:(k==i)=false:=beq_eq_false_iff_ne.mpr k2;rw[e1,e2];by_cases k3:k<d.size
    ·simp[k1,k2,k3,Q3 k1,Q3 k2,dh]
    ·simp[k1,k2,k3]
section
variable {h:List Ob}{lo g:Nat}{d:Array Int}(ho:h[lo]? = some (Q6 g d))
include ho
theorem QvJ(a b)(Vb:a<b)(Zo:b<=d.size)(hz:d.size<1000000000):
  MFn prog 280 h [.ref lo g 0 d.size,Qb a,Qb b] (λdd h'=>dd=.tup []/\h'=h.set lo (Q6 g (Sort.reverseRange d a b))):=by
 have e0:IntKind.i64.wrap ((b:Int) - 1)=((b - 1:Nat):Int):=by rw[wrap64 (by omega) (by omega)];omega
 refine QU Qh 200 func280 rfl ntmps280 results280 rfl λbase w pl hb=>?_;have Qe:=Qc ho;simp only[go_sem,Qa,ho,Qe,e0];refine ZZ (λk st=>∃d':Array Int,d'.size=d.size/\Sort.reverseLoop (a+k) (b - 1 - k) d'=Sort.reverseRange d a b/\a+k<=b - k/\st=⟨[(0,.ref lo g 0 d.size),(6,Qb (a+k:Nat)),(7,Qb (b - 1 - k:Nat))],h.set lo (Q6 g d')⟩) d.size (s0:=⟨[(0,.ref lo g 0 d.size),(6,Qb (a+0:Nat)),(7,Qb (b - 1 - 0:Nat))],h.set lo (Q6 g d)⟩) ?_ ⟨d,rfl,rfl,by omega,rfl⟩ ?_
 ·rw[kj ho];exact QI.frame (by simp only[go_sem,Ej])
 rintro k _ hk ⟨d',hs,hd,hi,rfl⟩;have hl:=jC (g:=g) (d:=d') Qe;generalize hH:h.set lo (Q6 g d')=H at hl;have Fi:=Qc hl;by_cases c:a+k<b - 1 - k
 ·have c1:decide (a+k<b - 1 - k)=true:=Q7 c;have c2:a+k<d.size:=by omega
  have c3:b - 1 - k<d.size:=by omega
  refine Qf hb ?_;simp only[go_sem,Qa,hl,Fi,c1];apply QH hb [0,1,2,3,4,5,6,7,8,9,10,11,12,1013,14,1015];simp only[go_sem,Qa,hl,Fi,hs,c2,c3,Qv Fi,Ji,zE];have v1:IntKind.i64.wrap (((a+k:Nat):Int)+1)=((a+(k+1):Nat):Int):=by rw[wrap64 (by omega) (by omega)];omega
  have v2:IntKind.i64.wrap (((b - 1 - k:Nat):Int) - 1)=((b - 1 - (k+1):Nat):Int):=by rw[wrap64 (by omega) (by omega)];omega
  rw[zF g d' _ _ _ hs c2 c3,v1,v2];have Kp:Sort.reverseLoop (a+(k+1)) (b - 1 - (k+1)) (Sort.swp d' (a+k) (b - 1 - k))=Sort.reverseRange d a b:=by
   rw[<- hd]
   conv=>rhs;rw[Sort.reverseLoop,Qg c]
   congr 1
  refine⟨by omega,_,?_,Sort.swp d' (a+k) (b - 1 - k),by rw[swp_size,hs],Kp,by omega,rfl⟩;rw[<- hH,Ji];exact QO
 ·have c1:decide (a+k<b - 1 - k)=false:=QQ c;refine Qf hb ?_;simp only[go_sem,Qa,hl,Fi,c1];rw[Sort.reverseLoop,Qd c]at hd;subst hH;exact congrArg (λx=>h.set lo (Q6 g x)) hd
end
def Qf5(a):∀(j:Nat) (d:Array Int),(Sort.insInner Qt a j d).size=d.size
 | 0,d=>rfl
 | j+1,d=>by rw[Sort.insInner];split;rw[Qf5 a j,swp_size];rfl
section
variable {h:List Ob}{lo g:Nat}{d:Array Int}(ho:h[lo]? = some (Q6 g d))
include ho
theorem QvK(a b)(Vb:a<=b)(Zo:b<=d.size)(hz:d.size<1000000000):
  MFn prog 276 h [.ref lo g 0 d.size,Qb a,Qb b] (λdd h'=>dd=.tup []/\h'=h.set lo (Q6 g (Sort.insertionSort Qt d a b))):=by
 have e0:IntKind.i64.wrap ((a:Int)+1)=((a+1:Nat):Int):=by rw[wrap64 (by omega) (by omega)];omega
 refine QU Qh 200 func276 rfl ntmps276 results276 rfl λbase w pl hb=>?_;have Qe:=Qc ho;simp only[go_sem,Qa,ho,Qe,e0];refine ZZ (λk st=>∃d':Array Int,d'.size=d.size/\Sort.insOuter Qt a b (a+1+k) d'=Sort.insertionSort Qt d a b/\a+1+k<=b+1/\st=⟨[(0,.ref lo g 0 d.size),(1,Qb a),(2,Qb b),(6,Qb (a+1+k:Nat))],h.set lo (Q6 g d')⟩) d.size (s0:=⟨[(0,.ref lo g 0 d.size),(1,Qb a),(2,Qb b),(6,Qb (a+1+0:Nat))],h.set lo (Q6 g d)⟩) ?_ ⟨d,rfl,rfl,by omega,rfl⟩ ?_
 ·rw[kj ho];exact QO
 rintro k _ hk ⟨d',hs,hd,hi,rfl⟩;have hl:=jC (g:=g) (d:=d') Qe;by_cases c:a+1+k<b
 ·have c1:decide (a+1+k<b)=true:=Q7 c;refine Qf hb ?_;simp only[go_sem,Qa,hl,c1];refine ZZ (λm st=>∃(d1:Array Int) (j:Nat),d1.size=d.size/\j+m=a+1+k/\Sort.insInner Qt a j d1=Sort.insInner Qt a (a+1+k) d'/\a<=j/\st=⟨[(0,.ref lo g 0 d.size),(1,Qb a),(2,Qb b),(6,Qb (a+1+k:Nat)),(7,Qb j)],h.set lo (Q6 g d1)⟩) (a+1+k) (s0:=⟨[(0,.ref lo g 0 d.size),(1,Qb a),(2,Qb b),(6,Qb (a+1+k:Nat)),(7,Qb (a+1+k:Nat))],h.set lo (Q6 g d')⟩) QO ⟨d',_,hs,rfl,rfl,Kz (Qi6 a) (Nat.le_add_right _ _),rfl⟩ ?_;rintro m _ hm ⟨d1,j,ZG,hj,xw,haj,rfl⟩;have Zu:=jC (g:=g) (d:=d1) Qe;generalize hH:h.set lo (Q6 g d1)=H at Zu;have Kf:=Qc Zu;by_cases c2:a<j
  ·have c3:decide (a<j)=true:=Q7 c2;have v1:IntKind.i64.wrap ((j:Int) - 1)=((j - 1:Nat):Int):=by rw[wrap64 (by omega) (by omega)];omega
   have p1:j<d.size:=by omega
   have p2:j - 1<d.size:=by omega
   refine Qf hb ?_;simp only[go_sem,Qa,Zu,Kf,c3,v1];apply QH hb [0,1,2,3,4,5,6,7,8,9,10,11,12,1013,14];simp only[go_sem,Qa,Zu,Kf,c3,v1,p1,p2,ZG];refine K9 hb zk (kh d1[j]! d1[j - 1]!) (Qo.flat rfl) λd h hR=>?_;obtain⟨rfl,rfl⟩:=hR;apply V6 hb;have un:Sort.insInner Qt a j d1=if Qt d1[j]! d1[j - 1]! then Sort.insInner Qt a (j - 1) (Sort.swp d1 j (j - 1)) else d1:=by
    obtain⟨j',rfl⟩:∃j',j=j'+1:=⟨j - 1,by omega⟩;rw[Sort.insInner];simp[show j'+1 > a from c2]
   cases aD:Qt d1[j]! d1[j - 1]!
   ·rw[aD,Qd (by decide)]at un;simp only[go_sem,aD];apply Q1 hb;have v2:IntKind.i64.wrap (((a+1+k:Nat):Int)+1)=((a+1+(k+1):Nat):Int):=by rw[wrap64 (by omega) (by omega)];omega
    rw[v2];have Kp:Sort.insOuter Qt a b (a+1+(k+1)) d1=Sort.insertionSort Qt d a b:=by
     rw[<- hd]
     conv=>rhs;rw[Sort.insOuter,Qg c]
     rw[<- xw,un];rfl
    refine⟨by omega,_,?_,d1,ZG,Kp,by omega,rfl⟩;rw[<- hH];exact QO
   ·rw[aD,Qg rfl]at un;simp only[go_sem,aD];refine Dv (⟨[(0,.ref lo g 0 d.size),(1,Qb a),(2,Qb b),(6,Qb (a+1+k:Nat)),(7,Qb j)],h.set lo (Q6 g (Sort.swp d1 j (j - 1)))⟩) Qh hb mixed [(0,true),(1,true),(2,true),(3,true),(5,true),(6,true),(7,true),(8,true),(9,true),(10,true),(11,true),(12,true),(13,true),(14,true)] [4,15,16,17] (by kernel_rfl) (by kernel_rfl) (λs hw=>AI hw rfl ?_) ?_
    rotate_left
    ·simp only[go_sem,Qa,Zu,Kf,c3,v1,p1,p2,ZG,Qv Kf,Ji,zE];rw[zF g d1 _ _ _ ZG p1 p2,<- hH,Ji]
     repeat' refine And.intro ?_ ?_
     all_goals exact QO
    refine Qf hb ?_;simp only[go_sem,v1];refine⟨by omega,_,?_,Sort.swp d1 j (j - 1),j - 1,by rw[swp_size,ZG],by omega,by rw[<- un,xw],by omega,rfl⟩;exact QO
  ·have c3:decide (a<j)=false:=QQ c2;have un:Sort.insInner Qt a j d1=d1:=by
    cases j with
    | zero=>rfl
    | succ j'=>rw[Sort.insInner];simp[show ¬ j'+1 > a from c2]
   refine Qf hb ?_;simp only[go_sem,Qa,Zu,Kf,c3];apply QH hb [0,1,2,3,4,5,6,7,8,9,10,11,12,1013,14];simp only[go_sem,Qa,Zu,Kf,c3,ZG];apply Q1 hb;have v2:IntKind.i64.wrap (((a+1+k:Nat):Int)+1)=((a+1+(k+1):Nat):Int):=by rw[wrap64 (by omega) (by omega)];omega
   rw[v2];have Kp:Sort.insOuter Qt a b (a+1+(k+1)) d1=Sort.insertionSort Qt d a b:=by
    rw[<- hd]
    conv=>rhs;rw[Sort.insOuter,Qg c]
    rw[<- xw,un];rfl
   refine⟨by omega,_,?_,d1,ZG,Kp,by omega,rfl⟩;rw[<- hH];exact QO
 ·have c1:decide (a+1+k<b)=false:=QQ c;rw[Sort.insOuter,Qd c]at hd;refine Qf hb ?_;simp only[go_sem,Qa,hl,c1];exact congrArg (λx=>h.set lo (Q6 g x)) hd
end
def QmI(hi first):∀(n root:Nat) (d:Array Int),hi - root<=n->(Sort.siftDown Qt hi first root d).size=d.size
 | n,root,d,hn=>by
  rw[Sort.siftDown];split
  ·rfl
  ·rename_i h1;split
   ·split
    ·rfl
    ·split
     ·obtain⟨n',rfl⟩:∃n',n=n'+1:=⟨n - 1,by omega⟩;rw[QmI hi first n' _ _ (by omega),swp_size]
     ·rfl
   ·split
    ·rfl
    ·obtain⟨n',rfl⟩:∃n',n=n'+1:=⟨n - 1,by omega⟩;rw[QmI hi first n' _ _ (by omega),swp_size]
section
variable {h:List Ob}{lo g:Nat}{d:Array Int}(ho:h[lo]? = some (Q6 g d))
include ho
theorem Qf6(hi first root)(Zo:first+hi<=d.size)(lY:root<=d.size)(hz:d.size<1000000000):
  MFn prog 288 h [.ref lo g 0 d.size,Qb root,Qb hi,Qb first] (λdd h'=>dd=.tup []/\h'=h.set lo (Q6 g (Sort.siftDown Qt hi first root d))):=by
 refine QU Qh 200 func288 rfl ntmps288 results288 rfl λbase w pl hb=>?_;have Qe:=Qc ho;simp only[go_sem,Qa,ho,Qe];refine ZZ (λm st=>∃(d1:Array Int) (r:Nat),d1.size=d.size/\m<=r/\r<=d.size/\Sort.siftDown Qt hi first r d1=Sort.siftDown Qt hi first root d/\st=⟨[(0,.ref lo g 0 d.size),(2,Qb hi),(3,Qb first),(8,Qb r)],h.set lo (Q6 g d1)⟩) (d.size) (s0:=⟨[(0,.ref lo g 0 d.size),(2,Qb hi),(3,Qb first),(8,Qb root)],h.set lo (Q6 g d)⟩) ?_ ⟨d,root,rfl,JQ _,lY,rfl,rfl⟩ ?_
 ·rw[kj ho];exact QO
 rintro m _ hm ⟨d1,r,ZG,Od,zf,YD,rfl⟩;have Zu:=jC (g:=g) (d:=d1) Qe;generalize hH:h.set lo (Q6 g d1)=H at Zu;have Kf:=Qc Zu;have v1:IntKind.i64.wrap (2*(r:Int))=((2*r:Nat):Int):=by rw[wrap64 (by omega) (by omega)];omega
 have v2:IntKind.i64.wrap (((2*r:Nat):Int)+1)=((2*r+1:Nat):Int):=by rw[wrap64 (by omega) (by omega)];omega
 have v3:IntKind.i64.wrap (((2*r+1:Nat):Int)+1)=((2*r+1+1:Nat):Int):=by rw[wrap64 (by omega) (by omega)];omega
 rw[Sort.siftDown]at YD;by_cases c1:hi<=2*r+1
 ·have e1:decide (hi<=2*r+1)=true:=Q7 c1;rw[dif_pos c1]at YD;refine Qf hb ?_;simp only[go_sem,Qa,Zu,Kf,v1,v2,e1];exact hH.symm.trans (congrArg (λx=>h.set lo (Q6 g x)) YD)
 ·have e1:decide (hi<=2*r+1)=false:=QQ c1;rw[dif_neg c1]at YD;have p0:first+r<d.size:=by omega
  have p1:first+(2*r+1)<d.size:=by omega
  have w0:IntKind.i64.wrap ((first:Int)+r)=((first+r:Nat):Int):=by rw[wrap64 (by omega) (by omega)];omega
  have w1:IntKind.i64.wrap ((first:Int)+(2*r+1:Nat))=((first+(2*r+1):Nat):Int):=by rw[wrap64 (by omega) (by omega)];omega
  have w2:IntKind.i64.wrap ((first:Int)+(2*r+1+1:Nat))=((first+(2*r+1+1):Nat):Int):=by rw[wrap64 (by omega) (by omega)];omega
  have w3:IntKind.i64.wrap (((first+(2*r+1):Nat):Int)+1)=((first+(2*r+1)+1:Nat):Int):=by rw[wrap64 (by omega) (by omega)];omega
  refine Qf hb ?_;simp only[go_sem,Qa,Zu,Kf,v1,v2,e1];first|refine Yv ?_|skip
  refine Am [0,2,3,8,9] [(36,QY (decide (2*r+1+1<hi)&&Qt d1[first+(2*r+1)]! d1[first+(2*r+1)+1]!))] rfl ?_ ?_
  ·by_cases c2:2*r+1+1<hi
   ·have e2:decide (2*r+1+1<hi)=true:=Q7 c2;have p2:first+(2*r+1)+1<d.size:=by omega
    apply QH hb [0,1,2,3,4,5,6,7,8,9,10,11,12,13,14,15,16,17,1018,19];simp only[go_sem,Qa,Zu,Kf,ZG,v3,e2,w1,w3,p1,p2];refine K9 hb zk (kh d1[first+(2*r+1)]! d1[first+(2*r+1)+1]!) (Qo.flat rfl) λd h hR=>?_;obtain⟨rfl,rfl⟩:=hR;apply V6 hb;exact QO
   ·have e2:decide (2*r+1+1<hi)=false:=QQ c2;apply QH hb [0,1,2,3,4,5,6,7,8,9,10,11,12,13,14,15,16,17,1018,19];simp only[go_sem,Qa,Zu,Kf,ZG,v3,e2,w1,w3,p1];exact QO
  ·cases hB:(decide (2*r+1+1<hi)&&Qt d1[first+(2*r+1)]! d1[first+(2*r+1)+1]!)
   ·rw[hB,Qd (by decide)]at YD;refine Qf hb ?_;simp only[go_sem,hB];apply QH hb [0,1,2,3,4,5,6,7,8,9,10,11,1012,13];simp only[go_sem,Qa,Zu,Kf,ZG,w0,w1,p0,p1];refine K9 hb zk (kh d1[first+r]! d1[first+(2*r+1)]!) (Qo.flat rfl) λd h hR=>?_;obtain⟨rfl,rfl⟩:=hR;apply V6 hb;cases hq:Qt d1[first+r]! d1[first+(2*r+1)]!
    ·rw[hq,Gb,Qg rfl]at YD;simp only[go_sem,hq];exact hH.symm.trans (congrArg (λx=>h.set lo (Q6 g x)) YD)
    ·rw[hq,Ca,Qd (by decide)]at YD
     skip
     simp only[go_sem,hq];refine Dv (⟨[(0,.ref lo g 0 d.size),(2,Qb hi),(3,Qb first),(9,Qb (2*r+1:Nat))],h.set lo (Q6 g (Sort.swp d1 (first+r) (first+(2*r+1))))⟩) Qh hb mixed [(0,true),(1,true),(2,true),(3,true),(4,true),(5,true),(6,true),(8,true),(9,true),(10,true),(11,true),(12,true),(13,true),(14,true),(15,true),(16,true),(17,true),(18,true),(19,true),(20,true)] [7,21,22,23] (by kernel_rfl) (by kernel_rfl) (λs hw=>AI hw rfl ?_) ?_
     rotate_left
     ·simp only[go_sem,Qa,Zu,Kf,w0,w1,p0,p1,ZG,Qv Kf,Ji,zE];rw[zF g d1 _ _ _ ZG p0 p1,<- hH,Ji]
      repeat' refine And.intro ?_ ?_
      all_goals exact QO
     apply ZC hb;refine⟨by omega,_,?_,Sort.swp d1 (first+r) (first+(2*r+1)),2*r+1,by rw[swp_size,ZG],by omega,by omega,YD,rfl⟩;exact QO
   ·have yc:2*r+1+1<hi:=by
     rw[ZJ]at hB;exact YV hB.1
    rw[hB,Qg rfl]at YD;have p2:first+(2*r+1+1)<d.size:=by omega
    refine Qf hb ?_;simp only[go_sem,hB,v3];apply QH hb [0,1,2,3,4,5,6,7,8,9,10,11,1012,13];simp only[go_sem,Qa,Zu,Kf,ZG,w0,w2,p0,p2];refine K9 hb zk (kh d1[first+r]! d1[first+(2*r+1+1)]!) (Qo.flat rfl) λd h hR=>?_;obtain⟨rfl,rfl⟩:=hR;apply V6 hb;cases hq:Qt d1[first+r]! d1[first+(2*r+1+1)]!
    ·rw[hq,Gb,Qg rfl]at YD;simp only[go_sem,hq];exact hH.symm.trans (congrArg (λx=>h.set lo (Q6 g x)) YD)
    ·rw[hq,Ca,Qd (by decide)]at YD;rw[dif_pos (show 2*r+2<hi from yc)]at YD;simp only[go_sem,hq];refine Dv (⟨[(0,.ref lo g 0 d.size),(2,Qb hi),(3,Qb first),(9,Qb (2*r+1+1:Nat))],h.set lo (Q6 g (Sort.swp d1 (first+r) (first+(2*r+1+1))))⟩) Qh hb mixed [(0,true),(1,true),(2,true),(3,true),(4,true),(5,true),(6,true),(8,true),(9,true),(10,true),(11,true),(12,true),(13,true),(14,true),(15,true),(16,true),(17,true),(18,true),(19,true),(20,true)] [7,21,22,23] (by kernel_rfl) (by kernel_rfl) (λs hw=>AI hw rfl ?_) ?_
     rotate_left
     ·simp only[go_sem,Qa,Zu,Kf,w0,w2,p0,p2,ZG,Qv Kf,Ji,zE];rw[zF g d1 _ _ _ ZG p0 p2,<- hH,Ji]
      repeat' refine And.intro ?_ ?_
      all_goals exact QO
     apply ZC hb;refine⟨by omega,_,?_,Sort.swp d1 (first+r) (first+(2*r+1+1)),2*r+1+1,by rw[swp_size,ZG],by omega,by omega,YD,rfl⟩;exact QO
end
def aE(hi first root)(d:Array Int):(Sort.siftDown Qt hi first root d).size=d.size:=QmI hi first _ root d (QD _)
def Qf7(hi first):∀(k:Nat) (d:Array Int),(Sort.heapBuild Qt hi first k d).size=d.size
 | 0,d=>rfl
 | k+1,d=>by rw[Sort.heapBuild,Qf7 hi first k,aE]
def Qf8(n:Nat):decide ((0:Int)<=(n:Int))=true:=Q7 (Int.natCast_nonneg n)
section
variable {h:List Ob}{lo g:Nat}{d:Array Int}(ho:h[lo]? = some (Q6 g d))
include ho
theorem QvL(a b)(Vb:a<b)(Zo:b<=d.size)(hz:d.size<1000000000):
  MFn prog 277 h [.ref lo g 0 d.size,Qb a,Qb b] (λdd h'=>dd=.tup []/\h'=h.set lo (Q6 g (Sort.heapSort Qt d a b))):=by
 have e0:IntKind.i64.wrap ((b:Int) - a)=((b - a:Nat):Int):=by rw[wrap64 (by omega) (by omega)];omega
 have e1:IntKind.i64.wrap (((b - a:Nat):Int) - 1)=((b - a - 1:Nat):Int):=by rw[wrap64 (by omega) (by omega)];omega
 have e2:((b - a - 1:Nat):Int).tdiv 2=(((b - a - 1) / 2:Nat):Int):=rfl;have e3:IntKind.i64.wrap ((((b - a - 1) / 2:Nat):Int))=(((b - a - 1) / 2:Nat):Int):=by rw[wrap64 (by omega) (by omega)]
 have z0:((0:Nat):Int)=0:=rfl;refine QU Qh 200 func277 rfl ntmps277 results277 rfl λbase w pl hb=>?_;have Qe:=Qc ho;simp only[go_sem,Qa,ho,Qe,e0,e1,e2,e3];unfold Sort.heapSort;refine ZZ (λm st=>∃(d1:Array Int) (k:Nat),d1.size=d.size/\k+m=(b - a - 1) / 2+1/\Sort.heapBuild Qt (b - a) a k d1=Sort.heapBuild Qt (b - a) a ((b - a - 1) / 2+1) d/\st=⟨[(0,.ref lo g 0 d.size),(6,Qb a),(7,Qb 0),(8,Qb (b - a:Nat)),(9,Qb ((k:Int) - 1))],h.set lo (Q6 g d1)⟩) ((b - a - 1) / 2+1) (s0:=⟨[(0,.ref lo g 0 d.size),(6,Qb a),(7,Qb 0),(8,Qb (b - a:Nat)),(9,Qb ((((b - a - 1) / 2+1:Nat):Int) - 1))],h.set lo (Q6 g d)⟩) ?_ ⟨d,_,rfl,rfl,rfl,rfl⟩ ?_
 ·rw[kj ho,show ((((b - a - 1) / 2+1:Nat):Int) - 1)=(((b - a - 1) / 2:Nat):Int) by omega];exact QO
 rintro m _ hm ⟨d1,k,ZG,hk,YD,rfl⟩;have Zu:=jC (g:=g) (d:=d1) Qe;rcases k with _|k
 ·rw[Sort.heapBuild]at YD;refine Qf hb ?_;simp only[go_sem,Qa,Zu,show ((0:Nat):Int) - 1=-1 from rfl,show decide ((0:Int)<=-1)=false from rfl,e1];refine Qf hb ?_;simp only[go_sem,Qa,e1];rw[<- YD];refine ZZ (λm st=>∃(d2:Array Int) (k:Nat),d2.size=d.size/\k+m=b - a/\Sort.heapPop Qt a k d2=Sort.heapPop Qt a (b - a) d1/\st=⟨[(0,.ref lo g 0 d.size),(6,Qb a),(7,Qb 0),(10,Qb ((k:Int) - 1))],h.set lo (Q6 g d2)⟩) (b - a) (s0:=⟨[(0,.ref lo g 0 d.size),(6,Qb a),(7,Qb 0),(10,Qb (((b - a:Nat):Int) - 1))],h.set lo (Q6 g d1)⟩) ?_ ⟨d1,_,ZG,rfl,rfl,rfl⟩ ?_
  ·rw[show (((b - a:Nat):Int) - 1)=((b - a - 1:Nat):Int) by omega];exact QO
  rintro n _ hn ⟨d2,k,Jk,ZW,Kp,rfl⟩;have JA:=jC (g:=g) (d:=d2) Qe;generalize hH:h.set lo (Q6 g d2)=H at JA;have lZ:=Qc JA;rcases k with _|k
  ·rw[Sort.heapPop]at Kp;refine Qf hb ?_;simp only[go_sem,Qa,JA,show ((0:Nat):Int) - 1=-1 from rfl,show decide ((0:Int)<=-1)=false from rfl];exact hH.symm.trans (congrArg (λx=>h.set lo (Q6 g x)) Kp)
  ·rw[Sort.heapPop]at Kp;have v0:(((k+1:Nat):Int) - 1)=(k:Int):=by omega
   have v1:IntKind.i64.wrap ((a:Int)+k)=((a+k:Nat):Int):=by rw[wrap64 (by omega) (by omega)];omega
   have v2:IntKind.i64.wrap ((k:Int) - 1)=(k:Int) - 1:=wrap64 (by omega) (by omega);have p0:a<d.size:=by omega
   have p1:a+k<d.size:=by omega
   refine Qf hb ?_;simp only[go_sem,Qa,JA,lZ,v0,Qf8];refine Dv (⟨[(0,.ref lo g 0 d.size),(6,Qb a),(7,Qb 0),(10,Qb k)],h.set lo (Q6 g (Sort.swp d2 a (a+k)))⟩) Qh hb mixed [(0,true),(1,true),(2,true),(3,true),(4,true),(6,true),(7,true),(8,true),(9,true),(10,true),(11,true),(12,true),(13,true),(14,true),(15,true),(16,true)] [5,17,18,19] (by kernel_rfl) (by kernel_rfl) (λs hw=>AI hw rfl ?_) ?_
   rotate_left
   ·simp only[go_sem,Qa,JA,lZ,v1,p0,p1,Jk,Qv lZ,Ji,zE];rw[zF g d2 _ _ _ Jk p0 p1,<- hH,Ji]
    repeat' refine And.intro ?_ ?_
    all_goals exact QO
   apply ZC hb;have PF:(Sort.swp d2 a (a+k)).size=d.size:=by rw[swp_size,Jk]
   refine KW hb Qed rfl ?_ (PF▸Qf6 (jC (g:=g) (d:=Sort.swp d2 a (a+k)) Qe) k a 0 (by omega) (by omega) (by omega)) rfl λd h hR=>?_
   ·simp only[go_sem,Ji,v2]
   obtain⟨rfl,rfl⟩:=hR;refine Qf hb ?_;simp only[go_sem,Ji,v2];refine⟨by omega,_,?_,Sort.siftDown Qt k a 0 (Sort.swp d2 a (a+k)),k,by rw[aE,PF],by omega,Kp,rfl⟩;exact QO
 ·rw[Sort.heapBuild]at YD;have v0:(((k+1:Nat):Int) - 1)=(k:Int):=by omega
  have v2:IntKind.i64.wrap ((k:Int) - 1)=(k:Int) - 1:=wrap64 (by omega) (by omega);refine Qf hb ?_;simp only[go_sem,Qa,Zu,v0,Qf8];refine KW hb Qed rfl ?_ (ZG▸Qf6 Zu (b - a) a k (by omega) (by omega) (by omega)) rfl λd h hR=>?_
  ·simp only[go_sem,Ji,v2]
  obtain⟨rfl,rfl⟩:=hR;refine Qf hb ?_;simp only[go_sem,Ji,v2];refine⟨by omega,_,?_,Sort.siftDown Qt (b - a) a k d1,k,by rw[aE,ZG],by omega,YD,rfl⟩;exact QO
end
def l6(p)(d:Array Int)(i j)(hi:0<i):Sort.scanDown p d i j=if i<=j&&p d[j]! then Sort.scanDown p d i (j - 1) else j:=by
 cases j with
 | zero=>
  rw[Sort.scanDown,Qd];simp;omega
 | succ j=>rw[Sort.scanDown];rfl
def aF(p q:Int->Bool)(hq:∀x,q x=!p x)(d:Array Int)(i j:Nat)(ha:0<i)(KA:i<=j+1)(h:¬ Sort.scanUp p d j i > Sort.scanDown q d (Sort.scanUp p d j i) j):
  Sort.scanUp p d j i<Sort.scanDown q d (Sort.scanUp p d j i) j:=by
 obtain⟨u1,u2,u3,u4⟩:=Sort.scanUp_spec p d j _ i rfl;obtain⟨v1,v2,v3,v4⟩:=Sort.scanDown_spec q d (Sort.scanUp p d j i) j;rcases A3 (Sort.scanUp p d j i) (Sort.scanDown q d (Sort.scanUp p d j i) j) with h'|h'
 ·exact h'
 ·have e:Sort.scanUp p d j i=Sort.scanDown q d (Sort.scanUp p d j i) j:=by omega
  have f1:=u4 (by omega);have f2:=v4 (by omega) (by omega);rw[hq,<- e,f1]at f2;cases f2
def Qf9(a):∀(n i j:Nat) (d:Array Int),j+1 - i<=n->(Sort.partEqLoop Qt a i j d).2.size=d.size
 | n,i,j,d,hn=>by
  rw[Sort.partEqLoop_eq];split
  ·rfl
  ·rename_i h;have:=Sort.partEqLoop_guard Qt a i j d h;obtain⟨n',rfl⟩:∃n',n=n'+1:=⟨n - 1,by omega⟩;rw[Qf9 a n' _ _ _ (by omega),swp_size]
def Qga(a):∀(n i j:Nat) (d:Array Int),j+1 - i<=n->(Sort.partLoop Qt a i j d).2.size=d.size
 | n,i,j,d,hn=>by
  rw[Sort.partLoop_eq];split
  ·rfl
  ·rename_i h;have:=Sort.partLoop_guard Qt a i j d h;obtain⟨n',rfl⟩:∃n',n=n'+1:=⟨n - 1,by omega⟩;rw[Qga a n' _ _ _ (by omega),swp_size]
section
variable {h:List Ob}{lo g:Nat}{d:Array Int}(ho:h[lo]? = some (Q6 g d))
include ho
theorem QvM(a b pv)(Vb:a<b)(Zo:b<=d.size)(hp:a<=pv)(fp:pv<b)(hz:d.size<1000000000):
  MFn prog 282 h [.ref lo g 0 d.size,Qb a,Qb b,Qb pv] (λdd h'=>dd=Qb (Sort.partitionEqual Qt d a b pv).1/\h'=h.set lo (Q6 g (Sort.partitionEqual Qt d a b pv).2)):=by
 have e0:IntKind.i64.wrap ((a:Int)+1)=((a+1:Nat):Int):=by rw[wrap64 (by omega) (by omega)];omega
 have e1:IntKind.i64.wrap ((b:Int) - 1)=((b - 1:Nat):Int):=by rw[wrap64 (by omega) (by omega)];omega
 have pa:a<d.size:=by omega
 have pp:pv<d.size:=by omega
 have hsd:d.size=d.size:=rfl;refine QU Qh 200 func282 rfl ntmps282 results282 rfl λbase w pl hb=>?_;have Qe:=Qc ho;simp only[go_sem,Qa,ho,Qe];apply QH hb [0,1,2,3,4,5,6,7,8,9,10,11,12,1013,14,1015];simp only[go_sem,Qa,ho,Qe,pa,pp,Qv Qe,Ji,zE];rw[zF g d _ _ _ rfl pa pp];refine Qf hb ?_;simp only[go_sem,e0,e1];unfold Sort.partitionEqual;refine ZZ (λm st=>∃(d1:Array Int) (i j:Nat),d1.size=d.size/\a<i/\i<=j+1/\j<b/\m+(j+1 - i)<=b/\Sort.partEqLoop Qt a i j d1=Sort.partEqLoop Qt a (a+1) (b - 1) (Sort.swp d a pv)/\st=⟨[(0,.ref lo g 0 d.size),(1,Qb a),(9,Qb i),(10,Qb j)],h.set lo (Q6 g d1)⟩) b (s0:=⟨[(0,.ref lo g 0 d.size),(1,Qb a),(9,Qb (a+1:Nat)),(10,Qb (b - 1:Nat))],h.set lo (Q6 g (Sort.swp d a pv))⟩) QO ⟨_,a+1,b - 1,swp_size d a pv,by omega,by omega,by omega,by omega,rfl,rfl⟩ ?_;rintro m _ hm ⟨d1,i,j,zG,Ms,KA,hjb,UF,Zf,rfl⟩;have YE:=jC (g:=g) (d:=d1) Qe;generalize hH:h.set lo (Q6 g d1)=H at YE;have qi:=Qc YE;rw[Sort.partEqLoop_eq]at Zf;have HC:=aF (λx=>!Qt d1[a]! x) (λx=>Qt d1[a]! x) (λx=>by simp) d1 i j (by omega) KA;obtain⟨u1,u2,u3,u4⟩:=Sort.scanUp_spec (λx=>!Qt d1[a]! x) d1 j _ i rfl;have u5:=u2 KA;generalize Ys:Sort.scanUp (λx=>!Qt d1[a]! x) d1 j i=i2 at *;obtain⟨w1,w2,w3,w4⟩:=Sort.scanDown_spec (λx=>Qt d1[a]! x) d1 i2 j;have w5:=w2 u5;generalize VD:Sort.scanDown (λx=>Qt d1[a]! x) d1 i2 j=j2 at *;apply Q1 hb;refine ZZ (λm st=>∃xa:Nat,xa=i+m/\xa<=j+1/\Sort.scanUp (λx=>!Qt d1[a]! x) d1 j xa=i2/\st=⟨[(0,.ref lo g 0 d.size),(1,Qb a),(9,Qb xa),(10,Qb j)],H⟩) d.size (s0:=⟨[(0,.ref lo g 0 d.size),(1,Qb a),(9,Qb i),(10,Qb j)],H⟩) QO ⟨i,rfl,by omega,Ys,rfl⟩ ?_;rintro ma _ hma ⟨xa,hxa,hya,PG,rfl⟩;have ga:xa<=j->xa<d.size:=by omega
 rw[Sort.scanUp]at PG;refine Qf hb ?_;simp only[go_sem,Qa,YE,qi];first|refine Yv ?_|skip
 refine Am [0,1,9,10] [(43,QY (decide (xa<=j)&&!Qt d1[a]! d1[xa]!))] rfl ?_ ?_
 ·by_cases ca:xa<=j
  ·have ea:decide (xa<=j)=true:=Q7 ca;have g2a:=ga ca;apply QH hb [0,1,2,3,4,5,6,7,8,9,10,11,1012,13,14];simp only[go_sem,Qa,YE,qi,zG,ea,pa,g2a];refine K9 hb zk (kh d1[a]! d1[xa]!) (Qo.flat rfl) λd h hR=>?_;obtain⟨rfl,rfl⟩:=hR;apply V6 hb;exact QO
  ·have ea:decide (xa<=j)=false:=QQ ca;apply QH hb [0,1,2,3,4,5,6,7,8,9,10,11,1012,13,14];simp only[go_sem,Qa,YE,qi,zG,ea,pa];exact QO
 cases hB:(decide (xa<=j)&&!Qt d1[a]! d1[xa]!)
 ·rw[hB,Qd (by decide)]at PG;refine Qf hb ?_;simp only[go_sem,Qa,hB];subst PG;apply Q1 hb;refine ZZ (λm st=>∃xb:Nat,xb+m=j/\xa<=xb+1/\Sort.scanDown (λx=>Qt d1[a]! x) d1 xa xb=j2/\st=⟨[(0,.ref lo g 0 d.size),(1,Qb a),(9,Qb xa),(10,Qb xb)],H⟩) d.size (s0:=⟨[(0,.ref lo g 0 d.size),(1,Qb a),(9,Qb xa),(10,Qb j)],H⟩) QO ⟨j,rfl,by omega,VD,rfl⟩ ?_;rintro mb _ BK ⟨xb,Bh,hyb,PH,rfl⟩;have gb:xa<=xb->xb<d.size:=by omega
  rw[l6 _ _ _ _ (by omega)]at PH;refine Qf hb ?_;simp only[go_sem,Qa,YE,qi];first|refine Yv ?_|skip
  refine Am [0,1,9,10] [(59,QY (decide (xa<=xb)&&Qt d1[a]! d1[xb]!))] rfl ?_ ?_
  ·by_cases cb:xa<=xb
   ·have eb:decide (xa<=xb)=true:=Q7 cb;have g2b:=gb cb;apply QH hb [0,1,2,3,4,5,6,7,8,9,10,11,1012,13];simp only[go_sem,Qa,YE,qi,zG,eb,pa,g2b];refine K9 hb zk (kh d1[a]! d1[xb]!) (Qo.flat rfl) λd h hR=>?_;obtain⟨rfl,rfl⟩:=hR;apply V6 hb;exact QO
   ·have eb:decide (xa<=xb)=false:=QQ cb;apply QH hb [0,1,2,3,4,5,6,7,8,9,10,11,1012,13];simp only[go_sem,Qa,YE,qi,zG,eb,pa];exact QO
  cases hB:(decide (xa<=xb)&&Qt d1[a]! d1[xb]!)
  ·rw[hB,Qd (by decide)]at PH;refine Qf hb ?_;simp only[go_sem,Qa,hB];have BL:IntKind.i64.wrap ((xa:Int)+1)=((xa+1:Nat):Int):=by rw[wrap64 (by omega) (by omega)];omega
   subst PH;by_cases cg:xb<xa
   ·have eg:decide (xb<xa)=true:=Q7 cg;rw[Qg cg]at Zf;refine Qf hb ?_;simp only[go_sem,Qa,eg];apply Q1 hb;rw[<- Zf,<- hH];first|exact⟨rfl,rfl⟩|rfl
   ·have eg:decide (xb<xa)=false:=QQ cg;have clt:=HC cg;have px:xa<d.size:=by omega
    have py:xb<d.size:=by omega
    have PI:IntKind.i64.wrap ((xb:Int) - 1)=((xb - 1:Nat):Int):=by rw[wrap64 (by omega) (by omega)];omega
    rw[Qd cg]at Zf;refine Qf hb ?_;simp only[go_sem,Qa,eg];apply QH hb [0,1,2,3,4,5,6,7,8,9,10,11,12,1013,14,1015];simp only[go_sem,Qa,YE,qi,zG,px,py,Qv qi,Ji,zE,BL,PI];rw[zF g d1 _ _ _ zG px py];refine⟨by omega,_,?_,Sort.swp d1 xa xb,xa+1,xb - 1,by rw[swp_size,zG],by omega,by omega,by omega,by omega,Zf,rfl⟩;rw[<- hH,Ji];exact QO
  ·rw[hB,Qg rfl]at PH;have lqb:xa<=xb:=by
    rw[ZJ]at hB;exact YV hB.1
   have vb:IntKind.i64.wrap ((xb:Int) - 1)=((xb - 1:Nat):Int):=by rw[wrap64 (by omega) (by omega)];omega
   refine Qf hb ?_;simp only[go_sem,Qa,hB,vb];refine⟨by omega,_,?_,xb - 1,by omega,by omega,PH,rfl⟩;exact QO
 ·rw[hB,Qg rfl]at PG;have lqa:xa<=j:=by
   rw[ZJ]at hB;exact YV hB.1
  have va:IntKind.i64.wrap ((xa:Int)+1)=((xa+1:Nat):Int):=by rw[wrap64 (by omega) (by omega)];omega
  refine Qf hb ?_;simp only[go_sem,Qa,hB,va];refine⟨by omega,_,?_,xa+1,by omega,by omega,PG,rfl⟩;exact QO
omit ho in
theorem QvR(d)(a b pv):Sort.partition Qt d a b pv =
  if Sort.scanUp (λx=>Qt x (Sort.swp d a pv)[a]!) (Sort.swp d a pv) (b - 1) (a+1) > Sort.scanDown (λx=>!Qt x (Sort.swp d a pv)[a]!) (Sort.swp d a pv) (Sort.scanUp (λx=>Qt x (Sort.swp d a pv)[a]!) (Sort.swp d a pv) (b - 1) (a+1)) (b - 1) then
   (Sort.scanDown (λx=>!Qt x (Sort.swp d a pv)[a]!) (Sort.swp d a pv) (Sort.scanUp (λx=>Qt x (Sort.swp d a pv)[a]!) (Sort.swp d a pv) (b - 1) (a+1)) (b - 1),true,Sort.swp (Sort.swp d a pv) (Sort.scanDown (λx=>!Qt x (Sort.swp d a pv)[a]!) (Sort.swp d a pv) (Sort.scanUp (λx=>Qt x (Sort.swp d a pv)[a]!) (Sort.swp d a pv) (b - 1) (a+1)) (b - 1)) a)
  else ((Sort.partLoop Qt a (Sort.scanUp (λx=>Qt x (Sort.swp d a pv)[a]!) (Sort.swp d a pv) (b - 1) (a+1)+1) (Sort.scanDown (λx=>!Qt x (Sort.swp d a pv)[a]!) (Sort.swp d a pv) (Sort.scanUp (λx=>Qt x (Sort.swp d a pv)[a]!) (Sort.swp d a pv) (b - 1) (a+1)) (b - 1) - 1) (Sort.swp (Sort.swp d a pv) (Sort.scanUp (λx=>Qt x (Sort.swp d a pv)[a]!) (Sort.swp d a pv) (b - 1) (a+1)) (Sort.scanDown (λx=>!Qt x (Sort.swp d a pv)[a]!) (Sort.swp d a pv) (Sort.scanUp (λx=>Qt x (Sort.swp d a pv)[a]!) (Sort.swp d a pv) (b - 1) (a+1)) (b - 1)))).1,false,
   Sort.swp (Sort.partLoop Qt a (Sort.scanUp (λx=>Qt x (Sort.swp d a pv)[a]!) (Sort.swp d a pv) (b - 1) (a+1)+1) (Sort.scanDown (λx=>!Qt x (Sort.swp d a pv)[a]!) (Sort.swp d a pv) (Sort.scanUp (λx=>Qt x (Sort.swp d a pv)[a]!) (Sort.swp d a pv) (b - 1) (a+1)) (b - 1) - 1) (Sort.swp (Sort.swp d a pv) (Sort.scanUp (λx=>Qt x (Sort.swp d a pv)[a]!) (Sort.swp d a pv) (b - 1) (a+1)) (Sort.scanDown (λx=>!Qt x (Sort.swp d a pv)[a]!) (Sort.swp d a pv) (Sort.scanUp (λx=>Qt x (Sort.swp d a pv)[a]!) (Sort.swp d a pv) (b - 1) (a+1)) (b - 1)))).2
    (Sort.partLoop Qt a (Sort.scanUp (λx=>Qt x (Sort.swp d a pv)[a]!) (Sort.swp d a pv) (b - 1) (a+1)+1) (Sort.scanDown (λx=>!Qt x (Sort.swp d a pv)[a]!) (Sort.swp d a pv) (Sort.scanUp (λx=>Qt x (Sort.swp d a pv)[a]!) (Sort.swp d a pv) (b - 1) (a+1)) (b - 1) - 1) (Sort.swp (Sort.swp d a pv) (Sort.scanUp (λx=>Qt x (Sort.swp d a pv)[a]!) (Sort.swp d a pv) (b - 1) (a+1)) (Sort.scanDown (λx=>!Qt x (Sort.swp d a pv)[a]!) (Sort.swp d a pv) (Sort.scanUp (λx=>Qt x (Sort.swp d a pv)[a]!) (Sort.swp d a pv) (b - 1) (a+1)) (b - 1)))).1 a):=rfl
theorem QvS(a b pv)(Vb:a+1<b)(Zo:b<=d.size)(hp:a<=pv)(fp:pv<b)(hz:d.size<1000000000):
  MFn prog 283 h [.ref lo g 0 d.size,Qb a,Qb b,Qb pv] (λdd h'=>dd=.tup [Qb (Sort.partition Qt d a b pv).1,QY (Sort.partition Qt d a b pv).2.1]/\h'=h.set lo (Q6 g (Sort.partition Qt d a b pv).2.2)):=by
 have e0:IntKind.i64.wrap ((a:Int)+1)=((a+1:Nat):Int):=by rw[wrap64 (by omega) (by omega)];omega
 have e1:IntKind.i64.wrap ((b:Int) - 1)=((b - 1:Nat):Int):=by rw[wrap64 (by omega) (by omega)];omega
 have pa:a<d.size:=by omega
 have pp:pv<d.size:=by omega
 refine QU Qh 200 func283 rfl ntmps283 results283 rfl λbase w pl hb=>?_;have Qe:=Qc ho;simp only[go_sem,Qa,ho,Qe];apply QH hb [0,1,2,3,4,5,6,7,8,9,10,11,12,1013,14,1015];simp only[go_sem,Qa,ho,Qe,pa,pp,Qv Qe,Ji,zE];rw[zF g d _ _ _ rfl pa pp,QvR];refine Qf hb ?_;simp only[go_sem,e0,e1];generalize hdk:Sort.swp d a pv=dk at *;have Dz:dk.size=d.size:=by rw[<- hdk,swp_size]
 have BM:=jC (g:=g) (d:=dk) Qe;generalize l7:h.set lo (Q6 g dk)=Hk at BM;have BN:=Qc BM;have QvU:=aF (λx=>Qt x dk[a]!) (λx=>!Qt x dk[a]!) (λx=>rfl) dk (a+1) (b - 1) (by omega) (by omega);obtain⟨t1,t2,t3,t4⟩:=Sort.scanUp_spec (λx=>Qt x dk[a]!) dk (b - 1) _ (a+1) rfl;have t5:=t2 (by omega);generalize Ys:Sort.scanUp (λx=>Qt x dk[a]!) dk (b - 1) (a+1)=i2 at *;obtain⟨s1,s2,s3,s4⟩:=Sort.scanDown_spec (λx=>!Qt x dk[a]!) dk i2 (b - 1);have s5:=s2 t5;generalize VD:Sort.scanDown (λx=>!Qt x dk[a]!) dk i2 (b - 1)=j2 at *;generalize hI0:a+1=I0 at *;generalize hJ0:b - 1=J0 at *;rw[show h.set lo (⟨.arr,g,1,dk.size,AJ dk⟩:Ob)=Hk from l7];refine ZZ (λm st=>∃xe:Nat,xe=I0+m/\xe<=J0+1/\Sort.scanUp (λx=>Qt x dk[a]!) dk J0 xe=i2/\st=⟨[(0,.ref lo g 0 d.size),(1,Qb a),(10,Qb xe),(11,Qb J0)],Hk⟩) d.size (s0:=⟨[(0,.ref lo g 0 d.size),(1,Qb a),(10,Qb I0),(11,Qb J0)],Hk⟩) QO ⟨I0,rfl,by omega,Ys,rfl⟩ ?_;rintro me _ hme ⟨xe,hxe,VV,PJ,rfl⟩;have ge:xe<=J0->xe<d.size:=by omega
 rw[Sort.scanUp]at PJ;refine Qf hb ?_;simp only[go_sem,Qa,BM,BN];first|refine Yv ?_|skip
 refine Am [0,1,10,11] [(43,QY (decide (xe<=J0)&&Qt dk[xe]! dk[a]!))] rfl ?_ ?_
 ·by_cases ce:xe<=J0
  ·have ee:decide (xe<=J0)=true:=Q7 ce;have g2e:=ge ce;apply QH hb [0,1,2,3,4,5,6,7,8,9,10,11,1012,13];simp only[go_sem,Qa,BM,BN,Dz,ee,pa,g2e];refine K9 hb zk (kh dk[xe]! dk[a]!) (Qo.flat rfl) λd h hR=>?_;obtain⟨rfl,rfl⟩:=hR;apply V6 hb;exact QO
  ·have ee:decide (xe<=J0)=false:=QQ ce;apply QH hb [0,1,2,3,4,5,6,7,8,9,10,11,1012,13];simp only[go_sem,Qa,BM,BN,Dz,ee,pa];exact QO
 cases hB:(decide (xe<=J0)&&Qt dk[xe]! dk[a]!)
 ·rw[hB,Qd (by decide)]at PJ;refine Qf hb ?_;simp only[go_sem,Qa,hB];subst PJ;apply Q1 hb;refine ZZ (λm st=>∃xf:Nat,xf+m=J0/\xe<=xf+1/\Sort.scanDown (λx=>!Qt x dk[a]!) dk xe xf=j2/\st=⟨[(0,.ref lo g 0 d.size),(1,Qb a),(10,Qb xe),(11,Qb xf)],Hk⟩) d.size (s0:=⟨[(0,.ref lo g 0 d.size),(1,Qb a),(10,Qb xe),(11,Qb J0)],Hk⟩) QO ⟨J0,rfl,by omega,VD,rfl⟩ ?_;rintro mf _ hmf ⟨xf,hxf,hyf,PK,rfl⟩;have gf:xe<=xf->xf<d.size:=by omega
  rw[l6 _ _ _ _ (by omega)]at PK;refine Qf hb ?_;simp only[go_sem,Qa,BM,BN];first|refine Yv ?_|skip
  refine Am [0,1,10,11] [(60,QY (decide (xe<=xf)&&!Qt dk[xf]! dk[a]!))] rfl ?_ ?_
  ·by_cases cf:xe<=xf
   ·have ef:decide (xe<=xf)=true:=Q7 cf;have g2f:=gf cf;apply QH hb [0,1,2,3,4,5,6,7,8,9,10,11,1012,13,14];simp only[go_sem,Qa,BM,BN,Dz,ef,pa,g2f];refine K9 hb zk (kh dk[xf]! dk[a]!) (Qo.flat rfl) λd h hR=>?_;obtain⟨rfl,rfl⟩:=hR;apply V6 hb;exact QO
   ·have ef:decide (xe<=xf)=false:=QQ cf;apply QH hb [0,1,2,3,4,5,6,7,8,9,10,11,1012,13,14];simp only[go_sem,Qa,BM,BN,Dz,ef,pa];exact QO
  cases hB:(decide (xe<=xf)&&!Qt dk[xf]! dk[a]!)
  ·rw[hB,Qd (by decide)]at PK;refine Qf hb ?_;simp only[go_sem,Qa,hB];subst PK;have vz1:IntKind.i64.wrap ((xe:Int)+1)=((xe+1:Nat):Int):=by rw[wrap64 (by omega) (by omega)];omega
   by_cases cg:xf<xe
   ·have eg:decide (xf<xe)=true:=Q7 cg;rw[Qg cg];refine Qf hb ?_;simp only[go_sem,Qa,eg];have py:xf<d.size:=by omega
    apply QH hb [0,1,2,3,4,5,6,7,8,9,10,11,12,1013,14,1015];simp only[go_sem,Qa,BM,BN,Dz,py,pa,Qv BN,Ji,zE];rw[zF g dk _ _ _ Dz py pa];rw[<- l7,Ji];first|exact⟨rfl,rfl⟩|rfl
   ·have eg:decide (xf<xe)=false:=QQ cg;have clt:=QvU cg;have px:xe<d.size:=by omega
    have py:xf<d.size:=by omega
    have vz2:IntKind.i64.wrap ((xf:Int) - 1)=((xf - 1:Nat):Int):=by rw[wrap64 (by omega) (by omega)];omega
    rw[Qd cg];refine Qf hb ?_;simp only[go_sem,Qa,eg];apply QH hb [0,1,2,3,4,5,6,7,8,9,10,11,12,1013,14,1015];simp only[go_sem,Qa,BM,BN,Dz,px,py,Qv BN,Ji,zE,vz1,vz2];rw[zF g dk _ _ _ Dz px py,<- l7,Ji];refine ZZ (λm st=>∃(d1:Array Int) (i j:Nat),d1.size=d.size/\a<i/\i<=j+1/\j<b/\m+(j+1 - i)<=b/\Sort.partLoop Qt a i j d1=Sort.partLoop Qt a (xe+1) (xf - 1) (Sort.swp dk xe xf)/\st=⟨[(0,.ref lo g 0 d.size),(1,Qb a),(10,Qb i),(11,Qb j)],h.set lo (Q6 g d1)⟩) b (s0:=⟨[(0,.ref lo g 0 d.size),(1,Qb a),(10,Qb (xe+1:Nat)),(11,Qb (xf - 1:Nat))],h.set lo (Q6 g (Sort.swp dk xe xf))⟩) QO ⟨_,xe+1,xf - 1,by rw[swp_size,Dz],by omega,by omega,by omega,by omega,rfl,rfl⟩ ?_;rintro m _ hm ⟨d1,i,j,zG,Ms,KA,hjb,UF,Zf,rfl⟩;have YE:=jC (g:=g) (d:=d1) Qe;generalize hH:h.set lo (Q6 g d1)=H at YE;have qi:=Qc YE;rw[Sort.partLoop_eq]at Zf;have HC:=aF (λx=>Qt x d1[a]!) (λx=>!Qt x d1[a]!) (λx=>rfl) d1 i j (by omega) KA;obtain⟨u1,u2,u3,u4⟩:=Sort.scanUp_spec (λx=>Qt x d1[a]!) d1 j _ i rfl;have u5:=u2 KA;generalize Ys:Sort.scanUp (λx=>Qt x d1[a]!) d1 j i=i2 at *;obtain⟨w1,w2,w3,w4⟩:=Sort.scanDown_spec (λx=>!Qt x d1[a]!) d1 i2 j;have w5:=w2 u5;generalize VD:Sort.scanDown (λx=>!Qt x d1[a]!) d1 i2 j=j2 at *;apply Q1 hb;refine ZZ (λm st=>∃xc:Nat,xc=i+m/\xc<=j+1/\Sort.scanUp (λx=>Qt x d1[a]!) d1 j xc=i2/\st=⟨[(0,.ref lo g 0 d.size),(1,Qb a),(10,Qb xc),(11,Qb j)],H⟩) d.size (s0:=⟨[(0,.ref lo g 0 d.size),(1,Qb a),(10,Qb i),(11,Qb j)],H⟩) QO ⟨i,rfl,by omega,Ys,rfl⟩ ?_;rintro mc _ wJ ⟨xc,UG,hyc,Ct,rfl⟩;have gc:xc<=j->xc<d.size:=by omega
    rw[Sort.scanUp]at Ct;refine Qf hb ?_;simp only[go_sem,Qa,YE,qi];first|refine Yv ?_|skip
    refine Am [0,1,10,11] [(112,QY (decide (xc<=j)&&Qt d1[xc]! d1[a]!))] rfl ?_ ?_
    ·by_cases cc:xc<=j
     ·have ec:decide (xc<=j)=true:=Q7 cc;have g2c:=gc cc;apply QH hb [0,1,2,3,4,5,6,7,8,9,10,11,1012,13];simp only[go_sem,Qa,YE,qi,zG,ec,pa,g2c];refine K9 hb zk (kh d1[xc]! d1[a]!) (Qo.flat rfl) λd h hR=>?_;obtain⟨rfl,rfl⟩:=hR;apply V6 hb;exact QO
     ·have ec:decide (xc<=j)=false:=QQ cc;apply QH hb [0,1,2,3,4,5,6,7,8,9,10,11,1012,13];simp only[go_sem,Qa,YE,qi,zG,ec,pa];exact QO
    cases hB:(decide (xc<=j)&&Qt d1[xc]! d1[a]!)
    ·rw[hB,Qd (by decide)]at Ct;refine Qf hb ?_;simp only[go_sem,Qa,hB];subst Ct;apply Q1 hb;refine ZZ (λm st=>∃xd:Nat,xd+m=j/\xc<=xd+1/\Sort.scanDown (λx=>!Qt x d1[a]!) d1 xc xd=j2/\st=⟨[(0,.ref lo g 0 d.size),(1,Qb a),(10,Qb xc),(11,Qb xd)],H⟩) d.size (s0:=⟨[(0,.ref lo g 0 d.size),(1,Qb a),(10,Qb xc),(11,Qb j)],H⟩) QO ⟨j,rfl,by omega,VD,rfl⟩ ?_;rintro md _ aG ⟨xd,hxd,PL,PM,rfl⟩;have gd:xc<=xd->xd<d.size:=by omega
     rw[l6 _ _ _ _ (by omega)]at PM;refine Qf hb ?_;simp only[go_sem,Qa,YE,qi];first|refine Yv ?_|skip
     refine Am [0,1,10,11] [(129,QY (decide (xc<=xd)&&!Qt d1[xd]! d1[a]!))] rfl ?_ ?_
     ·by_cases cd:xc<=xd
      ·have ed:decide (xc<=xd)=true:=Q7 cd;have g2d:=gd cd;apply QH hb [0,1,2,3,4,5,6,7,8,9,10,11,1012,13,14];simp only[go_sem,Qa,YE,qi,zG,ed,pa,g2d];refine K9 hb zk (kh d1[xd]! d1[a]!) (Qo.flat rfl) λd h hR=>?_;obtain⟨rfl,rfl⟩:=hR;apply V6 hb;exact QO
      ·have ed:decide (xc<=xd)=false:=QQ cd;apply QH hb [0,1,2,3,4,5,6,7,8,9,10,11,1012,13,14];simp only[go_sem,Qa,YE,qi,zG,ed,pa];exact QO
     cases hB:(decide (xc<=xd)&&!Qt d1[xd]! d1[a]!)
     ·rw[hB,Qd (by decide)]at PM;refine Qf hb ?_;simp only[go_sem,Qa,hB];have BL:IntKind.i64.wrap ((xc:Int)+1)=((xc+1:Nat):Int):=by rw[wrap64 (by omega) (by omega)];omega
      subst PM;by_cases cg:xd<xc
      ·have eg:decide (xd<xc)=true:=Q7 cg;rw[Qg cg]at Zf;refine Qf hb ?_;simp only[go_sem,Qa,eg];apply Q1 hb;have py:xd<d.size:=by omega
       apply QH hb [0,1,2,3,4,5,6,7,8,9,10,11,12,1013,14,1015];simp only[go_sem,Qa,YE,qi,zG,py,pa,Qv qi,Ji,zE];rw[zF g d1 _ _ _ zG py pa];rw[<- Zf,<- hH,Ji];first|exact⟨rfl,rfl⟩|rfl
      ·have eg:decide (xd<xc)=false:=QQ cg;have clt:=HC cg;have px:xc<d.size:=by omega
       have py:xd<d.size:=by omega
       have PI:IntKind.i64.wrap ((xd:Int) - 1)=((xd - 1:Nat):Int):=by rw[wrap64 (by omega) (by omega)];omega
       rw[Qd cg]at Zf;refine Qf hb ?_;simp only[go_sem,Qa,eg];apply QH hb [0,1,2,3,4,5,6,7,8,9,10,11,12,1013,14,1015];simp only[go_sem,Qa,YE,qi,zG,px,py,Qv qi,Ji,zE,BL,PI];rw[zF g d1 _ _ _ zG px py];refine⟨by omega,_,?_,Sort.swp d1 xc xd,xc+1,xd - 1,by rw[swp_size,zG],by omega,by omega,by omega,by omega,Zf,rfl⟩;rw[<- hH,Ji];exact QO
     ·rw[hB,Qg rfl]at PM;have lqd:xc<=xd:=by
       rw[ZJ]at hB;exact YV hB.1
      have vd:IntKind.i64.wrap ((xd:Int) - 1)=((xd - 1:Nat):Int):=by rw[wrap64 (by omega) (by omega)];omega
      refine Qf hb ?_;simp only[go_sem,Qa,hB,vd];refine⟨by omega,_,?_,xd - 1,by omega,by omega,PM,rfl⟩;exact QO
    ·rw[hB,Qg rfl]at Ct;have lqc:xc<=j:=by
      rw[ZJ]at hB;exact YV hB.1
     have vc:IntKind.i64.wrap ((xc:Int)+1)=((xc+1:Nat):Int):=by rw[wrap64 (by omega) (by omega)];omega
     refine Qf hb ?_;simp only[go_sem,Qa,hB,vc];refine⟨by omega,_,?_,xc+1,by omega,by omega,Ct,rfl⟩;exact QO
  ·rw[hB,Qg rfl]at PK;have lqf:xe<=xf:=by
    rw[ZJ]at hB;exact YV hB.1
   have vf:IntKind.i64.wrap ((xf:Int) - 1)=((xf - 1:Nat):Int):=by rw[wrap64 (by omega) (by omega)];omega
   refine Qf hb ?_;simp only[go_sem,Qa,hB,vf];refine⟨by omega,_,?_,xf - 1,by omega,by omega,PK,rfl⟩;exact QO
 ·rw[hB,Qg rfl]at PJ;have lqe:xe<=J0:=by
   rw[ZJ]at hB;exact YV hB.1
  have ve:IntKind.i64.wrap ((xe:Int)+1)=((xe+1:Nat):Int):=by rw[wrap64 (by omega) (by omega)];omega
  refine Qf hb ?_;simp only[go_sem,Qa,hB,ve];refine⟨by omega,_,?_,xe+1,by omega,by omega,PJ,rfl⟩;exact QO
end
def l9:∀(j:Nat) (d:Array Int),(Sort.shiftDown Qt j d).size=d.size
 | 0,d=>rfl
 | j+1,d=>by rw[Sort.shiftDown];split;rfl;rw[l9 j,swp_size]
def Qgc(b):∀(n j:Nat) (d:Array Int),b - j<=n->(Sort.shiftUp Qt b j d).size=d.size
 | n,j,d,hn=>by
  rw[Sort.shiftUp];split
  ·split
   ·rfl
   ·obtain⟨n',rfl⟩:∃n',n=n'+1:=⟨n - 1,by omega⟩;rw[Qgc b n' _ _ (by omega),swp_size]
  ·rfl
def Qgd(d)(b):∀(n i:Nat),b - i<=n->i<=b->i<=Sort.scanSorted Qt d b i/\Sort.scanSorted Qt d b i<=b
 | n,i,hn,hi=>by
  rw[Sort.scanSorted];split
  ·rename_i c;simp at c;obtain⟨n',rfl⟩:∃n',n=n'+1:=⟨n - 1,by omega⟩;have:=Qgd d b n' (i+1) (by omega) (by omega);omega
  ·omega
section
variable {h:List Ob}{lo g:Nat}{d:Array Int}(ho:h[lo]? = some (Q6 g d))
include ho
theorem Qv2(a b)(Vb:a<b)(Zo:b<=d.size)(hz:d.size<1000000000):
  MFn prog 281 h [.ref lo g 0 d.size,Qb a,Qb b] (λdd h'=>dd=QY (Sort.partialInsertionSort Qt d a b).2/\h'=h.set lo (Q6 g (Sort.partialInsertionSort Qt d a b).1)):=by
 have e0:IntKind.i64.wrap ((a:Int)+1)=((a+1:Nat):Int):=by rw[wrap64 (by omega) (by omega)];omega
 have eba:IntKind.i64.wrap ((b:Int) - a)=((b - a:Nat):Int):=by rw[wrap64 (by omega) (by omega)];omega
 unfold Sort.partialInsertionSort;refine QU Qh 200 func281 rfl ntmps281 results281 rfl λbase w pl hb=>?_;have Qe:=Qc ho;simp only[go_sem,Qa,ho,Qe,e0];refine ZZ (λm st=>∃(d1:Array Int) (x:Nat),d1.size=d.size/\a+1<=x/\x<=b/\m<=5/\Sort.partialIns Qt a b (5 - m) x d1=Sort.partialIns Qt a b 5 (a+1) d/\st=⟨[(0,.ref lo g 0 d.size),(1,Qb a),(2,Qb b),(7,Qb x),(8,Qb m)],h.set lo (Q6 g d1)⟩) 5 (s0:=⟨[(0,.ref lo g 0 d.size),(1,Qb a),(2,Qb b),(7,Qb (a+1:Nat)),(8,Qb 0)],h.set lo (Q6 g d)⟩) ?_ ⟨d,a+1,rfl,by omega,by omega,by omega,rfl,rfl⟩ ?_
 ·rw[kj ho];exact QO
 rintro m _ hm ⟨d1,i,ZG,Ms,hib,hm5,XK,rfl⟩;have Zu:=jC (g:=g) (d:=d1) Qe;generalize hH:h.set lo (Q6 g d1)=H at Zu;have Kf:=Qc Zu;by_cases cm:m<5
 ·have em:decide ((m:Int)<5)=true:=Q7 (by omega);obtain⟨sq,hsm⟩:∃s,5 - m=s+1:=⟨5 - m - 1,by omega⟩;have mg:4 - m=sq:=by omega
  rw[hsm,Sort.partialIns]at XK;dsimp only at XK;obtain⟨k1,k2⟩:=Qgd d1 b _ i (QD _) hib;generalize hK:Sort.scanSorted Qt d1 b i=K at *;refine Qf hb ?_;simp only[go_sem,Qa,Zu,Kf,em];refine ZZ (λn st=>∃x:Nat,x=i+n/\x<=b/\Sort.scanSorted Qt d1 b x=K/\st=⟨[(0,.ref lo g 0 d.size),(1,Qb a),(2,Qb b),(7,Qb x),(8,Qb m)],H⟩) d.size (s0:=⟨[(0,.ref lo g 0 d.size),(1,Qb a),(2,Qb b),(7,Qb i),(8,Qb m)],H⟩) QO ⟨i,rfl,hib,hK,rfl⟩ ?_;rintro n0 _ wK ⟨x,hx,Bh,PN,rfl⟩;have mh:IntKind.i64.wrap ((x:Int) - 1)=((x - 1:Nat):Int):=by rw[wrap64 (by omega) (by omega)];omega
  have mi:x - 1<d.size:=by omega
  have gx:x<b->x<d.size:=by omega
  rw[Sort.scanSorted]at PN;refine Qf hb ?_;simp only[go_sem,Qa,Zu,Kf];first|refine Yv ?_|skip
  refine Am [0,1,2,7,8] [(32,QY (decide (x<b)&&!Qt d1[x]! d1[x - 1]!))] rfl ?_ ?_
  ·by_cases cx:x<b
   ·have ex:decide (x<b)=true:=Q7 cx;have gx2:=gx cx;apply QH hb [0,1,2,3,4,5,6,7,8,9,10,11,12,1013,14,15];simp only[go_sem,Qa,Zu,Kf,ZG,ex,mh,mi,gx2];refine K9 hb zk (kh d1[x]! d1[x - 1]!) (Qo.flat rfl) λd h hR=>?_;obtain⟨rfl,rfl⟩:=hR;apply V6 hb;exact QO
   ·have ex:decide (x<b)=false:=QQ cx;apply QH hb [0,1,2,3,4,5,6,7,8,9,10,11,12,1013,14,15];simp only[go_sem,Qa,Zu,Kf,ZG,ex];exact QO
  cases hB:(decide (x<b)&&!Qt d1[x]! d1[x - 1]!)
  ·rw[hB,Qd (by decide)]at PN;subst PN;refine Qf hb ?_;simp only[go_sem,Qa,hB];by_cases cb:x=b
   ·have aH:((x:Int)==(b:Int))=true:=by rw[cb];exact ID _
    rw[Qg cb]at XK;refine Qf hb ?_;simp only[go_sem,Qa,aH];rw[<- XK,<- hH];first|exact⟨rfl,rfl⟩|rfl
   ·have aH:((x:Int)==(b:Int))=false:=beq_eq_false_iff_ne.mpr (by omega);rw[Qd cb]at XK;by_cases PE:b - a<50
    ·have mj:decide (((b - a:Nat):Int)<50)=true:=Q7 (by omega);rw[Qg PE]at XK;refine Qf hb ?_;simp only[go_sem,Qa,aH,eba,mj];rw[<- XK,<- hH];first|exact⟨rfl,rfl⟩|rfl
    ·have mj:decide (((b - a:Nat):Int)<50)=false:=QQ (by omega);rw[Qd PE]at XK;have px:x<d.size:=by omega
     refine Qf hb ?_;simp only[go_sem,Qa,aH,eba,mj];refine Dv (⟨[(0,.ref lo g 0 d.size),(1,Qb a),(2,Qb b),(7,Qb x),(8,Qb m)],h.set lo (Q6 g (Sort.swp d1 x (x - 1)))⟩) Qh hb mixed [(0,true),(1,true),(2,true),(3,true),(5,true),(6,true),(7,true),(8,true),(9,true),(10,true),(11,true),(12,true),(13,true),(14,true)] [4,15,16,17] (by kernel_rfl) (by kernel_rfl) (λs hw=>AI hw rfl ?_) ?_
     rotate_left
     ·simp only[go_sem,Qa,Zu,Kf,mh,px,mi,ZG,Qv Kf,Ji,zE];rw[zF g d1 _ _ _ ZG px mi,<- hH,Ji]
      repeat' refine And.intro ?_ ?_
      all_goals exact QO
     generalize Kp:Sort.swp d1 x (x - 1)=d2 at *;have Jk:d2.size=d.size:=by rw[<- Kp,swp_size,ZG]
     have JA:=jC (g:=g) (d:=d2) Qe;have exa:IntKind.i64.wrap ((x:Int) - a)=((x - a:Nat):Int):=by rw[wrap64 (by omega) (by omega)];omega
     have ebx:IntKind.i64.wrap ((b:Int) - x)=((b - x:Nat):Int):=by rw[wrap64 (by omega) (by omega)];omega
     have mm:IntKind.i64.wrap ((x:Int)+1)=((x+1:Nat):Int):=by rw[wrap64 (by omega) (by omega)];omega
     generalize PO:(if x - a >= 2 then Sort.shiftDown Qt (x - 1) d2 else d2)=d3 at *;have PF:d3.size=d.size:=by
      rw[<- PO];split
      ·rw[l9,Jk]
      ·exact Jk
     first|refine Yv ?_|skip
     refine gu (⟨[(0,.ref lo g 0 d.size),(1,Qb a),(2,Qb b),(7,Qb x),(8,Qb m)],h.set lo (Q6 g d3)⟩) ?_ ?_
     ·by_cases cxa:x - a >= 2
      ·have mn:decide ((2:Int)<=((x - a:Nat):Int))=true:=Q7 (by omega);rw[Qg cxa]at PO;refine Qf hb ?_;simp only[go_sem,Qa,exa,mn,mh];rw[<- PO];refine ZZ (λn st=>∃(dd:Array Int) (y:Nat),dd.size=d.size/\y+n=x - 1/\Sort.shiftDown Qt y dd=Sort.shiftDown Qt (x - 1) d2/\st=⟨[(0,.ref lo g 0 d.size),(1,Qb a),(2,Qb b),(7,Qb x),(8,Qb m),(9,Qb y)],h.set lo (Q6 g dd)⟩) d.size (s0:=⟨[(0,.ref lo g 0 d.size),(1,Qb a),(2,Qb b),(7,Qb x),(8,Qb m),(9,Qb (x - 1:Nat))],h.set lo (Q6 g d2)⟩) QO ⟨d2,_,Jk,by omega,rfl,rfl⟩ ?_;rintro n _ hn ⟨dd,y,AK,hy,JO,rfl⟩;have wL:=jC (g:=g) (d:=dd) Qe;generalize AL:h.set lo (Q6 g dd)=Hd at wL;have AM:=Qc wL;by_cases cy:1<=y
       ·have ey:decide ((1:Int)<=(y:Int))=true:=Q7 (by omega);obtain⟨y',rfl⟩:∃y',y=y'+1:=⟨y - 1,by omega⟩;rw[Sort.shiftDown]at JO;have BL:IntKind.i64.wrap (((y'+1:Nat):Int) - 1)=((y':Nat):Int):=by rw[wrap64 (by omega) (by omega)];omega
        have q1:(y'+1)<d.size:=by omega
        have q2:y'<d.size:=by omega
        refine Qf hb ?_;simp only[go_sem,Qa,wL,AM,ey];apply QH hb [0,1,2,3,4,5,6,7,8,1009,10];simp only[go_sem,Qa,wL,AM,AK,BL,q1,q2];refine K9 hb zk (kh dd[y'+1]! dd[y']!) (Qo.flat rfl) λd h hR=>?_;obtain⟨rfl,rfl⟩:=hR;apply V6 hb;cases hl:Qt dd[y'+1]! dd[y']!
        ·rw[hl,Gb,Qg rfl]at JO;simp only[go_sem,hl];try (refine Qf hb ?_;simp only[go_sem,Qa])
         first|rw[<- JO,<- AL]|rw[<- AL]
         exact QO
        ·rw[hl,Ca,Qd (by decide)]at JO;simp only[go_sem,hl];refine Dv (⟨[(0,.ref lo g 0 d.size),(1,Qb a),(2,Qb b),(7,Qb x),(8,Qb m),(9,Qb (y'+1:Nat))],h.set lo (Q6 g (Sort.swp dd (y'+1) y'))⟩) Qh hb mixed [(0,true),(1,true),(2,true),(3,true),(5,true),(6,true),(7,true),(8,true),(9,true),(10,true),(11,true),(12,true),(13,true),(14,true)] [4,15,16,17] (by kernel_rfl) (by kernel_rfl) (λs hw=>AI hw rfl ?_) ?_
         rotate_left
         ·simp only[go_sem,Qa,wL,AM,AK,BL,q1,q2,Qv AM,Ji,zE];rw[zF g dd _ _ _ AK q1 q2,<- AL,Ji]
          repeat' refine And.intro ?_ ?_
          all_goals exact QO
         refine Qf hb ?_;simp only[go_sem,BL];refine⟨by omega,_,?_,Sort.swp dd (y'+1) y',y',by rw[swp_size,AK],by omega,JO,rfl⟩;exact QO
       ·have ey:decide ((1:Int)<=(y:Int))=false:=QQ (by omega);obtain rfl:y=0:=by omega
        rw[Sort.shiftDown]at JO;refine Qf hb ?_;simp only[go_sem,Qa,wL,AM,ey];try (refine Qf hb ?_;simp only[go_sem,Qa])
        first|rw[<- JO,<- AL]|rw[<- AL]
        exact QO
      ·have mn:decide ((2:Int)<=((x - a:Nat):Int))=false:=QQ (by omega);rw[Qd cxa]at PO;refine Qf hb ?_;simp only[go_sem,Qa,exa,mn];rw[<- PO];exact QO
     have mu:IntKind.i64.wrap ((m:Int)+1)=((m+1:Nat):Int):=by rw[wrap64 (by omega) (by omega)];omega
     by_cases cbx:b - x >= 2
     ·have mv:decide ((2:Int)<=((b - x:Nat):Int))=true:=Q7 (by omega);rw[Qg cbx]at XK;refine Qf hb ?_;simp only[go_sem,Qa,ebx,mv,mm];refine ZZ (λn st=>∃(dd:Array Int) (y:Nat),dd.size=d.size/\y=x+1+n/\y<=b/\Sort.shiftUp Qt b y dd=Sort.shiftUp Qt b (x+1) d3/\st=⟨[(0,.ref lo g 0 d.size),(1,Qb a),(2,Qb b),(7,Qb x),(8,Qb m),(10,Qb y)],h.set lo (Q6 g dd)⟩) d.size (s0:=⟨[(0,.ref lo g 0 d.size),(1,Qb a),(2,Qb b),(7,Qb x),(8,Qb m),(10,Qb (x+1:Nat))],h.set lo (Q6 g d3)⟩) QO ⟨d3,_,PF,by omega,by omega,rfl,rfl⟩ ?_;rintro n _ hn ⟨dd,y,AK,hy,hyb,JO,rfl⟩;have wL:=jC (g:=g) (d:=dd) Qe;generalize AL:h.set lo (Q6 g dd)=Hd at wL;have AM:=Qc wL;by_cases cy:y<b
      ·have ey:decide (y<b)=true:=Q7 (by omega);rw[Sort.shiftUp,Qg cy]at JO;have BL:IntKind.i64.wrap ((y:Int) - 1)=((y - 1:Nat):Int):=by rw[wrap64 (by omega) (by omega)];omega
       have PI:IntKind.i64.wrap ((y:Int)+1)=((y+1:Nat):Int):=by rw[wrap64 (by omega) (by omega)];omega
       have q1:y<d.size:=by omega
       have q2:(y - 1)<d.size:=by omega
       refine Qf hb ?_;simp only[go_sem,Qa,wL,AM,ey];apply QH hb [0,1,2,3,4,5,6,7,8,1009,10];simp only[go_sem,Qa,wL,AM,AK,BL,q1,q2];refine K9 hb zk (kh dd[y]! dd[y - 1]!) (Qo.flat rfl) λd h hR=>?_;obtain⟨rfl,rfl⟩:=hR;apply V6 hb;cases hl:Qt dd[y]! dd[y - 1]!
       ·rw[hl,Gb,Qg rfl]at JO;simp only[go_sem,hl];try (refine Qf hb ?_;simp only[go_sem,Qa])
        first|rw[<- JO,<- AL]|rw[<- AL]
        try simp only[mu]
        refine⟨by omega,_,?_,dd,x,AK,by omega,by omega,by omega,by rw[mg,JO];exact XK,rfl⟩;exact QO
       ·rw[hl,Ca,Qd (by decide)]at JO;simp only[go_sem,hl];refine Dv (⟨[(0,.ref lo g 0 d.size),(1,Qb a),(2,Qb b),(7,Qb x),(8,Qb m),(10,Qb (y:Nat))],h.set lo (Q6 g (Sort.swp dd y (y - 1)))⟩) Qh hb mixed [(0,true),(1,true),(2,true),(3,true),(5,true),(6,true),(7,true),(8,true),(9,true),(10,true),(11,true),(12,true),(13,true),(14,true)] [4,15,16,17] (by kernel_rfl) (by kernel_rfl) (λs hw=>AI hw rfl ?_) ?_
        rotate_left
        ·simp only[go_sem,Qa,wL,AM,AK,BL,q1,q2,Qv AM,Ji,zE];rw[zF g dd _ _ _ AK q1 q2,<- AL,Ji]
         repeat' refine And.intro ?_ ?_
         all_goals exact QO
        refine Qf hb ?_;simp only[go_sem,PI];refine⟨by omega,_,?_,Sort.swp dd y (y - 1),y+1,by rw[swp_size,AK],by omega,by omega,JO,rfl⟩;exact QO
      ·have ey:decide (y<b)=false:=QQ (by omega);rw[Sort.shiftUp,Qd cy]at JO;refine Qf hb ?_;simp only[go_sem,Qa,wL,AM,ey];try (refine Qf hb ?_;simp only[go_sem,Qa])
       first|rw[<- JO,<- AL]|rw[<- AL]
       try simp only[mu]
       refine⟨by omega,_,?_,dd,x,AK,by omega,by omega,by omega,by rw[mg,JO];exact XK,rfl⟩;exact QO
     ·have mv:decide ((2:Int)<=((b - x:Nat):Int))=false:=QQ (by omega);rw[Qd cbx]at XK;refine Qf hb ?_;simp only[go_sem,Qa,ebx,mv,mu];refine⟨by omega,_,?_,d3,x,PF,by omega,by omega,by omega,by rw[mg];exact XK,rfl⟩;exact QO
  ·rw[hB,Qg rfl]at PN;have lq:x<b:=by
    rw[ZJ]at hB;exact YV hB.1
   have mm:IntKind.i64.wrap ((x:Int)+1)=((x+1:Nat):Int):=by rw[wrap64 (by omega) (by omega)];omega
   refine Qf hb ?_;simp only[go_sem,Qa,hB,mm];refine⟨by omega,_,?_,x+1,by omega,by omega,PN,rfl⟩;exact QO
 ·have em:decide ((m:Int)<5)=false:=QQ (by omega);obtain rfl:m=5:=by omega
  rw[Cd,Sort.partialIns]at XK;refine Qf hb ?_;simp only[go_sem,Qa,Zu,Kf,em];apply Q1 hb;rw[<- XK,<- hH];first|exact⟨rfl,rfl⟩|rfl
end
def aI(n k)(h:2 ^ k<=n):Sort.bitsLen n=k+Sort.bitsLen (n / 2 ^ k):=by
 have e:∀m,Sort.bitsLen n<=m↔k+Sort.bitsLen (n / 2 ^ k)<=m:=by
  intro m;rw[Sort.bitsLen_le_iff];by_cases c:k<=m
  ·obtain⟨j,rfl⟩:∃j,m=k+j:=⟨m - k,by omega⟩;have h2:=Sort.bitsLen_le_iff (n / 2 ^ k) j;rw[Nat.div_lt_iff_lt_mul (SA k),<- Nat.pow_add,Nat.add_comm j k]at h2;rw[<- h2];omega
  ·have:2 ^ m<=2 ^ k:=Nat.pow_le_pow_right (by decide) (by omega);constructor
   ·intro hh;omega
   ·intro hh;omega
 have a1:=(e (Sort.bitsLen n)).1 (QD _);have a2:=(e (k+Sort.bitsLen (n / 2 ^ k))).2 (QD _);omega
def aJ(t:Array UInt8)(ht:(List.range 256).all (λi=>Nat.beq (t.getD i 0).toNat (Sort.bitsLen i))=true)(hs:t.size=256)(k i n)(hi:i<256)(hk:k<1000)(hn:Sort.bitsLen n=k+Sort.bitsLen i):
  IntKind.u8.wrap (i:Int)<(t.size:Int)/\D.raw (.int .i64 (IntKind.i64.wrap ((k:Int)+IntKind.i64.wrap ((t.getD (IntKind.u8.wrap (i:Int)).toNat 0).toNat:Int))))=D.raw (.int .i64 (Sort.bitsLen n)):=by
 have h1:=jN.1 ht i (NI.2 hi);rw[Vz]at h1;have w:IntKind.u8.wrap (i:Int)=i:=by rw[IntKind.wrap_u8];omega
 rw[w,hs,show ((i:Int)).toNat=i from rfl,h1,hn];have h2:Sort.bitsLen i<=8:=(Sort.bitsLen_le_iff i 8).2 (by omega);refine⟨by omega,?_⟩;have w2:IntKind.i64.wrap (Sort.bitsLen i:Int)=Sort.bitsLen i:=wrap64 (by omega) (by omega);rw[w2,wrap64 (by omega) (by omega)];congr 2
def Qv5(n)(hn:n<4294967296):Zh prog 211 [u64 n] (Qo (Qb (Sort.bitsLen n))):=by
 have e1:decide ((4294967296:Int)<=n)=false:=QQ (by omega);refine Zy 0 Qh 200 func211 rfl ntmps211 results211 rfl λbase w hb=>?_;simp only[go_sem];have s1:((n:Int).fdiv (2 ^ min 16 64))=((n / 65536:Nat):Int):=Hg n 16;have s2:∀m:Nat,((m:Int).fdiv (2 ^ min 8 64))=((m / 256:Nat):Int):=λm=>Hg m 8;have w16:IntKind.i64.wrap 16=16:=rfl;have mw:IntKind.i64.wrap 24=24:=rfl;have w8:IntKind.i64.wrap 8=8:=rfl;by_cases c1:65536<=n
 ·have d1:decide ((65536:Int)<=n)=true:=Q7 (by omega);by_cases c2:256<=n / 65536
  ·have d2:decide ((256:Int)<=(n / 65536:Nat))=true:=Q7 (by omega);simp only[go_sem,e1,d1,s1,d2,s2,w16,mw];exact aJ _ (by kernel_rfl) (by kernel_rfl) 24 (n / 65536 / 256) n (by omega) (by decide) (by rw[aI n 16 (by omega),aI (n / 2 ^ 16) 8 (by omega),show n / 2 ^ 16 / 2 ^ 8=n / 65536 / 256 from rfl];omega)
  ·have d2:decide ((256:Int)<=(n / 65536:Nat))=false:=QQ (by omega);simp only[go_sem,e1,d1,s1,d2,s2,w16,mw];exact aJ _ (by kernel_rfl) (by kernel_rfl) 16 (n / 65536) n (by omega) (by decide) (by rw[aI n 16 (by omega)])
 ·have d1:decide ((65536:Int)<=n)=false:=QQ (by omega);by_cases c2:256<=n
  ·have d2:decide ((256:Int)<=n)=true:=Q7 (by omega);simp only[go_sem,e1,d1,s1,d2,s2,w8,mw];exact aJ _ (by kernel_rfl) (by kernel_rfl) 8 (n / 256) n (by omega) (by decide) (by rw[aI n 8 (by omega)])
  ·have d2:decide ((256:Int)<=n)=false:=QQ (by omega);simp only[go_sem,e1,d1,s1,d2,s2];exact aJ _ (by kernel_rfl) (by kernel_rfl) 0 n n (by omega) (by decide) (by omega)
def SS(n)(hn:n<4294967296):Zh prog 162 [u64 n] (Qo (Qb (Sort.bitsLen n))):=by
 refine Zy 0 Qh 200 func162 rfl ntmps162 results162 rfl λbase w hb=>?_;simp only[go_sem];refine Wj hb Qr7 (Qv5 n hn) (Qo.flat rfl) λd h hR=>?_;obtain⟨rfl,rfl⟩:=hR;exact xY hb
def Qv6(n:Nat)(hn:n<1000000000):Zh prog 249 [Qb n] (Qo (u64 (2 ^ Sort.bitsLen n))):=by
 have w1:IntKind.u64.wrap (n:Int)=(n:Int):=by rw[IntKind.wrap_u64];omega
 have hb:=(Sort.bitsLen_le_iff n 30).2 (by omega);have hp:2 ^ Sort.bitsLen n<=2 ^ 30:=Nat.pow_le_pow_right (by decide) hb;have w2:IntKind.u64.wrap (1*2 ^ min (Sort.bitsLen n) 64)=((2 ^ Sort.bitsLen n:Nat):Int):=by
  rw[Nat.min_eq_left (by omega),Int.one_mul,show (2:Int) ^ Sort.bitsLen n=((2 ^ Sort.bitsLen n:Nat):Int) by push_cast;rfl,IntKind.wrap_u64];generalize 2 ^ Sort.bitsLen n=p at *;omega
 refine Zy 0 Qh 200 func249 rfl ntmps249 results249 rfl λbase w hb=>?_;simp only[go_sem];simp only[go_sem,w1];refine ZA hb QdN rfl ?_ (SS n (by omega)) (Qo.flat rfl) rfl λd h hR=>?_
 ·simp only[go_sem,w2]
 obtain⟨rfl,rfl⟩:=hR;refine Qf hb ?_;simp only[go_sem,w2]
@[go_sem] def FB(n:Nat):Ob:=⟨.one,0,1,1,λ_=>[u64 n]⟩
def Qv7{h:List Ob}{sp}(n)(zD:h[sp]? = some (FB n))(hn:n<18446744073709551616):
  MFn prog 250 h [.ptr sp 0 0 0] (λdd h'=>dd=u64 (Sort.xorNextN n)/\h'=h.set sp (FB (Sort.xorNextN n))):=by
 refine QU Qh 200 func250 rfl ntmps250 results250 rfl λbase w pl hb=>?_;have km:=Qc zD;simp only[go_sem,Qa,zD,km];have x1:∀a:Nat,a<18446744073709551616->bits .xor .u64 (a:Int) (IntKind.u64.wrap ((a:Int)*2 ^ min 13 64))=((a ^^^ (a*8192 % 18446744073709551616):Nat):Int):=λa ha=>by
  rw[show IntKind.u64.wrap ((a:Int)*2 ^ min 13 64)=((a*8192 % 18446744073709551616:Nat):Int) from OZ a 8192];exact u64_xor_nat _ _ ha (XX _ (by decide))
 have x2:∀a:Nat,a<18446744073709551616->bits .xor .u64 (a:Int) ((a:Int).fdiv (2 ^ min 7 64))=((a ^^^ (a / 128):Nat):Int):=λa ha=>by
  rw[show (a:Int).fdiv (2 ^ min 7 64)=((a / 128:Nat):Int) from Hg a 7];exact u64_xor_nat _ _ ha (by omega)
 have x3:∀a:Nat,a<18446744073709551616->bits .xor .u64 (a:Int) (IntKind.u64.wrap ((a:Int)*2 ^ min 17 64))=((a ^^^ (a*131072 % 18446744073709551616):Nat):Int):=λa ha=>by
  rw[show IntKind.u64.wrap ((a:Int)*2 ^ min 17 64)=((a*131072 % 18446744073709551616:Nat):Int) from OZ a 131072];exact u64_xor_nat _ _ ha (XX _ (by decide))
 have ha:n ^^^ (n*8192 % 18446744073709551616)<18446744073709551616:=NM (n:=64) (by omega) (by omega);have Kl:(n ^^^ (n*8192 % 18446744073709551616)) ^^^ ((n ^^^ (n*8192 % 18446744073709551616)) / 128)<18446744073709551616:=NM (n:=64) ha (by omega);unfold Sort.xorNextN;dsimp only;apply QH hb [0,1,2,3,4,5,6,7,8,1009];simp only[go_sem,Qa,zD,km,x1 n hn];generalize n ^^^ (n*8192 % 18446744073709551616)=n1 at *;apply QH hb [0,1,2,3,4,5,6,7,8,1009];simp only[go_sem,Qa,Qv km,Ji,km,x2 n1 ha];generalize n1 ^^^ (n1 / 128)=n2 at *;apply QH hb [0,1,2,3,4,5,6,7,8,1009];simp only[go_sem,Qa,Qv km,Ji,km,x3 n2 Kl];try exact⟨rfl,rfl⟩
def yd(a L M idx:Nat)(s0:UInt64 × Array Int):Nat->UInt64 × Array Int
 | 0=>s0
 | k+1=>Sort.breakStep a L M (yd a L M idx s0 k) (idx+k)
def mz(a L M idx)(s0:UInt64 × Array Int):∀k,(yd a L M idx s0 k).2.size=s0.2.size
 | 0=>rfl
 | k+1=>by
  rw[yd,Sort.breakStep];dsimp only;rw[swp_size,mz a L M idx s0 k]
def Qgm(d)(a b)(h:b - a >= 8):Sort.breakPatterns d a b=(yd a (b - a) (1 <<< Sort.bitsLen (b - a)) (a+(b - a) / 4*2 - 1) (UInt64.ofNat (b - a),d) 3).2:=by
 unfold Sort.breakPatterns;dsimp only;rw[Qg h];rfl
section
variable {h:List Ob}{lo g:Nat}{d:Array Int}(ho:h[lo]? = some (Q6 g d))
include ho
theorem Qv8(a b)(Vb:a<b)(Zo:b<=d.size)(hz:d.size<1000000000):
  MFn prog 278 h [.ref lo g 0 d.size,Qb a,Qb b] (λdd h'=>dd=.tup []/\∃t,h'=h.set lo (Q6 g (Sort.breakPatterns d a b))++t):=by
 have e0:IntKind.i64.wrap ((b:Int) - a)=((b - a:Nat):Int):=by rw[wrap64 (by omega) (by omega)];omega
 by_cases c8:b - a >= 8
 ·rw[Qgm d a b c8];have d8:decide ((8:Int)<=(b - a:Nat))=true:=Q7 (by omega);generalize hL:b - a=L at *;have hM1:=Sort.two_pow_bitsLen_le (n:=L) (by omega);have hM0:=SA (Sort.bitsLen L);rw[show 1 <<< Sort.bitsLen L=2 ^ Sort.bitsLen L by rw[Nat.shiftLeft_eq,Qam]];have f0:((L:Int)).tdiv 4=((L / 4:Nat):Int):=rfl;have f1:IntKind.i64.wrap (((L / 4:Nat):Int))=((L / 4:Nat):Int):=by rw[wrap64 (by omega) (by omega)]
  have f2:IntKind.i64.wrap (((L / 4:Nat):Int)*2)=((L / 4*2:Nat):Int):=by rw[wrap64 (by omega) (by omega)];omega
  have f3:IntKind.i64.wrap ((a:Int)+(L / 4*2:Nat))=((a+L / 4*2:Nat):Int):=by rw[wrap64 (by omega) (by omega)];omega
  have f4:IntKind.i64.wrap (((a+L / 4*2:Nat):Int) - 1)=((a+L / 4*2 - 1:Nat):Int):=by rw[wrap64 (by omega) (by omega)];omega
  have f5:IntKind.i64.wrap (((a+L / 4*2:Nat):Int)+1)=((a+L / 4*2+1:Nat):Int):=by rw[wrap64 (by omega) (by omega)];omega
  have f6:IntKind.u64.wrap (L:Int)=(L:Int):=by rw[IntKind.wrap_u64];omega
  refine QU Qh 200 func278 rfl ntmps278 results278 rfl λbase w pl hb=>?_;have Qe:=Qc ho;simp only[go_sem,Qa,ho,Qe,e0,d8,f6];refine ZA hb Qsn rfl ?_ (Qv6 L (by omega)) (Qo.flat rfl) rfl λd h hR=>?_
  ·simp only[go_sem,f0,f1,f2,f3,f4]
  obtain⟨rfl,rfl⟩:=hR;refine Qf hb ?_;simp only[go_sem,f0,f1,f2,f3,f4];generalize hM:2 ^ Sort.bitsLen L=M at *;generalize hS:(UInt64.ofNat L,d)=s0;have XP:s0.2.size=d.size:=by rw[<- hS]
  have Mt:s0.1.toNat=L:=by rw[<- hS];simp;omega
  have Ho:s0.2=d:=by rw[<- hS]
  refine ZZ (λm st=>m<=3/\st=⟨[(0,.ref lo g 0 d.size),(1,Qb a),(6,Qb L),(7,.ptr h.length 0 0 0),(8,u64 M),(9,Qb (a+L / 4*2 - 1+m:Nat))],h.set lo (Q6 g (yd a L M (a+L / 4*2 - 1) s0 m).2)++[FB (yd a L M (a+L / 4*2 - 1) s0 m).1.toNat]⟩) 3 (s0:=⟨[(0,.ref lo g 0 d.size),(1,Qb a),(6,Qb L),(7,.ptr h.length 0 0 0),(8,u64 M),(9,Qb (a+L / 4*2 - 1+0:Nat))],h.set lo (Q6 g (yd a L M (a+L / 4*2 - 1) s0 0).2)++[FB (yd a L M (a+L / 4*2 - 1) s0 0).1.toNat]⟩) ?_ ⟨by omega,rfl⟩ ?_
  ·rw[yd,Ho,Mt,kj ho];exact QO
  rintro m _ hm ⟨CV,rfl⟩;have Je:=mz a L M (a+L / 4*2 - 1) s0 m;rw[XP]at Je;by_cases cm:m<3
  ·have stp:yd a L M (a+L / 4*2 - 1) s0 (m+1)=Sort.breakStep a L M (yd a L M (a+L / 4*2 - 1) s0 m) (a+L / 4*2 - 1+m):=rfl;generalize Jg:yd a L M (a+L / 4*2 - 1) s0 m=sm at *;obtain⟨r,dm⟩:=sm;dsimp only at Je ⊢;have BO:=jC (g:=g) (d:=dm) Qe;have zy:(h.set lo (Q6 g dm)).length=h.length:=Ki;generalize hH:h.set lo (Q6 g dm)=H at *;have BP:=Qc BO;have ZE:lo<h.length:=Qe;rw[<- zy];have g1:(H++[FB r.toNat])[H.length]? = some (FB r.toNat):=by simp
   have hx:=Sort.xorNext_toNat r;have JR:=r.toNat_lt;have q9:=Sort.xorNextN_lt r.toNat JR;have g2:∀o o':Ob,(H++[o]).set H.length o'=H++[o']:=λo o'=>by rw[Uq rfl];rfl
   have c1:decide (a+L / 4*2 - 1+m<=a+L / 4*2+1)=true:=Q7 (by omega);refine Qf hb ?_;simp only[go_sem,Qa,f0,f1,f2,f3,f5,c1];refine KW hb Qso rfl ?_ (Qv7 r.toNat g1 JR) rfl λd h hR=>?_
   ·simp only[go_sem,g2]
   obtain⟨rfl,rfl⟩:=hR;refine Qf hb ?_;simp only[go_sem,g2];have wM:IntKind.u64.wrap ((M:Int) - 1)=((M - 1:Nat):Int):=by rw[IntKind.wrap_u64];omega
   generalize hxx:Sort.xorNextN r.toNat=x at *;have wA:bits .and .u64 (x:Int) ((M - 1:Nat):Int)=((x &&& (M - 1):Nat):Int):=u64_and_nat x (M - 1) q9 (by omega);have yb:x &&& (M - 1)<=M - 1:=Nat.and_le_right;generalize hy:x &&& (M - 1)=y at *;have wI:IntKind.i64.wrap ((y:Nat):Int)=((y:Nat):Int):=by rw[wrap64 (by omega) (by omega)]
   have k0:IntKind.i64.wrap (((y:Nat):Int) - L)=((y - L:Nat):Int)\/¬ L<=y:=by
    by_cases q:L<=y
    ·left;rw[wrap64 (by omega) (by omega)];omega
    ·right;exact q
   have k4:IntKind.i64.wrap (((a+L / 4*2 - 1+m:Nat):Int)+1)=((a+L / 4*2 - 1+(m+1):Nat):Int):=by rw[wrap64 (by omega) (by omega)];omega
   simp only[go_sem,wM,wA,wI];by_cases cL:L<=y
   ·replace k0:=k0.resolve_right (λq=>q cL);have c2:decide (L<=y)=true:=Q7 cL;have Kb:Sort.breakStep a L M (r,dm) (a+L / 4*2 - 1+m)=(Sort.xorNext r,Sort.swp dm (a+L / 4*2 - 1+m) (a+(y - L))):=by
     unfold Sort.breakStep;dsimp only;rw[hx,hy,Qg cL]
    have k1:a+L / 4*2 - 1+m<d.size:=by omega
    have k2:a+(y - L)<d.size:=by omega
    have k3:IntKind.i64.wrap ((a:Int)+((y - L):Nat))=((a+(y - L):Nat):Int):=by rw[wrap64 (by omega) (by omega)];omega
    simp only[go_sem,c2,k0];refine Dv (⟨[(0,.ref lo g 0 d.size),(1,Qb a),(6,Qb L),(7,.ptr H.length 0 0 0),(8,u64 M),(9,Qb (a+L / 4*2 - 1+m:Nat))],H.set lo (Q6 g (Sort.swp dm (a+L / 4*2 - 1+m) (a+(y - L))))++[FB x]⟩) Qh hb mixed [(0,true),(1,true),(2,true),(3,true),(4,true),(6,true),(7,true),(8,true),(9,true),(10,true),(11,true),(12,true),(13,true),(14,true),(15,true),(16,true)] [5,17,18,19] (by kernel_rfl) (by kernel_rfl) (λs hw=>AI hw rfl ?_) ?_
    rotate_left
    ·simp only[go_sem,Qa,BO,BP,Je,k1,k2,k3,QC BP,Bt BP,Qv BP,Ji,zE,Ki,QC (show lo<(H.set lo (Q6 g dm)).length by simp;exact BP)];rw[zF g dm _ _ _ Je k1 k2]
     repeat' refine And.intro ?_ ?_
     all_goals exact QO
    refine Qf hb ?_;simp only[go_sem,k4];refine⟨by omega,_,?_,by omega,rfl⟩;rw[stp,Kb,<- hH,Ji,hx];rw[<- hH]at zy;rw[zy];exact QO
   ·have c2:decide (L<=y)=false:=QQ cL;have Kb:Sort.breakStep a L M (r,dm) (a+L / 4*2 - 1+m)=(Sort.xorNext r,Sort.swp dm (a+L / 4*2 - 1+m) (a+y)):=by
     unfold Sort.breakStep;dsimp only;rw[hx,hy,Qd cL]
    have k1:a+L / 4*2 - 1+m<d.size:=by omega
    have k2:a+y<d.size:=by omega
    have k3:IntKind.i64.wrap ((a:Int)+(y:Nat))=((a+y:Nat):Int):=by rw[wrap64 (by omega) (by omega)];omega
    simp only[go_sem,c2];refine Dv (⟨[(0,.ref lo g 0 d.size),(1,Qb a),(6,Qb L),(7,.ptr H.length 0 0 0),(8,u64 M),(9,Qb (a+L / 4*2 - 1+m:Nat))],H.set lo (Q6 g (Sort.swp dm (a+L / 4*2 - 1+m) (a+y)))++[FB x]⟩) Qh hb mixed [(0,true),(1,true),(2,true),(3,true),(4,true),(6,true),(7,true),(8,true),(9,true),(10,true),(11,true),(12,true),(13,true),(14,true),(15,true),(16,true)] [5,17,18,19] (by kernel_rfl) (by kernel_rfl) (λs hw=>AI hw rfl ?_) ?_
    rotate_left
    ·simp only[go_sem,Qa,BO,BP,Je,k1,k2,k3,QC BP,Bt BP,Qv BP,Ji,zE,Ki,QC (show lo<(H.set lo (Q6 g dm)).length by simp;exact BP)];rw[zF g dm _ _ _ Je k1 k2]
     repeat' refine And.intro ?_ ?_
     all_goals exact QO
    refine Qf hb ?_;simp only[go_sem,k4];refine⟨by omega,_,?_,by omega,rfl⟩;rw[stp,Kb,<- hH,Ji,hx];rw[<- hH]at zy;rw[zy];exact QO
  ·obtain rfl:m=3:=by omega
   have c1:decide (a+L / 4*2 - 1+2<=a+L / 4*2)=false:=QQ (by omega);refine Qf hb ?_;simp only[go_sem,Qa,f0,f1,f2,f3,f5,c1];try exact⟨_,rfl⟩
 ·have d8:decide ((8:Int)<=(b - a:Nat))=false:=QQ (by omega);have e:Sort.breakPatterns d a b=d:=by
   unfold Sort.breakPatterns;dsimp only;rw[Qd c8]
  rw[e];refine QU Qh 200 func278 rfl ntmps278 results278 rfl λbase w pl hb=>?_;have Qe:=Qc ho;simp only[go_sem,Qa,ho,Qe,e0,d8];exact⟨[],by rw[Zd];exact(kj ho).symm⟩
end
def Qgp(a b):∀(n i:Nat) (d:Array Int),b - i<=n->(Sort.insOuter Qt a b i d).size=d.size
 | n,i,d,hn=>by
  rw[Sort.insOuter];split
  ·obtain⟨n',rfl⟩:∃n',n=n'+1:=⟨n - 1,by omega⟩;rw[Qgp a b n' _ _ (by omega),Qf5]
  ·rfl
def Qv9(d:Array Int)(a b:Nat):(Sort.insertionSort Qt d a b).size=d.size:=Qgp a b _ _ d (QD _)
def Qgq(first):∀(k:Nat) (d:Array Int),(Sort.heapPop Qt first k d).size=d.size
 | 0,d=>rfl
 | k+1,d=>by rw[Sort.heapPop,Qgq first k,aE,swp_size]
def Qwa(d:Array Int)(a b:Nat):(Sort.heapSort Qt d a b).size=d.size:=by rw[Sort.heapSort,Qgq,Qf7]
def Qwb(d:Array Int)(a b:Nat):(Sort.breakPatterns d a b).size=d.size:=by
 by_cases c:b - a >= 8
 ·rw[Qgm d a b c,mz]
 ·unfold Sort.breakPatterns;dsimp only;rw[Qd c]
def Qgr:∀(n i j:Nat) (d:Array Int),j - i<=n->(Sort.reverseLoop i j d).size=d.size
 | n,i,j,d,hn=>by
  rw[Sort.reverseLoop];split
  ·obtain⟨n',rfl⟩:∃n',n=n'+1:=⟨n - 1,by omega⟩;rw[Qgr n' _ _ _ (by omega),swp_size]
  ·rfl
def Qwc(d:Array Int)(a b:Nat):(Sort.reverseRange d a b).size=d.size:=Qgr _ _ _ d (QD _)
def Qgs(a b):∀(s i:Nat) (d:Array Int),(Sort.partialIns Qt a b s i d).1.size=d.size
 | 0,i,d=>rfl
 | s+1,i,d=>by
  rw[Sort.partialIns];dsimp only;split
  ·rfl
  ·split
   ·rfl
   ·rw[Qgs a b s];have e:∀dd:Array Int,(if b - Sort.scanSorted Qt d b i >= 2 then Sort.shiftUp Qt b (Sort.scanSorted Qt d b i+1) dd else dd).size=dd.size:=λdd=>by
     split
     ·exact Qgc b _ _ _ (QD _)
     ·rfl
    rw[e];split
    ·rw[l9,swp_size]
    ·rw[swp_size]
def mA(d:Array Int)(a b p:Nat):(Sort.partitionEqual Qt d a b p).2.size=d.size:=by
 rw[Sort.partitionEqual,Qf9 a _ _ _ _ (QD _),swp_size]
def aK(d:Array Int)(a b p:Nat):(Sort.partition Qt d a b p).2.2.size=d.size:=by
 rw[Sort.partition_arr,swp_size,Qga a _ _ _ _ (QD _),swp_size]
def Qgt(d:Array Int)(a b l)(wb wp:Bool):(Sort.rd Qt d a b l wb wp).d1.size=d.size/\(Sort.rd Qt d a b l wb wp).d2.size=d.size/\(Sort.rd Qt d a b l wb wp).pi.1.size=d.size:=by
 have h1:(Sort.rd Qt d a b l wb wp).d1.size=d.size:=by
  cases wb
  ·exact Qwb d a b
  ·rfl
 have h2:(Sort.rd Qt d a b l wb wp).d2.size=d.size:=by
  by_cases hh:(Sort.rd Qt d a b l wb wp).c.2=.decreasing
  ·rw[(Sort.rd_dec hh).1,Qwc,h1]
  ·rw[(Sort.rd_not hh).1,h1]
 refine⟨h1,h2,?_⟩;cases hc:(wb&&wp&&decide ((Sort.rd Qt d a b l wb wp).hint=.increasing))
 ·rw[Sort.rd_pi_no hc,h2]
 ·rw[Sort.rd_pi_yes hc,Sort.partialInsertionSort,Qgs,h2]
def Qgu(a):∀(n i j:Nat) (d:Array Int),j+1 - i<=n->a<i->i<=j+1->a<(Sort.partEqLoop Qt a i j d).1/\(Sort.partEqLoop Qt a i j d).1<=j+1
 | n,i,j,d,hn,Ms,KA=>by
  have HC:=aF (λx=>!Qt d[a]! x) (λx=>Qt d[a]! x) (λx=>by simp) d i j (by omega) KA;obtain⟨u1,u2,u3,u4⟩:=Sort.scanUp_spec (λx=>!Qt d[a]! x) d j _ i rfl;obtain⟨v1,v2,v3,v4⟩:=Sort.scanDown_spec (λx=>Qt d[a]! x) d (Sort.scanUp (λx=>!Qt d[a]! x) d j i) j;have u5:=u2 KA;rw[Sort.partEqLoop_eq];split
  ·exact⟨by dsimp only;omega,u5⟩
  ·rename_i h;have h2:=HC h;have:=Sort.partEqLoop_guard Qt a i j d h;obtain⟨n',rfl⟩:∃n',n=n'+1:=⟨n - 1,by omega⟩;obtain⟨r1,r2⟩:=Qgu a n' _ _ (Sort.swp d (Sort.scanUp (λx=>!Qt d[a]! x) d j i) (Sort.scanDown (λx=>Qt d[a]! x) d (Sort.scanUp (λx=>!Qt d[a]! x) d j i) j)) (show (Sort.scanDown (λx=>Qt d[a]! x) d (Sort.scanUp (λx=>!Qt d[a]! x) d j i) j - 1)+1 - (Sort.scanUp (λx=>!Qt d[a]! x) d j i+1)<=n' by omega) (by omega) (by omega);exact⟨r1,by omega⟩
def Qwd(d)(a b p:Nat)(Vb:a<b):a<(Sort.partitionEqual Qt d a b p).1/\(Sort.partitionEqual Qt d a b p).1<=b:=by
 have:=Qgu a _ (a+1) (b - 1) (Sort.swp d a p) (QD _) (by omega) (by omega);rw[Sort.partitionEqual];omega
def Qgv:Sort.SWO Qt:=⟨λx=>by simp[Qt],λx y z h1 h2=>by simp[Qt]at *;omega,λx y z h1 h2=>by simp[Qt]at *;omega⟩
def Qwe(d:Array Int)(a b p:Nat)(h1:a<=p)(h2:p<b)(hb:b<=d.size):a<=(Sort.partition Qt d a b p).1/\(Sort.partition Qt d a b p).1<b:=by
 have:=Sort.partition_holds Qt Qgv d a b p h1 h2 hb;exact⟨this.1,this.2.1⟩
def Qwf(d)(a b l)(wb wp:Bool)(Vb:a<b):a<=(Sort.rd Qt d a b l wb wp).pivot/\(Sort.rd Qt d a b l wb wp).pivot<b:=by
 have h:=Sort.choosePivot_holds Qt (Sort.rd Qt d a b l wb wp).d1 a b Vb;rw[<- Sort.rd_c]at h;by_cases hh:(Sort.rd Qt d a b l wb wp).c.2=.decreasing
 ·rw[(Sort.rd_dec hh).2.1];omega
 ·rw[(Sort.rd_not hh).2.1];exact h
def FC:∀(n:Nat) (d:Array Int) (a b l:Nat) (wb wp:Bool),b - a<=n->(Sort.pdq Qt d a b l wb wp).size=d.size
 | n,d,a,b,l,wb,wp,hn=>by
  obtain⟨z1,z2,z3⟩:=Qgt d a b l wb wp;rw[Sort.pdq_unfold];split
  ·exact Qv9 d a b
  ·split
   ·exact Qwa d a b
   ·obtain⟨n',rfl⟩:∃n',n=n'+1:=⟨n - 1,by omega⟩;split
    ·exact z3
    ·split
     ·split
      ·rename_i h;rw[FC n' _ _ _ _ _ _ (by omega),mA,z3]
      ·rw[mA,z3]
     ·split
      ·rename_i h;split
       ·rw[FC n' _ _ _ _ _ _ (by omega),FC n' _ _ _ _ _ _ (by omega),aK,z3]
       ·rw[FC n' _ _ _ _ _ _ (by omega),FC n' _ _ _ _ _ _ (by omega),aK,z3]
      ·rw[aK,z3]
def Qgw(n:Nat):Prop:=∀(h:List Ob) (lo g:Nat) (d:Array Int),h[lo]? = some (Q6 g d)->∀a b l:Nat,a<=b->b<=d.size->l<1000->d.size<1000000000->b - a<n ->
 MFn prog 265 h [.ref lo g 0 d.size,Qb a,Qb b,Qb l] (λdd h'=>dd=.tup []/\∃t,h'=h.set lo (Q6 g (Sort.pdq Qt d a b l true true))++t)
def DB{h t:List Ob}{lo}{x y}(hl:lo<h.length):(h.set lo x++t).set lo y=h.set lo y++t:=by
 rw[Sq _ _ (by simpa using hl),Ji]
def PQ{h t:List Ob}{lo}{x}(hl:lo<h.length):(h.set lo x++t)[lo]? = some x:=by
 rw[Jy (by simpa using hl),Qv hl]
def Qgx(c:Sort.Hint)(k:Sort.Hint):((Dw c:Int)==(Dw k:Int))=decide (c=k):=by cases c<;>cases k<;>rfl
def Qwg(n:Nat)(IH:Qgw n){h:List Ob}{lo g:Nat}{d:Array Int}(ho:h[lo]? = some (Q6 g d))(a b l:Nat)(Vb:a<=b)(Zo:b<=d.size)(hl:l<1000)(hz:d.size<1000000000)(hn:b - a<n+1):
  MFn prog 265 h [.ref lo g 0 d.size,Qb a,Qb b,Qb l] (λdd h'=>dd=.tup []/\∃t,h'=h.set lo (Q6 g (Sort.pdq Qt d a b l true true))++t):=by
 refine QU Qh 200 func265 rfl ntmps265 results265 rfl λbase w pl hb=>?_;have Qe:=Qc ho;simp only[go_sem,Qa,ho,Qe];refine ZZ (λm st=>∃(d1:Array Int) (a1 b1 l1:Nat) (wb wp:Bool) (t:List Ob),d1.size=d.size/\a1<=b1/\b1<=d.size/\l1<1000/\m+(b1 - a1)<=b - a/\Sort.pdq Qt d1 a1 b1 l1 wb wp=Sort.pdq Qt d a b l true true/\st=⟨[(0,.ref lo g 0 d.size),(1,Qb a1),(2,Qb b1),(3,Qb l1),(8,QY wb),(9,QY wp)],h.set lo (Q6 g d1)++t⟩) (b - a) (s0:=⟨[(0,.ref lo g 0 d.size),(1,Qb a),(2,Qb b),(3,Qb l),(8,QY true),(9,QY true)],h.set lo (Q6 g d)++[]⟩) ?_ ⟨d,a,b,l,true,true,[],rfl,Vb,Zo,hl,by omega,rfl,rfl⟩ ?_
 ·rw[kj ho,Zd];exact QO
 rintro m _ hm ⟨d1,a1,b1,l1,wb,wp,t1,ZG,QEQ,QER,Zu,UF,qk,rfl⟩;have e0:IntKind.i64.wrap ((b1:Int) - a1)=((b1 - a1:Nat):Int):=by rw[wrap64 (by omega) (by omega)];omega
 have mB:(h.set lo (Q6 g d1)++t1)[lo]? = some (Q6 g d1):=PQ Qe;rw[Sort.pdq_unfold]at qk;by_cases c12:b1 - a1<=12
 ·have d12:decide (((b1 - a1:Nat):Int)<=12)=true:=Q7 (by omega);rw[Qg c12]at qk;refine Qf hb ?_;simp only[go_sem,Qa,e0,d12];refine Jl hb Qsu (ZG▸QvK mB a1 b1 (by omega) (by omega) (by omega)) λd h hR=>?_;obtain⟨rfl,rfl⟩:=hR;apply ZC hb;refine⟨t1,?_⟩;rw[<- qk];exact DB Qe
 ·have d12:decide (((b1 - a1:Nat):Int)<=12)=false:=QQ (by omega);rw[Qd c12]at qk;by_cases cl:l1=0
  ·have dl:((l1:Int)==0)=true:=by rw[cl];rfl
   rw[Qg cl]at qk;refine Qf hb ?_;simp only[go_sem,Qa,e0,d12,dl];refine Jl hb Qsv (ZG▸QvL mB a1 b1 (by omega) (by omega) (by omega)) λd h hR=>?_;obtain⟨rfl,rfl⟩:=hR;apply ZC hb;refine⟨t1,?_⟩;rw[<- qk];exact DB Qe
  ·have dl:((l1:Int)==0)=false:=beq_eq_false_iff_ne.mpr (by omega);rw[Qd cl]at qk;refine Bp Qh hb 30 ?_;simp only[go_sem,Qa,e0,d12,dl];obtain⟨z1,z2,z3⟩:=Qgt d1 a1 b1 l1 wb wp;have QES:=Sort.rd_lim_le (lt:=Qt) (d:=d1) (a:=a1) (b:=b1) (limit:=l1) (wb:=wb) (wp:=wp);have Mu:=Qwf d1 a1 b1 l1 wb wp (by omega);rw[ZG]at z1 z2 z3;first|refine Yv ?_|skip
   refine aC (λst=>∃t,st=⟨[(0,.ref lo g 0 d.size),(1,Qb a1),(2,Qb b1),(3,Qb (Sort.rd Qt d1 a1 b1 l1 wb wp).lim),(8,QY wb),(9,QY wp),(10,Qb (b1 - a1:Nat))],h.set lo (Q6 g (Sort.rd Qt d1 a1 b1 l1 wb wp).d1)++t⟩) ?_ ?_
   ·cases wb
    ·have vl:IntKind.i64.wrap ((l1:Int) - 1)=((l1 - 1:Nat):Int):=by rw[wrap64 (by omega) (by omega)];omega
     rw[Sort.rd_false.1,Sort.rd_false.2];apply ZC hb;refine KW hb Qsw rfl ?_ (ZG▸Qv8 mB a1 b1 (by omega) (by omega) (by omega)) rfl λd h hR=>?_
     ·simp only[go_sem,vl]
     obtain⟨rfl,t2,rfl⟩:=hR;refine Qf hb ?_;simp only[go_sem,vl];refine⟨_,⟨t1++t2,rfl⟩,?_⟩;rw[DB Qe,Wb];exact QO
    ·rw[Sort.rd_true.1,Sort.rd_true.2];apply ZC hb;refine⟨_,⟨t1,rfl⟩,?_⟩;exact QO
   have hc:=Sort.rd_c (lt:=Qt) (d:=d1) (a:=a1) (b:=b1) (limit:=l1) (wb:=wb) (wp:=wp);have Qwh:=Sort.rd_dec (lt:=Qt) (d:=d1) (a:=a1) (b:=b1) (limit:=l1) (wb:=wb) (wp:=wp);have Qwi:=Sort.rd_not (lt:=Qt) (d:=d1) (a:=a1) (b:=b1) (limit:=l1) (wb:=wb) (wp:=wp);have Qwj:=Sort.rd_pi_yes (lt:=Qt) (d:=d1) (a:=a1) (b:=b1) (limit:=l1) (wb:=wb) (wp:=wp);have Jw:=Sort.rd_pi_no (lt:=Qt) (d:=d1) (a:=a1) (b:=b1) (limit:=l1) (wb:=wb) (wp:=wp);have Yd:=Sort.choosePivot_holds Qt (Sort.rd Qt d1 a1 b1 l1 wb wp).d1 a1 b1 (by omega);rw[<- hc]at Yd;generalize Sort.rd Qt d1 a1 b1 l1 wb wp=R at *;rintro _ ⟨t2,rfl⟩;apply Q1 hb;refine KW hb Qsx rfl ?_ (z1▸QvI (PQ (x:=Q6 g R.d1) Qe) a1 b1 (by omega) (by omega) (by omega)) rfl λd h hR=>?_
   ·simp only[go_sem,Wb]
   obtain⟨rfl,t3,rfl⟩:=hR;refine Bp Qh hb 12 ?_;simp only[go_sem,Wb];rw[<- hc];first|refine Yv ?_|skip
   refine aC (λst=>∃t,st=⟨[(0,.ref lo g 0 d.size),(1,Qb a1),(2,Qb b1),(3,Qb R.lim),(8,QY wb),(9,QY wp),(10,Qb (b1 - a1:Nat)),(11,Qb R.pivot),(12,Qb (Dw R.hint:Nat))],h.set lo (Q6 g R.d2)++t⟩) ?_ ?_
   ·by_cases hh:R.c.2=.decreasing
    ·obtain⟨r1,r2,r3⟩:=Qwh hh;have b2:((Dw R.c.2:Int)==2)=true:=by rw[hh];rfl
     have v1:IntKind.i64.wrap ((b1:Int) - 1)=((b1 - 1:Nat):Int):=by rw[wrap64 (by omega) (by omega)];omega
     have v2:IntKind.i64.wrap ((R.c.1:Int) - a1)=((R.c.1 - a1:Nat):Int):=by rw[wrap64 (by omega) (by omega)];omega
     have v3:IntKind.i64.wrap (((b1 - 1:Nat):Int) - (R.c.1 - a1:Nat))=(((b1 - 1) - (R.c.1 - a1):Nat):Int):=by rw[wrap64 (by omega) (by omega)];omega
     refine Qf hb ?_;simp only[go_sem,b2];refine KW hb Qsy rfl ?_ (z1▸QvJ (PQ (x:=Q6 g R.d1) Qe) a1 b1 (by omega) (by omega) (by omega)) rfl λd h hR=>?_
     ·simp only[go_sem,v1,v2,v3]
     obtain⟨rfl,rfl⟩:=hR;refine Qf hb ?_;simp only[go_sem,v1,v2,v3];rw[r1,r2,r3];refine⟨_,⟨t2++t3,rfl⟩,?_⟩;rw[DB Qe];exact QI.frame (by simp only[go_sem];first|rfl|exact⟨rfl,rfl⟩)
    ·obtain⟨r1,r2,r3⟩:=Qwi hh;have b2:((Dw R.c.2:Int)==2)=false:=by rw[show (2:Int)=(Dw .decreasing:Int) from rfl,Qgx];exact QQ hh
     refine Qf hb ?_;simp only[go_sem,b2];rw[r1,r2,r3];refine⟨_,⟨t2++t3,rfl⟩,?_⟩;exact QO
   rintro _ ⟨t4,rfl⟩;refine Yv ?_;first|refine Yv ?_|skip
   refine gu (⟨[(0,.ref lo g 0 d.size),(1,Qb a1),(2,Qb b1),(3,Qb R.lim),(8,QY wb),(9,QY wp),(10,Qb (b1 - a1:Nat)),(11,Qb R.pivot),(12,Qb (Dw R.hint:Nat)),(68,QY (wb&&wp&&decide (R.hint=.increasing)))],h.set lo (Q6 g R.d2)++t4⟩) ?_ ?_
   ·cases wb
    ·apply Q1 hb;exact QI.frame (by simp only[go_sem,Ga])
    ·cases wp
     ·apply Q1 hb;exact QI.frame (by simp only[go_sem,Ga,Iq])
     ·have b1':((Dw R.hint:Int)==1)=decide (R.hint=.increasing):=Qgx R.hint .increasing;refine Qf hb ?_;simp only[go_sem,Qa,b1'];exact QI.frame (by simp only[go_sem,Ga,Iq])
   first|refine Yv ?_|skip
   refine aC (λst=>R.pi.2=false/\∃t,st=⟨[(0,.ref lo g 0 d.size),(1,Qb a1),(2,Qb b1),(3,Qb R.lim),(8,QY wb),(9,QY wp),(10,Qb (b1 - a1:Nat)),(11,Qb R.pivot)],h.set lo (Q6 g R.pi.1)++t⟩) ?_ ?_
   ·cases hB:(wb&&wp&&decide (R.hint=.increasing))
    ·have hp:=Jw hB;apply ZC hb;rw[hp];refine⟨_,⟨rfl,t4,rfl⟩,?_⟩;exact QO
    ·have hp:=Qwj hB;apply ZC hb;refine Jl hb Qsz (z2▸Qv2 (PQ (x:=Q6 g R.d2) Qe) a1 b1 (by omega) (by omega) (by omega)) λd h hR=>?_;obtain⟨rfl,rfl⟩:=hR;apply ZC hb;rw[<- hp];cases ZB:R.pi.2
     ·simp only[go_sem];refine⟨_,⟨t4,rfl⟩,?_⟩;rw[DB Qe];exact QO
     ·rw[Qg ZB]at qk;simp only[go_sem];refine⟨t4,?_⟩;rw[<- qk];exact DB Qe
   rintro _ ⟨Qwk,t5,rfl⟩;rw[Qd (by rw[Qwk];decide)]at qk;generalize hD:R.pi.1=DA at *;have Mv:(h.set lo (Q6 g DA)++t5)[lo]? = some (Q6 g DA):=PQ Qe;generalize mC:h.set lo (Q6 g DA)++t5=HD at Mv;have mD:=Qc Mv;have p2:R.pivot<d.size:=by omega
   have f1:a1 > 0->IntKind.i64.wrap ((a1:Int) - 1)=((a1 - 1:Nat):Int):=λq=>by rw[wrap64 (by omega) (by omega)];omega
   have p1:a1 - 1<d.size:=by omega
   refine Yv ?_;first|refine Yv ?_|skip
   refine Am [0,1,2,3,8,9,10,11] [(87,QY (decide (a1 > 0)&&!Qt DA[a1 - 1]! DA[R.pivot]!))] rfl ?_ ?_
   ·by_cases ca:a1 > 0
    ·have da:decide ((0:Int)<(a1:Int))=true:=Q7 (by omega);have f2:=f1 ca;apply QH hb [0,1,2,3,4,5,6,7,8,9,10,11,1012,13,14];simp only[go_sem,Qa,Mv,mD,z3,da,f2,p1,p2];refine K9 hb zk (kh DA[a1 - 1]! DA[R.pivot]!) (Qo.flat rfl) λd h hR=>?_;obtain⟨rfl,rfl⟩:=hR;apply V6 hb;exact QI.frame (by simp only[go_sem,Q7 ca,Iq])
    ·have da:decide ((0:Int)<(a1:Int))=false:=QQ (by omega);apply QH hb [0,1,2,3,4,5,6,7,8,9,10,11,1012,13,14];simp only[go_sem,Qa,Mv,mD,z3,da];exact QI.frame (by simp only[go_sem,QQ ca,Ga])
   cases hB:(decide (a1 > 0)&&!Qt DA[a1 - 1]! DA[R.pivot]!)
   ·rw[hB,Qd (by decide)]at qk;have hr:=Qwe DA a1 b1 R.pivot Mu.1 Mu.2 (by omega);have Je:=aK DA a1 b1 R.pivot;rw[Qg hr]at qk;refine Qf hb ?_;simp only[go_sem,Qa,hB];refine Jl hb QsB (z3▸QvS Mv a1 b1 R.pivot (by omega) (by omega) Mu.1 Mu.2 (by omega)) λd h hR=>?_;obtain⟨rfl,rfl⟩:=hR;apply ZC hb;generalize Sort.partition Qt DA a1 b1 R.pivot=pt at *;obtain⟨XQ,Qgz,E⟩:=pt;dsimp only at *;have k1:IntKind.i64.wrap ((XQ:Int) - a1)=((XQ - a1:Nat):Int):=by rw[wrap64 (by omega) (by omega)];omega
    have k2:IntKind.i64.wrap ((b1:Int) - XQ)=((b1 - XQ:Nat):Int):=by rw[wrap64 (by omega) (by omega)];omega
    have k3:((b1 - a1:Nat):Int).tdiv 8=(((b1 - a1) / 8:Nat):Int):=rfl;have k4:IntKind.i64.wrap ((((b1 - a1) / 8:Nat):Int))=(((b1 - a1) / 8:Nat):Int):=by rw[wrap64 (by omega) (by omega)]
    have k5:IntKind.i64.wrap ((XQ:Int)+1)=((XQ+1:Nat):Int):=by rw[wrap64 (by omega) (by omega)];omega
    have aL:E.size=d.size:=by rw[Je,z3]
    have atE:(HD.set lo (Q6 g E))[lo]? = some (Q6 g E):=Qv mD;by_cases aM:XQ - a1<b1 - XQ
    ·have PR:decide (XQ - a1<b1 - XQ)=true:=Q7 aM;rw[Qg aM]at qk;simp only[go_sem,k1,k2,k3,k4,PR];refine Qf hb ?_;simp only[go_sem,k1,k2,k3,k4,PR];refine KW hb fZ rfl ?_ (aL▸IH _ lo g E atE a1 XQ R.lim (by omega) (by omega) (by omega) (by omega) (by omega)) rfl λd h hR=>?_
     ·simp only[go_sem,k5]
     obtain⟨rfl,t6,rfl⟩:=hR;refine Qf hb ?_;simp only[go_sem,k5];have mE:=FC _ E a1 XQ R.lim true true (QD _);refine⟨by omega,_,?_,Sort.pdq Qt E a1 XQ R.lim true true,XQ+1,b1,R.lim,decide ((b1 - a1) / 8<=XQ - a1),Qgz,t5++t6,by rw[mE,aL],by omega,by omega,by omega,by omega,qk,rfl⟩;rw[Ji,<- mC,DB Qe,Wb];exact QO
    ·have PR:decide (XQ - a1<b1 - XQ)=false:=QQ aM;rw[Qd aM]at qk;simp only[go_sem,k1,k2,k3,k4,PR];refine Qf hb ?_;simp only[go_sem,k1,k2,k3,k4,k5,PR];refine Jl hb fZ (aL▸IH _ lo g E atE (XQ+1) b1 R.lim (by omega) (by omega) (by omega) (by omega) (by omega)) λd h hR=>?_;obtain⟨rfl,t6,rfl⟩:=hR;apply ZC hb;have mE:=FC _ E (XQ+1) b1 R.lim true true (QD _);refine⟨by omega,_,?_,Sort.pdq Qt E (XQ+1) b1 R.lim true true,a1,XQ,R.lim,decide ((b1 - a1) / 8<=b1 - XQ),Qgz,t5++t6,by rw[mE,aL],by omega,by omega,by omega,by omega,qk,rfl⟩;rw[Ji,<- mC,DB Qe,Wb];exact QO
   ·rw[hB,Qg rfl]at qk;have hr:=Qwd DA a1 b1 R.pivot (by omega);have Je:=mA DA a1 b1 R.pivot;rw[Qg hr]at qk;refine Qf hb ?_;simp only[go_sem,Qa,hB];refine Jl hb QsA (z3▸QvM Mv a1 b1 R.pivot (by omega) (by omega) Mu.1 Mu.2 (by omega)) λd h hR=>?_;obtain⟨rfl,rfl⟩:=hR;apply ZC hb;refine⟨by omega,_,?_,(Sort.partitionEqual Qt DA a1 b1 R.pivot).2,(Sort.partitionEqual Qt DA a1 b1 R.pivot).1,b1,R.lim,wb,wp,t5,by omega,by omega,by omega,by omega,by omega,qk,rfl⟩;rw[<- mC,DB Qe];exact QO
def QgB:∀n,Qgw n
 | 0=>λ_ _ _ _ _ _ _ _ _ _ _ _ hn=>absurd hn (XY _)
 | n+1=>λh lo g d ho a b l Vb hb hl hz hn=>Qwg n (QgB n) ho a b l Vb hb hl hz hn
def Qwl(n)(h:n<1000000000):Sort.bitsLen n<=30:=(Sort.bitsLen_le_iff n 30).2 (by omega)
def Qwm{h:List Ob}{lo g}{d:Array Int}(ho:h[lo]? = some (Q6 g d))(hz:d.size<1000000000):
  MFn prog 239 h [.ref lo g 0 d.size] (λdd h'=>dd=.tup []/\∃t,h'=h.set lo (Q6 g (Sort.sort Qt d))++t):=by
 have Kl:=Qwl _ hz;have w0:IntKind.u64.wrap (d.size:Int)=d.size:=by rw[IntKind.wrap_u64];omega
 refine QU Qh 200 func239 rfl ntmps239 results239 rfl λbase w pl hb=>?_;have Qe:=Qc ho;simp only[go_sem,Qa,ho,Qe,w0];refine Wj hb QdN (SS d.size (by omega)) (Qo.flat rfl) λd h hR=>?_;obtain⟨rfl,rfl⟩:=hR;apply ZC hb;refine Jl hb fZ (QgB (d.size+1) h lo g d ho 0 d.size (Sort.bitsLen d.size) (JQ _) (QD _) (by omega) hz (by omega)) λd h hR=>?_;obtain⟨rfl,t,rfl⟩:=hR;apply ZC hb;exact⟨t,rfl⟩
def cN(f:Nat->Int):Nat->List Int
 | 0=>[]
 | n+1=>if n≠0/\f n=f (n - 1) then cN f n else cN f n++[f n]
def Mw(f):∀n,(cN f n).length<=n
 | 0=>QD _
 | n+1=>by
  have:=Mw f n;rw[cN];split
  ·omega
  ·simp;omega
def mF(f)(x):∀n,x∈cN f n↔∃i,i<n/\f i=x
 | 0=>by simp[cN]
 | n+1=>by
  have ih:=mF f x n;rw[cN];split
  ·rename_i c;rw[ih];constructor
   ·rintro⟨i,h1,h2⟩;exact⟨i,by omega,h2⟩
   ·rintro⟨i,h1,h2⟩;by_cases e:i=n
    ·subst e;exact⟨i - 1,by omega,by rw[<- c.2];exact h2⟩
    ·exact⟨i,by omega,h2⟩
  ·rw[QT,ih];simp only[qA];constructor
   ·rintro (⟨i,h1,h2⟩|h)
    ·exact⟨i,by omega,h2⟩
    ·exact⟨n,by omega,h.symm⟩
   ·rintro⟨i,h1,h2⟩;by_cases e:i=n
    ·subst e;exact Or.inr h2.symm
    ·exact Or.inl ⟨i,by omega,h2⟩
def HF(f):∀n,(cN f n).length=n->∀i,i<n->(cN f n).getD i 0=f i
 | 0,_,i,hi=>absurd hi (XY _)
 | n+1,h,i,hi=>by
  have hle:=Mw f n;rw[cN]at h ⊢;split at h
  ·omega
  ·rename_i c;rw[Qd c];simp at h;by_cases e:i=n
   ·subst e;rw[Q8,JT (by omega),h,Cd];rfl
   ·rw[Q8,Jy (by omega),<- Q8];exact HF f n h i (by omega)
def Qwn(g)(d:Array Int)(i n)(x)(hn:d.size=n)(hi:i<n):
  (⟨.arr,g,1,n,λk=>bif k==i then [.raw (.int .u64 x)] else [.raw (.int .u64 d[k]!)]⟩:Ob)=Q6 g (d.setIfInBounds i x):=by
 subst hn;unfold Q6;congr 1
 ·simp
 ·funext k;unfold AJ uI;by_cases k1:k=i
  ·subst k1;simp[hi]
  ·have e1:(k==i)=false:=beq_eq_false_iff_ne.mpr k1;rw[e1];by_cases k3:k<d.size
   ·simp[k1,k3,Q3 k1,dh]
   ·simp[k1,k3]
def Qwo{h:List Ob}{lo g}{d:Array Int}(ho:h[lo]? = some (Q6 g d))(hz:d.size<1000000000):
  MFn prog 240 h [.ref lo g 0 d.size] (λdd h'=>dd=.ref lo g 0 (cN (λi=>d[i]!) d.size).length/\∃row,h'=h.set lo ⟨.arr,g,1,d.size,row⟩/\(∀i,i<(cN (λi=>d[i]!) d.size).length->row i=[uI ((cN (λi=>d[i]!) d.size).getD i 0)])/\∀i,∃x,row i=[uI x]):=by
 by_cases c2:d.size<2
 ·have e2:decide ((d.size:Int)<2)=true:=Q7 (by omega);have hlen:(cN (λi=>d[i]!) d.size).length=d.size:=by
   have:d.size=0\/d.size=1:=by omega
   rcases this with h0|h0<;>rw[h0]<;>rfl
  rw[hlen];refine QU Qh 200 func240 rfl ntmps240 results240 rfl λbase w pl hb=>?_;have Qe:=Qc ho;simp only[go_sem,Qa,ho,Qe,e2];exact⟨AJ d,(kj ho).symm,λi hi=>by rw[HF _ _ hlen i hi];rfl,λi=>⟨_,rfl⟩⟩
 ·have e2:decide ((d.size:Int)<2)=false:=QQ (by omega);refine QU Qh 200 func240 rfl ntmps240 results240 rfl λbase w pl hb=>?_;have Qe:=Qc ho;simp only[go_sem,Qa,ho,Qe,e2];refine ZZ (λk st=>k+1<=d.size/\(cN (λi=>d[i]!) (k+1)).length=k+1/\st=⟨[(0,.ref lo g 0 d.size),(3,Qb (k+1:Nat))],h⟩) d.size (s0:=⟨[(0,.ref lo g 0 d.size),(3,Qb (0+1:Nat))],h⟩) QO ⟨by omega,rfl,rfl⟩ ?_;rintro k _ hk ⟨Qs,Z6,rfl⟩;by_cases ck:k+1<d.size
  ·have ek:decide (k+1<d.size)=true:=Q7 ck;have v1:IntKind.i64.wrap (((k+1:Nat):Int) - 1)=((k:Nat):Int):=by rw[wrap64 (by omega) (by omega)];omega
   have v2:IntKind.i64.wrap (((k+1:Nat):Int)+1)=((k+1+1:Nat):Int):=by rw[wrap64 (by omega) (by omega)];omega
   have p0:k<d.size:=by omega
   refine Qf hb ?_;simp only[go_sem,Qa,ho,Qe,ek];apply QH hb [0,1,2,3,4,5,6,7,8,9];simp only[go_sem,Qa,ho,Qe,v1,ck,p0];by_cases YZ:d[k+1]! = d[k]!
   ·have HG:(d[k+1]! == d[k]!)=true:=beq_iff_eq.mpr YZ;have Jp:(cN (λi=>d[i]!) (k+1+1)).length=k+1:=by
     rw[cN,Qg ⟨by omega,by simpa using YZ⟩,Z6]
    have q0:k+1<=d.size:=by omega
    generalize hN:d.size - (k+1)=N;have v3:((d.size:Int) - ((k+1:Nat):Int)).toNat=N:=by omega
    simp only[go_sem,HG,q0,hN,Qa,ho,Qe,v3];refine ZZ (λm st=>∃(d1:Array Int),d1.size=d.size/\m+1<=N/\(cN (λi=>d[i]!) (k+1+(m+1))).length<=k+1+m/\(∀i,i<(cN (λi=>d[i]!) (k+1+(m+1))).length->d1[i]! = (cN (λi=>d[i]!) (k+1+(m+1))).getD i 0)/\(∀j,(cN (λi=>d[i]!) (k+1+(m+1))).length<=j->d1[j]! = d[j]!)/\st=⟨[(0,.ref lo g 0 d.size),(3,Qb (cN (λi=>d[i]!) (k+1+(m+1))).length),(4,.ref lo g (k+1) N),(5,Qb (m+1:Nat))],h.set lo (Q6 g d1)⟩) N (s0:=⟨[(0,.ref lo g 0 d.size),(3,Qb (cN (λi=>d[i]!) (k+1+(0+1))).length),(4,.ref lo g (k+1) N),(5,Qb (0+1:Nat))],h.set lo (Q6 g d)⟩) ?_ ⟨d,rfl,by omega,Nat.le_of_eq Jp,λi hi=>?_,λj hj=>rfl,rfl⟩ ?_
    ·rw[kj ho,Jp];exact QO
    ·rw[cN,Qg ⟨by omega,by simpa using YZ⟩]at hi ⊢;exact(HF _ _ Z6 i (by omega)).symm
    rintro m _ hm ⟨d1,ZG,hmN,Pf,HH,DC,rfl⟩;have Zu:=jC (g:=g) (d:=d1) Qe;have DD:cN (λi=>d[i]!) (k+1+(m+1+1))=if d[k+1+(m+1)]! = d[k+1+m]! then cN (λi=>d[i]!) (k+1+(m+1)) else cN (λi=>d[i]!) (k+1+(m+1))++[d[k+1+(m+1)]!]:=by
     rw[show k+1+(m+1+1)=(k+1+(m+1))+1 by omega,cN];simp
    generalize hC:cN (λi=>d[i]!) (k+1+(m+1))=C at *;generalize hH:h.set lo (Q6 g d1)=H at Zu;have Kf:=Qc Zu;by_cases cm:m+1<N
    ·have em:decide (m+1<N)=true:=Q7 cm;have r1:=DC (k+1+(m+1)) (by omega);have r2:=DC (k+1+m) (by omega);have u1:k+1+(m+1)<d.size:=by omega
     have u2:k+1+m<d.size:=by omega
     have u3:m<N:=by omega
     have w1:IntKind.i64.wrap (((m+1:Nat):Int) - 1)=(m:Int):=by rw[wrap64 (by omega) (by omega)];omega
     have w2:IntKind.i64.wrap (((m+1:Nat):Int)+1)=((m+1+1:Nat):Int):=by rw[wrap64 (by omega) (by omega)];omega
     have w3:IntKind.i64.wrap ((C.length:Int)+1)=((C.length+1:Nat):Int):=by rw[wrap64 (by omega) (by omega)];omega
     refine Qf hb ?_;simp only[go_sem,Qa,Zu,Kf,em];apply QH hb [0,1,2,3,4,5,6,7,8,9];simp only[go_sem,Qa,Zu,Kf,ZG,w1,cm,u1,u2,u3,r1,r2];by_cases cq:d[k+1+(m+1)]! = d[k+1+m]!
     ·have nq:(d[k+1+(m+1)]! != d[k+1+m]!)=false:=by rw[cq];exact bne_self_eq_false _
      rw[Qg cq]at DD;simp only[go_sem,nq,w2];rw[DD];refine⟨by omega,_,?_,d1,ZG,by omega,by omega,HH,DC,rfl⟩;rw[<- hH];exact QO
     ·have nq:(d[k+1+(m+1)]! != d[k+1+m]!)=true:=bne_iff_ne.mpr cq;have u4:C.length<d.size:=by omega
      rw[Qd cq]at DD;simp only[go_sem,nq,w2,w3,Qa,Zu,Kf,ZG,u1,cm,u4,r1];rw[Qwn g d1 _ _ _ ZG u4,DD];refine⟨by omega,_,?_,d1.setIfInBounds C.length d[k+1+(m+1)]!,by simp;exact ZG,by omega,by simp;omega,λi hi=>?_,λj hj=>?_,rfl⟩
      ·rw[<- hH,Ji,ZX,zV];exact QO
      ·simp only[ZX,zV]at hi;by_cases e:i=C.length
       ·subst e;rw[Q8,JT (QD _),Cd];simp[ZG,u4]
       ·rw[Q8,Jy (by omega),<- Q8,<- HH i (by omega)];simp[Q3 e,Im,vP,xg]
      ·simp only[ZX,zV]at hj;rw[<- DC j (by omega)];simp[show C.length≠j by omega,Im,vP,xg]
    ·have em:decide (m+1<N)=false:=QQ cm;have mG:k+1+(m+1)=d.size:=by omega
     rw[mG]at hC;rw[hC];have g1:C.length<=d.size:=by omega
     have g2:((d.size:Int) - (C.length:Int)).toNat=d.size - C.length:=by omega
     refine Qf hb ?_;simp only[go_sem,Qa,Zu,Kf,em];refine Qf hb ?_;simp only[go_sem,Qa,Zu,Kf,ZG,g1,g2];refine gV Aj hb rfl Zu rfl rfl rfl rfl (by dsimp only[Q6];omega) rfl rfl rfl rfl ?_;refine Qf hb ?_;simp only[go_sem,Qa,Qv Kf,Kf,ZG,g1];refine⟨by simp,Yz C.length (d.size - C.length) [D.raw (.int .u64 0)] (AJ d1),?_,λi hi=>?_,λi=>?_⟩
     ·rw[<- hH,Ji]
     ·rw[gT hi];show [uI d1[i]!]=_;rw[HH i hi];rfl
     ·unfold Yz;cases Nat.ble C.length i&&Nat.blt i (C.length+(d.size - C.length))
      ·exact⟨d1[i]!,rfl⟩
      ·exact⟨0,rfl⟩
   ·have HG:(d[k+1]! == d[k]!)=false:=beq_eq_false_iff_ne.mpr YZ;simp only[go_sem,HG,v2];refine⟨by omega,_,?_,by omega,?_,rfl⟩
    ·exact QO
    ·rw[cN,Qd (by simpa using YZ)];simp[Z6]
  ·have ek:decide (k+1<d.size)=false:=QQ ck;obtain Jo:k+1=d.size:=by omega
   rw[Jo]at Z6;refine Qf hb ?_;simp only[go_sem,Qa,ho,Qe,ek];apply ZC hb;rw[Z6];exact⟨rfl,AJ d,(kj ho).symm,λi hi=>by rw[HF _ _ Z6 i hi];rfl,λi=>⟨_,rfl⟩⟩
def DE:IntKind.i64.wrap 1=1:=by decide
def BQ:IntKind.i64.wrap 0=0:=by decide
def QgC(F:List Ob)(f nf:Nat)(Qz:List D)(g:Nc->Bool):Prop:=∀(h:List Ob) (c:Nc),KZ F h->Zg prog f h (Jj nf Qz [BG c]) (λd=>d=QY (g c))
def HI(g:Nc->Bool)(l:List Nc):Int:=match l.findIdx? g with
 | some i=>i
 | none=>-1
def Qwq{g}{l:List Nc}{k}(hk:k<l.length)(h:∀i,i<k->g (l.getD i default)=false)(hg:g (l.getD k default)=true):HI g l=k:=by
 have e:l.findIdx? g=some k:=by
  rw[Ec];refine⟨hk,by simpa[Q8,hk] using hg,λi hi=>?_⟩;have:=h i hi;simpa[Q8,show i<l.length by omega] using this
 rw[HI,e]
def Qwr{g}{l:List Nc}(h:∀i,i<l.length->g (l.getD i default)=false):HI g l=-1:=by
 have e:l.findIdx? g=none:=by
  rw[Ge];intro x hx;obtain⟨i,hi,rfl⟩:=yE hx;have:=h i hi;simpa[Q8,hi] using this
 rw[HI,e]
def Qws(g)(l:List Nc):decide (0<=HI g l)=l.any g:=by
 unfold HI;cases h:l.findIdx? g with
 | some i=>
  obtain⟨h1,h2,_⟩:=Ec.1 h;have e:l.any g=true:=Eb.2 ⟨_,qz h1,h2⟩;rw[e];simp
 | none=>
  have:=Ge.1 h;have e:l.any g=false:=by rw[List.any_eq_false];intro x hx;simp[this x hx]
  rw[e];decide
section
variable (h:List Ob)(l:List Nc)(hlen:l.length<1048576)
include hlen
theorem Qwt(so:D)(f nf:Nat)(Qz:List D)(hf:Qq prog f)(Vd:J4 so=some (f,nf,Qz))(gk:Nc->Bool)(hg:QgC (h.map Ob.ro) f nf Qz gk):
  Zg prog 238 h [Xh l,so] (λd=>d=Qb (HI gk l)):=by
 refine Zt Qh 200 func238 rfl ntmps238 results238 rfl λbase w pl F hF Za hb=>?_;simp only[go_sem,Qa];refine ZZ (λk s=>(∀i,i<k->gk (l.getD i default)=false)/\s=⟨[(0,Xh l),(1,so),(7,Qb l.length),(8,Qb k)],F⟩) l.length QO ⟨λi hi=>absurd hi (by omega),rfl⟩ ?_;rintro k s hk ⟨hn,rfl⟩;apply Q1 hb;have Zq:=Vp (show k<4611686018427387904 by omega);first|refine Ad hk (λQs=>?_) (λQs=>?_)|refine Ae hk (λQs=>?_) (λQs=>?_)
 ·simp only[go_sem,Qa,Qs];refine ZT hb hf Vd ?_ (hg F (l.getD k default) (by rw[<- hF];exact KZ.refl F)) rfl λd2 hR=>?_
  ·simp only[go_sem];exact Bz _
  subst hR;refine Qf hb ?_;cases zn:gk (l.getD k default)
  ·simp only[go_sem,Qa];refine⟨Qs,_,QI.frame (fr':=[(0,Xh l),(1,so),(7,Qb l.length),(8,Qb (k+1:Nat))]) (by simp only[go_sem,Zq]),λi hi=>?_,rfl⟩;by_cases h1:i<k
   ·exact hn i h1
   ·have:i=k:=by omega
    subst this;exact zn
  ·rw[Qwq Qs hn zn];simp only[go_sem,Qa];exact⟨[],(Zd F).symm⟩
 ·have Qs:k=l.length:=by omega
  subst Qs;simp only[go_sem,Gj];rw[Qwr hn];apply Q1 hb;exact⟨[],(Zd F).symm⟩
theorem Qwu(so:D)(f nf:Nat)(Qz:List D)(hf:Qq prog f)(Vd:J4 so=some (f,nf,Qz))(gk:Nc->Bool)(hg:QgC (h.map Ob.ro) f nf Qz gk):
  Zg prog 192 h [Xh l,so] (λd=>d=QY (l.any gk)):=by
 rw[<- Qws];refine Zt Qh 200 func192 rfl ntmps192 results192 rfl λbase w pl F hF Za hb=>?_;simp only[go_sem,Qa];refine ZT hb Qsg rfl ?_ (Qwt F l hlen so f nf Qz hf Vd gk (λh' n hx=>?_)) rfl λd2 hR=>?_
 ·simp only[go_sem];exact G9 so
 ·rw[hF,gG]at hx;exact hg h' n hx
 subst hR;apply Q1 hb;exact⟨[],(Zd F).symm⟩
end
def Qwv(h)(c:Nc):Zg prog 193 h [BG c] (λd=>d=QY (c.of==0)):=by
 refine Zt Qh 200 func193 rfl ntmps193 results193 rfl λbase w pl F hF Za hb=>?_;simp only[go_sem,Qa];refine Ax hb LC (Qmk c.a c.d c.b) (Qo.flat rfl) λd h hR=>?_;obtain⟨rfl,rfl⟩:=hR;apply Q1 hb;refine⟨_,rfl,?_⟩;simp only[bne,Bool.not_not];rfl
def QgD(l:List Nc):Bool:=l.any λc=>c.of==0
def yf(t:Int)(l:List Nc):Int:=if t<1\/65536<t then 1 else if QgD l=true then 21 else 0
def aN(t)(l:List Nc)(hl:l.length<1048576):Zh prog 158 [Qb t,Xh l] (Qo (Qb (yf t l))):=by
 have hcf:=Qwu [] l hl (.raw (.func (.func 193) ⟨[]⟩ ⟨[]⟩)) 193 0 [] Qr1 rfl (λc=>c.of==0) (λh' c _=>Qwv h' c);rw[show (l.any λc=>c.of==0)=QgD l from rfl]at hcf;refine Zy 0 Qh 200 func158 rfl ntmps158 results158 rfl λbase w hb=>?_;simp only[go_sem]
 repeat' (first|((first|refine EX (λh=>?_) (λh=>?_)|refine EY (λh=>?_) (λh=>?_)|refine EZ (λh=>?_) (λh=>?_)|refine vg (λh=>?_) (λh=>?_)|refine E0 (λh=>?_) (λh=>?_)|refine E6 (λh=>?_) (λh=>?_)|refine E7 (λh=>?_) (λh=>?_)|refine ET (λh=>?_) (λh=>?_))<;>(try simp only[go_sem,Go.undef]))|(refine And.intro (by first|assumption|omega) ?_;try simp only[go_sem,Go.undef])|(refine ZT hb Qr0 rfl ?_ (hcf) rfl ?_;(· simp only[go_sem,Qa,Go.undef]);intro d hR;subst hR;refine Qf hb ?_;simp only[go_sem,Qa,Go.undef])|fail)
 all_goals (congr 2;unfold yf;simp_all;try omega)
end Go.Fg.X
namespace Go.Fg.X
open Go.Proofs Go.Fg
open Go.RowKit (Below)
open Go.Proofs.Tryz
def Ze.nil{Z}{base}{w}:Ze Z base [] [] w:=⟨rfl,λl l' b q q' e1 e2=>by simp at e1,λl o e=>by simp at e,λl o b q e=>by simp at e⟩
def Qww{P}{f}{args}{R}(d2:D)(hu:d2.upto 0=true)
  (hd:∀d hh,R d hh->Jv 6 d d2\/∃lo g sz n row,hh[lo]? = some ⟨.arr,g,sz,n,row⟩/\(∀i,i<n->(row i).all D.Y6=true)/\Jv 6 (D.fz lo g n sz row d) d2) (h:Zh P f args R):Zh P f args (Qo d2):=by
 intro Z base w pl vs h1 h2 h3 hl hc;have Zf:pl=[]:=by have:=h3.len;simpa using this
 subst Zf;refine(h Z base w [] vs h1 h2 h3 hl hc).mono λe w' he=>?_;obtain⟨v,d,hh,Qj,rfl,hR,hO,hV,hT,hB⟩:=he;suffices fin:QA Z [] [] w' d2 v by
  exact⟨v,_,[],[],rfl,⟨rfl,rfl⟩,Ze.nil,fin,⟨λb hb Qc=>⟨hb,(hT.Kj b hb Qc).2⟩,λl o p e=>by simp at e,λl o o' b q e=>by simp at e⟩,hB⟩
 rcases hd _ _ hR with hle|⟨lo,g,sz,n,row,ZE,Z6,hle⟩
 ·exact(Ah 6 hle hV).take hu
 have Qc:lo<Qj.length:=by rw[hO.len];exact(Wc.1 ZE).1
 obtain⟨p,hp⟩:∃p,Qj[lo]? = some p:=⟨_,QP Qc⟩;have LY:=hV.fz (l:=lo) (o:=⟨.arr,g,sz,n,row⟩) (p:=p) ZE hp rfl (λb q e=>by
  subst e;refine⟨h2 b ?_,λl' q' e'=>?_,(hO.at_ lo _ b q ZE hp).2.cells rfl⟩
  ·rcases A3 b w.heap.size with Qc|wg
   ·exact absurd hp ((hT.Kj b (λi q e=>by simp at e) Qc).1 lo q)
   ·exact wg
  ·exact hO.inj _ _ _ _ _ e' hp) Z6 (h':=hh.set lo (Ob.gone ⟨.arr,g,sz,n,row⟩)) (λl' o' QB e=>by
  exact⟨o',by rw[JL (Q3 QB)];exact e,rfl,rfl,rfl⟩)
 exact(Ah 6 hle LY).take hu
end Go.Fg.X
namespace Go.Fg
def Kd.QgF(k:Kd):k.Oq k:=by cases k<;>simp[Kd.Oq,Kd.ty]
def QgG(o):IX o o:=⟨rfl,rfl,rfl,Kd.QgF _,λ_ _=>rfl⟩
def QgH:∀h:List Ob,yZ h h
 | []=>trivial
 | o::r=>⟨QgG o,QgH r⟩
def QgI:∀{h:List Ob} {l:Nat} {o:Ob} (Kx:Nat->List D),h[l]? = some o->(∀i,i<o.n->o.row i=Kx i)->yZ h (h.set l ⟨o.kd,o.gen,o.sz,o.n,Kx⟩)
 | [],l,o,Kx,e,_=>by simp at e
 | x::r,0,o,Kx,e,he=>by
  simp only[List.getElem?_cons_zero,QV]at e;subst e;exact⟨⟨rfl,rfl,rfl,Kd.QgF _,λi hi=>(he i hi).symm⟩,QgH r⟩
 | x::r,l+1,o,Kx,e,he=>⟨QgG x,QgI (h:=r) Kx (by simpa using e) he⟩
def QI.rows{w0}{fr}{h:List Ob}(l){o:Ob}(Kx)(ho:h[l]? = some o)(he:∀i,i<o.n->o.row i=Kx i):QI w0 ⟨fr,h⟩ ⟨fr,h.set l ⟨o.kd,o.gen,o.sz,o.n,Kx⟩⟩:=(Wk.ER (QgI Kx ho he)).up
end Go.Fg
namespace Go.Fg.X
open Go.Proofs Go.Fg
open Go.Proofs.Tryz
def DF(c:Nc):Bool:=c.of==3 || c.of==4
def WA(l:List Nc):List Int:=(l.filter DF).map λc=>(c.d:Int)
def Qwx(l:List Nc)(i)(h:i<l.length):WA (l.take (i+1))=if DF (l.getD i default)=true then WA (l.take i)++[((l.getD i default).d:Int)] else WA (l.take i):=by
 unfold WA;rw[Eh,QP h];simp only[Option.toList_some,NB,Q8,QP h,KS,vS];by_cases hg:DF l[i]=true
 ·rw[Qg hg,ND hg];rfl
 ·rw[Qd hg,NC hg];simp
def mH(l:List Nc)(i):(WA (l.take i)).length<=i:=by
 have:=Yo DF (l.take i);simp only[WA,J6];simp at this;omega
def zH(l:List Nc):Array Int:=Sort.sort Qt (WA l).toArray
def Wm(l:List Nc):List Int:=cN (λi=>(zH l)[i]!) (zH l).size
def mI(l:List Nc):(zH l).size=(WA l).length:=by
 unfold zH Sort.sort;rw[FC _ _ _ _ _ _ _ (QD _)];rfl
def Qwy(l:List Nc):(zH l).toList.Perm (WA l):=by
 have h:=(Sort.sort_sorts Qt Qgv (WA l).toArray).1.2.2;have e1:((Sort.sort Qt (WA l).toArray).extract 0 (WA l).toArray.size).toList=(zH l).toList:=by
  have:=mI l;unfold zH at this ⊢;rw[show (WA l).toArray.size=(Sort.sort Qt (WA l).toArray).size from this.symm];simp
 rw[e1]at h;simpa using h
def Qwz(l)(x):x∈Wm l↔∃c,c∈l/\DF c=true/\(c.d:Int)=x:=by
 unfold Wm;rw[mF];have h1:(∃i,i<(zH l).size/\(zH l)[i]! = x)↔x∈(zH l).toList:=by
  rw[List.mem_iff_getElem];constructor
  ·rintro⟨i,hi,e⟩;exact⟨i,by simpa using hi,by rw[<- e,Im,vP,qZ hi];simp⟩
  ·rintro⟨i,hi,e⟩;have Jf:i<(zH l).size:=by simpa using hi
   exact⟨i,Jf,by rw[<- e,Im,vP,qZ Jf];simp⟩
 rw[h1,(Qwy l).mem_iff];simp[WA,and_assoc]
@[go_sem] def Mx(K:List Int):D:=.imm 1 K.length λi=>[uI (K.getD i 0)]
def QwA{M:List Int}{row}(hr:wF (λn:Int=>[uI n]) M 0 row):∀i,i<M.length->row i=AJ M.toArray i:=λi hi=>by
 have:=hr.at_ i hi;rw[JG]at this;rw[this];unfold AJ;simp[Q8,QP hi,hi]
def QwB(l:List Nc)(hl:l.length<1048576):Zh prog 195 [Xh l] (Qo (Mx (Wm l))):=by
 refine Qww (Mx (Wm l)) rfl (?_:∀d hh,(∃g n row,d=.ref 0 g 0 (Wm l).length/\hh=[⟨.arr,g,1,n,row⟩]/\(∀i,i<n->(row i).all D.Y6=true)/\(Wm l).length<=n/\∀i,i<(Wm l).length->row i=[uI ((Wm l).getD i 0)])->_) ?_
 ·rintro d hh ⟨g,n,row,rfl,rfl,Z6,hn,Zx⟩;right;refine⟨0,g,1,n,row,rfl,Z6,?_⟩;have e1:D.fz 0 g n 1 row (.ref 0 g 0 (Wm l).length)=.imm 1 (Wm l).length (rowFrom 0 row):=by simp[D.fz,GU,hn]
  rw[e1];simp only[Mx];rw[Up];refine⟨rfl,rfl,λi hi=>?_⟩;rw[G0,JG,Zx i hi];exact Af (xN _) _
 refine Zy 1 Qh 200 func195 rfl ntmps195 results195 rfl λbase w hb=>?_;simp only[go_sem];refine ZZ (λi s=>∃g row,wF (λn:Int=>[uI n]) (WA (l.take i)) 0 row/\s=⟨[(3,.ref 0 g 0 (WA (l.take i)).length),(7,Xh l),(8,Qb l.length),(9,Qb i)],[⟨.arr,g,1,(WA (l.take i)).length,row⟩]⟩) l.length
  (s0:=⟨[(3,.ref 0 0 0 0),(7,Xh l),(8,Qb l.length),(9,Qb 0)],[⟨.arr,0,1,0,λ_=>[]⟩]⟩)
  (QI.trans (QI.Ch 3 1 (λi=>[]) rfl) QO) ⟨0,λ_=>[],.nil,rfl⟩ ?_
 rintro i s hi ⟨g,row,hr,rfl⟩;have Z6:=mH l i;have Zq:=Vp (show i<4611686018427387904 by omega);apply ZC hb;first|refine Ad hi (λQs=>?_) (λQs=>?_)|refine Ae hi (λQs=>?_) (λQs=>?_)
 ·obtain⟨M,hM⟩:∃M,M=WA (l.take i):=⟨_,rfl⟩;obtain⟨e,he⟩:∃e,e=l.getD i default:=⟨_,rfl⟩;have Jg:=Qwx l i Qs;rw[<- hM,<- he]at Jg;rw[<- hM]at hr Z6 ⊢;have yg:M.length<=4294967295:=by omega
  have Jr:wF (λn:Int=>[uI n]) (M++[(e.d:Int)]) 0 (J2 M.length 0 row λ_=>[uI e.d]):=hr.app (e.d:Int) rfl;simp only[go_sem,Qs,<- he];refine Wj hb CO (Pz e.a e.d e.b) (Qo.flat rfl) λd h hR=>?_;obtain⟨rfl,rfl⟩:=hR;apply ZC hb;cases e3:Ve e.a e.d e.b==3
  ·cases e4:Ve e.a e.d e.b==4
   ·have hb:DF e=false:=by show (Ve e.a e.d e.b==3 || Ve e.a e.d e.b==4)=false;rw[e3,e4];rfl
    rw[hb,Qd (by decide)]at Jg;simp only[go_sem,e3,e4,Go.undef];repeat (refine And.intro (by omega) ?_)
    refine⟨_,QI.to 1 ⟨?_,by simp only[go_sem],?_,?_⟩,g,row,by rw[Jg];exact hr,rfl⟩
    ·simp only[go_sem,Zq,Jg,ZX,zV]
    ·exact⟨λj hj=>hr.upto (λa=>rfl) j (by have VD:=hj;simp only[Jg]at VD;simpa using VD),trivial⟩
    ·simp only[go_sem,Jg,ZX,zV]
   ·have hb:DF e=true:=by show (Ve e.a e.d e.b==3 || Ve e.a e.d e.b==4)=true;rw[e3,e4];rfl
    rw[hb,Qg rfl]at Jg;simp only[go_sem,e3,e4,Go.undef,yg];repeat (refine And.intro (by omega) ?_)
    refine⟨_,QI.to 1 ⟨?_,by simp only[go_sem],?_,?_⟩,g+1,_,by rw[Jg];exact Jr,rfl⟩
    ·simp only[go_sem,Zq,Jg,ZX,zV]
    ·exact⟨λj hj=>Jr.upto (λa=>rfl) j (by have VD:=hj;simp only[Jg]at VD;simpa using VD),trivial⟩
    ·simp only[go_sem,Jg,ZX,zV]
  ·have hb:DF e=true:=by show (Ve e.a e.d e.b==3 || Ve e.a e.d e.b==4)=true;rw[e3];rfl
   rw[hb,Qg rfl]at Jg;simp only[go_sem,e3,Go.undef,yg];repeat (refine And.intro (by omega) ?_)
   refine⟨_,QI.to 1 ⟨?_,by simp only[go_sem],?_,?_⟩,g+1,_,by rw[Jg];exact Jr,rfl⟩
   ·simp only[go_sem,Zq,Jg,ZX,zV]
   ·exact⟨λj hj=>Jr.upto (λa=>rfl) j (by have VD:=hj;simp only[Jg]at VD;simpa using VD),trivial⟩
   ·simp only[go_sem,Jg,ZX,zV]
 ·have h1:i=l.length:=by omega
  subst h1;rw[zW]at hr ⊢;have Je:(WA l).toArray.size=(WA l).length:=rfl;have ZW:(WA l).length<=l.length:=by have:=mH l l.length;rw[zW]at this;exact this
  have aO:=mI l;have hcn:=Mw (λi=>(zH l)[i]!) (zH l).size;apply ZC hb;refine GW (QI.rows 0 (AJ (WA l).toArray) (by exact rfl) ?_) ?_
  ·intro i hi;dsimp only at hi ⊢;exact QwA hr i hi
  simp only[go_sem];refine KW hb Qsh rfl ?_ (Qwm (h:=[Q6 g (WA l).toArray]) (lo:=0) (g:=g) (d:=(WA l).toArray) rfl (by rw[Je];omega)) rfl λd h hR=>?_
  ·simp only[go_sem,Eg]
  obtain⟨rfl,t,rfl⟩:=hR;refine Qf hb ?_;simp only[go_sem,Eg];refine Jl hb Qsi (aO▸Qwo (h:=[Q6 g (WA l).toArray].set 0 (Q6 g (zH l))++t) (lo:=0) (g:=g) (d:=zH l) rfl (by omega)) λd h hR=>?_;obtain⟨rfl,qO,rfl,QwC,Vo⟩:=hR;apply ZC hb;refine⟨λi hi=>?_,g,(WA l).length,qO,?_,rfl,λi hi=>?_,?_,?_⟩
  ·obtain⟨x,hx⟩:=Vo i;rw[hx];rfl
  ·unfold Wm;rw[aO]
  ·obtain⟨x,hx⟩:=Vo i;rw[hx];rfl
  ·unfold Wm;omega
  ·intro i hi;have:=QwC i (by unfold Wm at hi;rw[aO]at hi;exact hi);rw[this];unfold Wm;rw[aO];rfl
def QwD(F:List Ob)(f nf:Nat)(Qz:List D)(K:List Int)(g:Int->Bool):Prop:=∀(h:List Ob) (x:Int),x∈K->KZ F h->Zg prog f h (Jj nf Qz [uI x]) (λd=>d=QY (g x))
def vG(g:Int->Bool)(l:List Int):Int:=match l.findIdx? g with
 | some i=>i
 | none=>-1
def QwE{g}{l:List Int}{k}(hk:k<l.length)(h:∀i,i<k->g (l.getD i 0)=false)(hg:g (l.getD k 0)=true):vG g l=k:=by
 have e:l.findIdx? g=some k:=by
  rw[Ec];refine⟨hk,by simpa[Q8,hk] using hg,λi hi=>?_⟩;have:=h i hi;simpa[Q8,show i<l.length by omega] using this
 rw[vG,e]
def QwF{g}{l:List Int}(h:∀i,i<l.length->g (l.getD i 0)=false):vG g l=-1:=by
 have e:l.findIdx? g=none:=by
  rw[Ge];intro x hx;obtain⟨i,hi,rfl⟩:=yE hx;have:=h i hi;simpa[Q8,hi] using this
 rw[vG,e]
def QwG(g)(l:List Int):decide (0<=vG g l)=l.any g:=by
 unfold vG;cases h:l.findIdx? g with
 | some i=>
  obtain⟨h1,h2,_⟩:=Ec.1 h;have e:l.any g=true:=Eb.2 ⟨_,qz h1,h2⟩;rw[e];simp
 | none=>
  have:=Ge.1 h;have e:l.any g=false:=by rw[List.any_eq_false];intro x hx;simp[this x hx]
  rw[e];decide
def QwH{g}{l:List Int}(h:0<=vG g l):(vG g l).toNat<l.length:=by
 unfold vG at h ⊢;cases e:l.findIdx? g with
 | some i=>obtain⟨h1,_⟩:=Ec.1 e;simpa using h1
 | none=>rw[e]at h;simp at h
def QwI{l:List Int}{i}(h:i<l.length):l.getD i 0∈l:=by
 rw[Q8,QP h];exact qz h
section
variable (h:List Ob)(K:List Int)(hlen:K.length<1048576)
include hlen
theorem QwJ(so:D)(f nf:Nat)(Qz:List D)(hf:Qq prog f)(Vd:J4 so=some (f,nf,Qz))(gk:Int->Bool)(hg:QwD (h.map Ob.ro) f nf Qz K gk):
  Zg prog 196 h [Mx K,so] (λd=>d=Qb (vG gk K)):=by
 refine Zt Qh 200 func196 rfl ntmps196 results196 rfl λbase w pl F hF Za hb=>?_;simp only[go_sem,Qa];refine ZZ (λk s=>(∀i,i<k->gk (K.getD i 0)=false)/\s=⟨[(0,Mx K),(1,so),(7,Qb K.length),(8,Qb k)],F⟩) K.length QO ⟨λi hi=>absurd hi (by omega),rfl⟩ ?_;rintro k s hk ⟨hn,rfl⟩;apply Q1 hb;have Zq:=Vp (show k<4611686018427387904 by omega);first|refine Ad hk (λQs=>?_) (λQs=>?_)|refine Ae hk (λQs=>?_) (λQs=>?_)
 ·simp only[go_sem,Qa,Qs];refine ZT hb hf Vd ?_ (hg F (K.getD k 0) (QwI Qs) (by rw[<- hF];exact KZ.refl F)) rfl λd2 hR=>?_
  ·simp only[go_sem];exact Bz _
  subst hR;refine Qf hb ?_;cases zn:gk (K.getD k 0)
  ·simp only[go_sem,Qa];refine⟨Qs,_,QI.frame (fr':=[(0,Mx K),(1,so),(7,Qb K.length),(8,Qb (k+1:Nat))]) (by simp only[go_sem,Zq]),λi hi=>?_,rfl⟩;by_cases h1:i<k
   ·exact hn i h1
   ·have:i=k:=by omega
    subst this;exact zn
  ·rw[QwE Qs hn zn];simp only[go_sem,Qa];exact⟨[],(Zd F).symm⟩
 ·have Qs:k=K.length:=by omega
  subst Qs;simp only[go_sem,Gj];rw[QwF hn];apply Q1 hb;exact⟨[],(Zd F).symm⟩
end
def QwK(l:List Nc):(Wm l).length<=l.length:=by
 have h1:=Mw (λi=>(zH l)[i]!) (zH l).size;have h2:=mI l;have h3:=mH l l.length;rw[zW]at h3;unfold Wm;omega
def QwL{l}{x}(hx:x∈Wm l):∃n:Nat,x=(n:Int)/\0<n/\n<=1048576:=by
 obtain⟨c,h1,h2,h3⟩:=(Qwz l x).1 hx;refine⟨c.d,h3.symm,?_⟩;unfold DF Nc.of Ve at h2;simp only[yD,zY]at h2
 repeat' split at h2
 all_goals first|omega|(exfalso;revert h2;decide)|skip
def PS(l:List Nc)(k:Nat):Nat:=BH (λc=>vC c.a c.d c.b k) l
def AN(t:Nat)(l:List Nc)(x:Int):Bool:=decide (65536*x.toNat<PS l x.toNat*t)
def QwM{l:List Nc}(hl:l.length<1048576)(hc:∀c∈l,c.Lt){k}(hk:k<=1048576):PS l k<2 ^ 111:=by
 have h1:=an (g:=λc=>vC c.a c.d c.b k) (M:=2 ^ 60) (λc h=>by
  show vC c.a c.d c.b k<=_;unfold vC;split
  ·decide
  ·rename_i h0;obtain⟨b1,b2,b3⟩:=lz h0;have e1:c.a*min k c.d<=4294967295*1048576:=kO b1 (by omega);have e2:c.b*(k - min k c.d)<=4294967295*1048576:=kO b2 (by omega);omega) (l:=l) (s:=0) hc
 have h2:=Yp (2 ^ 60) (show l.length<=1048576 by omega);unfold PS BH;omega
def mJ(t:Nat)(l:List Nc):Bool:=decide (65536<BH (λc=>c.b) l*t)
def mK(t:Nat)(l:List Nc):Bool:=(Wm l).any (AN t l) || mJ t l
def mL(t:Nat)(l:List Nc):D:=if (Wm l).any (AN t l)=true then .tup [uI ((Wm l).getD (vG (AN t l) (Wm l)).toNat 0),QY true] else .tup [u64 0,QY (mJ t l)]
def QwN{l:List Nc}(hl:l.length<1048576)(hc:∀c∈l,c.Lt):BH (λc=>c.b) l<2 ^ 111:=by
 have h1:=an (g:=λc=>c.b) (M:=2 ^ 64) (λc h=>by have:=h.2.2;omega) (l:=l) (s:=0) hc;have h2:=Yp (2 ^ 64) (show l.length<=1048576 by omega);unfold BH;omega
def QwO(h:List Ob)(t:Nat)(l:List Nc)(hl:l.length<1048576)(hc:∀c∈l,c.Lt)(ht:t<=65536)(b1 b2:Nat)(h1:(h.map Ob.ro)[b1]? = some ⟨.Wd,0,1,1,λ_=>[Xh l]⟩)(h2:(h.map Ob.ro)[b2]? = some ⟨.Wd,0,1,1,λ_=>[Qb t]⟩)(n:Nat)(hn:n<=1048576):
  Zg prog 197 h [uI n,.ptr b1 0 0 0,.ptr b2 0 0 0] (λd=>d=QY (AN t l n)):=by
 have hs:Zh prog 199 [Xh l,u64 n] (Qo (num (PS l n))):=Qu3 l n (by omega) hl hc;have ha:=QfO (PS l n) t n (QwM hl hc hn) ht (by omega);refine Zt Qh 200 func197 rfl ntmps197 results197 rfl λbase w pl F hF Za hb=>?_;rw[<- hF]at h1 h2;have QG:=Qc h1;have KE:=Qc h2;simp only[go_sem,Qa,h1,QG,h2,KE];apply QH hb [0,1,3,4,1002,1005,6];simp only[go_sem,Qa,h1,QG,h2,KE];refine KB hb Qr5 rfl ?_ hs (Qo.flat rfl) rfl λd h hR=>?_
 ·simp only[go_sem,Qa,h1,QG,h2,KE]
 obtain⟨rfl,rfl⟩:=hR;refine Zb hb ?_;simp only[go_sem,Qa,h1,QG,h2,KE];refine Pc hb QdT ha (Qo.flat rfl) λd h hR=>?_;obtain⟨rfl,rfl⟩:=hR;apply XN hb;exact⟨[],(Zd F).symm,rfl⟩
def QwP(t:Nat)(l:List Nc)(hl:l.length<1048576)(hc:∀c∈l,c.Lt)(hm:yf t l=0):Zh prog 159 [Qb t,Xh l] (Qo (mL t l)):=by
 have ht:t<=65536:=by unfold yf at hm;split at hm;cases hm;omega
 have Vb:=QfO (BH (λc=>c.b) l) t 1 (QwN hl hc) ht (by decide);have e0:(yf t l != 0)=false:=by rw[hm];rfl
 have Pf:=QwK l;refine Zy 0 Qh 200 func159 rfl ntmps159 results159 rfl λbase w hb=>?_;simp only[go_sem];refine ZA hb Uy rfl ?_ (aN t l hl) (Qo.flat rfl) rfl λd h hR=>?_
 ·simp only[go_sem,e0]
 obtain⟨rfl,rfl⟩:=hR;refine Qf hb ?_;simp only[go_sem,e0];refine xM hb [] Qr2 rfl ?_ (QwB l hl) rfl λd h hR=>?_
 ·simp only[go_sem]
 obtain⟨rfl,rfl⟩:=hR;simp only[go_sem];apply ZC hb;have UZ:=QwJ [⟨.one,0,1,1,λ_=>[Qb t]⟩,⟨.one,0,1,1,λ_=>[Xh l]⟩] (Wm l) (by omega) (.clo 197 0 [.ptr 1 0 0 0,.ptr 0 0 0 0]) 197 0 [.ptr 1 0 0 0,.ptr 0 0 0 0] Qr4 rfl (AN t l) (λh' x hx hF'=>by
  obtain⟨n,rfl,wK,Ka⟩:=QwL hx;obtain⟨g',rfl⟩:=hF';exact QwO _ t l hl hc ht 1 0 rfl rfl n Ka)
 refine ZT hb Qr3 rfl ?_ UZ rfl λd2 hR=>?_
 ·simp only[go_sem];try exact Bz _
 subst hR;have CX:=QwG (AN t l) (Wm l);unfold mL;cases hA:(Wm l).any (AN t l)
 ·rw[hA]at CX;rw[Qd (by decide)];refine Qf hb ?_;simp only[go_sem,CX];apply QH hb [0,2,1001,1003,4,5];simp only[go_sem];refine K9 hb Qr6 (Qu1 l hl hc) (Qo.flat rfl) λd h hR=>?_;obtain⟨rfl,rfl⟩:=hR;apply V6 hb;refine K9 hb QdT Vb (Qo.flat rfl) λd h hR=>?_;obtain⟨rfl,rfl⟩:=hR;apply V6 hb;rfl
 ·rw[hA]at CX;rw[Qg rfl];have h0:0<=vG (AN t l) (Wm l):=YV CX;have h1:=QwH h0;obtain⟨j,hj⟩:∃j:Nat,vG (AN t l) (Wm l)=(j:Int):=⟨(vG (AN t l) (Wm l)).toNat,by omega⟩;rw[hj]at CX h1 ⊢;rw[Int.toNat_natCast]at h1;refine Qf hb ?_;simp only[go_sem,CX,hj,h1];first|rfl|exact⟨rfl,rfl⟩|trace_state
def BR(t:Int)(l:List Nc):Int:=if yf t l≠0 then yf t l else if mK t.toNat l=true then 22 else 0
def QwR(t)(l:List Nc)(hl:l.length<1048576)(hc:∀c∈l,c.Lt):Zh prog 120 [Qb t,Xh l] (Qo (Qb (BR t l))):=by
 by_cases hm:yf t l=0
 ·have ht:∃n:Nat,t=(n:Int):=⟨t.toNat,by unfold yf at hm;split at hm;cases hm;omega⟩;obtain⟨n,rfl⟩:=ht;have e0:(yf n l != 0)=false:=by rw[hm];rfl
  have e:BR n l=if mK n l=true then 22 else 0:=by rw[BR,Qd (by simpa using hm)];rfl
  rw[e];have hF:=QwP n l hl hc hm;unfold mL at hF;unfold mK;cases hA:(Wm l).any (AN n l)
  ·rw[hA,Qd (by decide)]at hF;rw[NA];refine Zy 0 Qh 200 func120 rfl ntmps120 results120 rfl λbase w hb=>?_;simp only[go_sem];refine ZA hb Uy rfl ?_ (aN n l hl) (Qo.flat rfl) rfl λd h hR=>?_
   ·simp only[go_sem,e0]
   obtain⟨rfl,rfl⟩:=hR;refine Qf hb ?_;simp only[go_sem,e0];refine Wj hb QdL hF (Qo.flat rfl) λd h hR=>?_;obtain⟨rfl,rfl⟩:=hR;apply ZC hb;cases mJ n l
   ·simp only[go_sem]
   ·simp only[go_sem]
  ·rw[hA,Qg rfl]at hF;rw[Bool.true_or,Qg rfl];refine Zy 0 Qh 200 func120 rfl ntmps120 results120 rfl λbase w hb=>?_;simp only[go_sem];refine ZA hb Uy rfl ?_ (aN n l hl) (Qo.flat rfl) rfl λd h hR=>?_
   ·simp only[go_sem,e0]
   obtain⟨rfl,rfl⟩:=hR;refine Qf hb ?_;simp only[go_sem,e0];refine Wj hb QdL hF (Qo.flat rfl) λd h hR=>?_;obtain⟨rfl,rfl⟩:=hR;exact xY hb
 ·have e0:(yf t l != 0)=true:=by simpa using hm
  have e:BR t l=yf t l:=by rw[BR,Qg hm]
  rw[e];refine Zy 0 Qh 200 func120 rfl ntmps120 results120 rfl λbase w hb=>?_;simp only[go_sem];refine ZA hb Uy rfl ?_ (aN t l hl) (Qo.flat rfl) rfl λd h hR=>?_
  ·simp only[go_sem,e0]
  obtain⟨rfl,rfl⟩:=hR;refine Qf hb ?_;simp only[go_sem,e0]
end Go.Fg.X
namespace Go.Fg.X
open Go.Proofs Go.Fg
end Go.Fg.X
namespace Go.Fg.X
open Go.Proofs Go.Fg
open Go.Proofs.Tryz
@[go_sem] def oDg(n:Nat):Ob:=⟨.one,0,4,1,λ_=>[u64 (d0 n),u64 (d1 n),u64 (d2 n),u64 (d3 n)]⟩
end Go.Fg.X
namespace Go.Fg.X
open Go.Proofs Go.Fg
end Go.Fg.X
namespace Go.Fg.X
open Go.Proofs Go.Fg
open Go.Proofs.Tryz
def QgJ:IntKind.i64.wrap 2=2:=by decide
end Go.Fg.X
namespace Go.Fg.X
open Go.Proofs Go.Fg
end Go.Fg.X
namespace Go.Fg.X
open Go.Proofs Go.Fg
open Go.RowKit (Below)
end Go.Fg.X
namespace Go.Fg.X
open Go.Proofs Go.Fg
end Go.Fg.X
namespace Go.Fg.X
open Go.Proofs Go.Fg
end Go.Fg.X
namespace Go.Fg.X
open Go.Proofs Go.Fg
open Go.Proofs.Tryz
def QgK{α:Type}[Inhabited α](L:List α)(g)(i:Nat)(h:i<L.length):(L.take (i+1)).filter g=if g (L.getD i default)=true then (L.take i).filter g++[L.getD i default] else (L.take i).filter g:=by
 rw[Eh,QP h];simp only[Option.toList_some,NB,Q8,QP h,KS];by_cases hg:g L[i]=true
 ·rw[Qg hg,ND hg];rfl
 ·rw[Qd hg,NC hg];simp
def QwS{α:Type}(L:List α)(g:α->Bool)(i:Nat):((L.take i).filter g).length<=i:=by
 have:=Yo g (L.take i);simp at this;omega
end Go.Fg.X
namespace Go.Fg.X
open Go.Proofs Go.Fg
end Go.Fg.X
namespace Go.Fg.X
open Go.Proofs Go.Fg
open Go.Proofs.Tryz
def ko(g:Int->Bool)(l:List Int):List Int:=l.filter λx=>!g x
def QwT{g}{l:List Int}:(vm g l=-1/\ko g l=l)\/∃i,i<l.length/\vm g l=(i:Int)/\g (l.getD i 0)=true/\(l.take (i+1)).filter (λx=>!g x)=l.take i:=by
 unfold vm;cases h:l.findIdx? g with
 | none=>
  refine .inl ⟨rfl,xi.2 λx hx=>?_⟩;simp[Ge.1 h x hx]
 | some i=>
  obtain⟨h1,h2,h3⟩:=Ec.1 h;refine .inr ⟨i,h1,rfl,by simpa[Q8,h1] using h2,?_⟩;rw[QgK l _ i h1,Qd (by simpa[Q8,h1] using h2)];refine xi.2 λx hx=>?_;obtain⟨j,hj,rfl⟩:=yE hx;simp at hj;simpa using h3 j (by omega)
section
variable (h:List Ob)(l:List Int)(lo gn off:Nat)(row:Nat->List D)(hlen:l.length<1000000)(ho:h[lo]? = some ⟨.arr,gn,1,off+l.length,row⟩)(hr:∀i,i<l.length->row (off+i)=[Qb (l.getD i 0)])
include hlen ho hr
end
def Kr(c:Cv):Nc:=⟨c.m1.toNat,c.d.toNat,c.m2.toNat⟩
def QwU{c:Cv}(h:c.Nn):((Kr c).a:Int)=c.m1:=Gc h.1
def QwV{c:Cv}(h:c.Nn):((Kr c).d:Int)=c.d:=Gc h.2.1
def QwW{c:Cv}(h:c.Nn):((Kr c).b:Int)=c.m2:=Gc h.2.2
def QwX{c:Cv}(h:c.Nn):(Kr c).cells=c.cells:=by simp only[Nc.cells,Cv.cells,u64,QwU h,QwV h,QwW h]
def aP(x:Qn):Bool:=decide (1<QZ x.rt)
def XR(L:List Qn):List Nc:=(L.filter aP).map λx=>Kr x.rt
def QwY(L:List Qn):(XR L).length<=L.length:=by
 have:=Yo aP L;unfold XR;rw[J6];exact this
section
variable (h:List Ob)(t m c:Nat){es:List QR}{L:List Qn}(T:K7 es L)(hlen:L.length<1000000)
 (ht:(h.map Ob.ro)[t]? = some ⟨.Wd,0,1,1,λ_=>[.mref m 0]⟩) (hm:(h.map Ob.ro)[m]? = some (QM .i64 c es).ro)
include T ht hm hlen
theorem QwZ(hn:∀c∈L,c.Nn):Wf prog 121 h [.ptr t 0 0 0] (λd g=>(d=.nil/\XR L=[])\/∃lo gn row,d=.ref lo gn 0 (XR L).length/\h.length<=lo/\(h++g)[lo]? = some ⟨.arr,gn,3,(XR L).length,row⟩/\wF Nc.cells (XR L) 0 row):=by
 refine Ai Qh 200 func121 rfl ntmps121 results121 rfl λbase w pl F hF Za hb=>?_;rw[<- hF]at ht hm;have Zi:=Qc ht;have QK:=Qc hm;simp only[go_sem,Qa,ht,Zi,hm,QK];have hT:OS (F.map Ob.ro) 130 0 [] aP:=λh' x wa=>by
  refine Zt Qh 200 func130 rfl ntmps130 results130 rfl λbase w pl F hF Za hb=>?_;simp only[go_sem,Qa];refine Ax hb Ux (UK x.rt) (Qo.flat rfl) λd h hR=>?_;obtain⟨rfl,rfl⟩:=hR;apply Q1 hb;exact⟨_,rfl,rfl⟩
 obtain⟨K,hK⟩:∃K,K=L.filter aP:=⟨_,rfl⟩;have hKl:K.length<=L.length:=by rw[hK];exact Yo _ _
 have hRl:XR L=K.map λx=>Kr x.rt:=by rw[hK];rfl
 refine E9 hb Us rfl ?_ (UN _ t m c T hlen (ZM ht) (G8 hm) (.raw (.func (.func 130) ⟨[]⟩ ⟨[]⟩)) 130 0 [] Bu rfl _ hT) rfl λd g hs=>?_
 ·simp only[go_sem]
 rw[<- hK]at hs;rcases hs with ⟨rfl,h3⟩|⟨lo,gn,off,row,rfl,ZE,ho,hr⟩
 ·have hR0:XR L=[]:=by
   rw[hRl];have:K=[]:=by simpa using h3
   rw[this];rfl
  apply Q1 hb;refine ZZ (λi s=>s=⟨[(3,.nil),(8,Qb 0),(9,Qb 0)],F++g⟩) 0 QO rfl ?_;rintro i s hi rfl;apply Q1 hb;apply Q1 hb;exact⟨_,rfl,.inl hR0⟩
 ·obtain⟨G,hG⟩:∃G,G=F++g:=⟨_,rfl⟩;have mM:KZ F G:=⟨g,hG⟩;have mN:=mM.get ht;have mO:=mM.get hm;rw[<- hG]at ho ⊢;have QgM:=Qc mN;have QgN:=Qc mO;have Qe:=Qc ho;rw[J6]at ho hr;have My:=mM.len;apply Q1 hb;refine ZZ (λi s=>∃gm PT rest,wF Nc.cells ((K.take i).map λx=>Kr x.rt) 0 PT/\s=⟨[(0,.ptr t 0 0 0),(3,.ref G.length gm 0 ((K.take i).map λx=>Kr x.rt).length),(7,.ref lo gn off K.length),(8,Qb K.length),(9,Qb i)],G++(⟨.arr,gm,3,((K.take i).map λx=>Kr x.rt).length,PT⟩::rest)⟩) K.length
   (s0:=⟨[(0,.ptr t 0 0 0),(3,.ref G.length 0 0 0),(7,.ref lo gn off K.length),(8,Qb K.length),(9,Qb 0)],G++[⟨.arr,0,3,0,λ_=>[]⟩]⟩)
   (QI.trans (QI.Ch 3 3 (λi=>[]) rfl) (QI.frame (by simp only[go_sem,J6]))) ⟨0,λ_=>[],[],.nil,rfl⟩ ?_
  rintro i s hi ⟨gm,PT,rest,Jr,rfl⟩;have Zq:=Vp (show i<4611686018427387904 by omega);refine Qf hb ?_;simp only[go_sem,Qa,mN,mO,QgM,QgN,ho,Qe];first|refine Ad hi (λQs=>?_) (λQs=>?_)|refine Ae hi (λQs=>?_) (λQs=>?_)
  ·obtain⟨x,hx⟩:∃x,x=K.getD i default:=⟨_,rfl⟩;have hxK:x∈K:=by rw[hx,Q8,QP Qs];exact qz Qs
   have hxL:x∈L:=by rw[hK]at hxK;exact(JE.1 hxK).1
   have V8:Qy L x.iD=some x:=(Wy T.sorted).2 ⟨hxL,rfl⟩;have ql:=T.look x.iD;rw[V8,Kt]at ql;have YF:=hr i (by simpa using Qs);have Qw1:(K.map (·.iD)).getD i 0=x.iD:=by
    rw[hx,Q8,Q8,Ky,QP Qs];rfl
   rw[Qw1]at YF;have Jg:(K.take (i+1)).map (λx=>Kr x.rt)=(K.take i).map (λx=>Kr x.rt)++[Kr x.rt]:=by
    rw[Eh,QP Qs,hx,Q8,QP Qs,vS];rfl
   obtain⟨M,hM⟩:∃M,M=(K.take i).map λx=>Kr x.rt:=⟨_,rfl⟩;have hMl:M.length<=i:=by rw[hM,J6,List.length_take];omega
   have yg:M.length<=4294967295:=by omega
   rw[<- hM]at Jg Jr ⊢;have wN:=Jr.app (Kr x.rt) (r2:=λ_=>(Kr x.rt).cells) rfl;rw[QwX (hn x hxL).1]at wN;simp only[go_sem,Qa,Qs,mN,mO,QgM,QgN,ho,Qe,YF,ql,yg];refine⟨by omega,_,QI.frame (fr':=[(0,.ptr t 0 0 0),(3,.ref G.length (gm+1) 0 (M.length+1)),(7,.ref lo gn off K.length),(8,Qb K.length),(9,Qb (i+1:Nat))]) (by simp only[go_sem,Zq]),gm+1,_,rest++[⟨.arr,0,3,1,λ_=>x.rt.cells⟩],by rw[Jg];exact wN,?_⟩;rw[Jg,ZX];rfl
  ·have h1:i=K.length:=by omega
   subst h1;rw[zW,<- hRl]at Jr ⊢;apply Q1 hb;refine⟨g++(⟨.arr,gm,3,(XR L).length,PT⟩::rest),by rw[hG,Wb],.inr ⟨G.length,gm,PT,rfl,by omega,?_,Jr⟩⟩;have hle:G.length=(h++g).length:=by rw[hG,ZX,ZX,Za]
   rw[<- Wb,hle,JT (QD _),Cd];rfl
theorem Qw2(hn:∀c∈L,c.Nn):Zg prog 121 h [.ptr t 0 0 0] (λd=>d=Xh (XR L)):=by
 refine Qfa (Xh (XR L)) (λk=>rfl) ?_ (QwZ h t m c T hlen ht hm hn);rintro d g (⟨rfl,h3⟩|⟨lo,gn,row,rfl,ZE,ho,hr⟩)
 ·left;rw[h3];simp only[go_sem]
 ·right;refine⟨lo,gn,3,_,row,ZE,ho,λi hi=>?_,?_⟩
  ·obtain⟨a,ha⟩:=hr.all i (by simpa using hi);rw[ha];rfl
  ·have e1:D.fz lo gn (XR L).length 3 row (.ref lo gn 0 (XR L).length)=.imm 3 (XR L).length (rowFrom 0 row):=by simp[D.fz,GU]
   rw[e1];simp only[Xh];rw[Up];refine⟨rfl,rfl,λi hi=>?_⟩;have h1:=hr.at_ i hi;rw[JG]at h1;rw[G0,JG,h1,Nc.xO];exact Af (xN _) _
end
@[go_sem] def jI(n:Int):D:=.raw (.int .i64 n)
def HJ(d:Array Int):Nat->List D:=λi=>[jI d[i]!]
@[go_sem] theorem Qw3(d:Array Int)(i):HJ d i=[jI d[i]!]:=rfl
@[go_sem] def AO(g:Nat)(d:Array Int):Ob:=⟨.arr,g,1,d.size,HJ d⟩
def Qw4{h:List Ob}{lo g}{d}(hl:lo<h.length):(h.set lo (AO g d))[lo]? = some (AO g d):=Qv hl
def Qw5(g)(d:Array Int)(i n)(x)(hn:d.size=n)(hi:i<n):
  (⟨.arr,g,1,n,λk=>bif k==i then [.raw (.int .i64 x)] else [.raw (.int .i64 d[k]!)]⟩:Ob)=AO g (d.setIfInBounds i x):=by
 subst hn;unfold AO;congr 1
 ·simp
 ·funext k;unfold HJ jI;by_cases k1:k=i
  ·subst k1;simp[hi]
  ·have e1:(k==i)=false:=beq_eq_false_iff_ne.mpr k1;rw[e1];by_cases k3:k<d.size
   ·simp[k1,k3,Q3 k1,dh]
   ·simp[k1,k3]
def Qw6{h:List Ob}{lo g}{d:Array Int}(ho:h[lo]? = some (AO g d))(hz:d.size<1000000000):
  MFn prog 124 h [.ref lo g 0 d.size] (λdd h'=>dd=.ref lo g 0 (cN (λi=>d[i]!) d.size).length/\∃row,h'=h.set lo ⟨.arr,g,1,d.size,row⟩/\(∀i,i<(cN (λi=>d[i]!) d.size).length->row i=[jI ((cN (λi=>d[i]!) d.size).getD i 0)])/\∀i,∃x,row i=[jI x]):=by
 by_cases c2:d.size<2
 ·have e2:decide ((d.size:Int)<2)=true:=Q7 (by omega);have hlen:(cN (λi=>d[i]!) d.size).length=d.size:=by
   have:d.size=0\/d.size=1:=by omega
   rcases this with h0|h0<;>rw[h0]<;>rfl
  rw[hlen];refine QU Qh 200 func124 rfl ntmps124 results124 rfl λbase w pl hb=>?_;have Qe:=Qc ho;simp only[go_sem,Qa,ho,Qe,e2];exact⟨HJ d,(kj ho).symm,λi hi=>by rw[HF _ _ hlen i hi];rfl,λi=>⟨_,rfl⟩⟩
 ·have e2:decide ((d.size:Int)<2)=false:=QQ (by omega);refine QU Qh 200 func124 rfl ntmps124 results124 rfl λbase w pl hb=>?_;have Qe:=Qc ho;simp only[go_sem,Qa,ho,Qe,e2];refine ZZ (λk st=>k+1<=d.size/\(cN (λi=>d[i]!) (k+1)).length=k+1/\st=⟨[(0,.ref lo g 0 d.size),(3,Qb (k+1:Nat))],h⟩) d.size (s0:=⟨[(0,.ref lo g 0 d.size),(3,Qb (0+1:Nat))],h⟩) QO ⟨by omega,rfl,rfl⟩ ?_;rintro k _ hk ⟨Qs,Z6,rfl⟩;by_cases ck:k+1<d.size
  ·have ek:decide (k+1<d.size)=true:=Q7 ck;have v1:IntKind.i64.wrap (((k+1:Nat):Int) - 1)=((k:Nat):Int):=by rw[wrap64 (by omega) (by omega)];omega
   have v2:IntKind.i64.wrap (((k+1:Nat):Int)+1)=((k+1+1:Nat):Int):=by rw[wrap64 (by omega) (by omega)];omega
   have p0:k<d.size:=by omega
   refine Qf hb ?_;simp only[go_sem,Qa,ho,Qe,ek];apply QH hb [0,1,2,3,4,5,6,7,8,9];simp only[go_sem,Qa,ho,Qe,v1,ck,p0];by_cases YZ:d[k+1]! = d[k]!
   ·have HG:(d[k+1]! == d[k]!)=true:=beq_iff_eq.mpr YZ;have Jp:(cN (λi=>d[i]!) (k+1+1)).length=k+1:=by
     rw[cN,Qg ⟨by omega,by simpa using YZ⟩,Z6]
    have q0:k+1<=d.size:=by omega
    generalize hN:d.size - (k+1)=N;have v3:((d.size:Int) - ((k+1:Nat):Int)).toNat=N:=by omega
    simp only[go_sem,HG,q0,hN,Qa,ho,Qe,v3];refine ZZ (λm st=>∃(d1:Array Int),d1.size=d.size/\m+1<=N/\(cN (λi=>d[i]!) (k+1+(m+1))).length<=k+1+m/\(∀i,i<(cN (λi=>d[i]!) (k+1+(m+1))).length->d1[i]! = (cN (λi=>d[i]!) (k+1+(m+1))).getD i 0)/\(∀j,(cN (λi=>d[i]!) (k+1+(m+1))).length<=j->d1[j]! = d[j]!)/\st=⟨[(0,.ref lo g 0 d.size),(3,Qb (cN (λi=>d[i]!) (k+1+(m+1))).length),(4,.ref lo g (k+1) N),(5,Qb (m+1:Nat))],h.set lo (AO g d1)⟩) N (s0:=⟨[(0,.ref lo g 0 d.size),(3,Qb (cN (λi=>d[i]!) (k+1+(0+1))).length),(4,.ref lo g (k+1) N),(5,Qb (0+1:Nat))],h.set lo (AO g d)⟩) ?_ ⟨d,rfl,by omega,Nat.le_of_eq Jp,λi hi=>?_,λj hj=>rfl,rfl⟩ ?_
    ·rw[kj ho,Jp];exact QO
    ·rw[cN,Qg ⟨by omega,by simpa using YZ⟩]at hi ⊢;exact(HF _ _ Z6 i (by omega)).symm
    rintro m _ hm ⟨d1,ZG,hmN,Pf,HH,DC,rfl⟩;have Zu:=Qw4 (g:=g) (d:=d1) Qe;have DD:cN (λi=>d[i]!) (k+1+(m+1+1))=if d[k+1+(m+1)]! = d[k+1+m]! then cN (λi=>d[i]!) (k+1+(m+1)) else cN (λi=>d[i]!) (k+1+(m+1))++[d[k+1+(m+1)]!]:=by
     rw[show k+1+(m+1+1)=(k+1+(m+1))+1 by omega,cN];simp
    generalize hC:cN (λi=>d[i]!) (k+1+(m+1))=C at *;generalize hH:h.set lo (AO g d1)=H at Zu;have Kf:=Qc Zu;by_cases cm:m+1<N
    ·have em:decide (m+1<N)=true:=Q7 cm;have r1:=DC (k+1+(m+1)) (by omega);have r2:=DC (k+1+m) (by omega);have u1:k+1+(m+1)<d.size:=by omega
     have u2:k+1+m<d.size:=by omega
     have u3:m<N:=by omega
     have w1:IntKind.i64.wrap (((m+1:Nat):Int) - 1)=(m:Int):=by rw[wrap64 (by omega) (by omega)];omega
     have w2:IntKind.i64.wrap (((m+1:Nat):Int)+1)=((m+1+1:Nat):Int):=by rw[wrap64 (by omega) (by omega)];omega
     have w3:IntKind.i64.wrap ((C.length:Int)+1)=((C.length+1:Nat):Int):=by rw[wrap64 (by omega) (by omega)];omega
     refine Qf hb ?_;simp only[go_sem,Qa,Zu,Kf,em];apply QH hb [0,1,2,3,4,5,6,7,8,9];simp only[go_sem,Qa,Zu,Kf,ZG,w1,cm,u1,u2,u3,r1,r2];by_cases cq:d[k+1+(m+1)]! = d[k+1+m]!
     ·have nq:(d[k+1+(m+1)]! != d[k+1+m]!)=false:=by rw[cq];exact bne_self_eq_false _
      rw[Qg cq]at DD;simp only[go_sem,nq,w2];rw[DD];refine⟨by omega,_,?_,d1,ZG,by omega,by omega,HH,DC,rfl⟩;rw[<- hH];exact QO
     ·have nq:(d[k+1+(m+1)]! != d[k+1+m]!)=true:=bne_iff_ne.mpr cq;have u4:C.length<d.size:=by omega
      rw[Qd cq]at DD;simp only[go_sem,nq,w2,w3,Qa,Zu,Kf,ZG,u1,cm,u4,r1];rw[Qw5 g d1 _ _ _ ZG u4,DD];refine⟨by omega,_,?_,d1.setIfInBounds C.length d[k+1+(m+1)]!,by simp;exact ZG,by omega,by simp;omega,λi hi=>?_,λj hj=>?_,rfl⟩
      ·rw[<- hH,Ji,ZX,zV];exact QO
      ·simp only[ZX,zV]at hi;by_cases e:i=C.length
       ·subst e;rw[Q8,JT (QD _),Cd];simp[ZG,u4]
       ·rw[Q8,Jy (by omega),<- Q8,<- HH i (by omega)];simp[Q3 e,Im,vP,xg]
      ·simp only[ZX,zV]at hj;rw[<- DC j (by omega)];simp[show C.length≠j by omega,Im,vP,xg]
    ·have em:decide (m+1<N)=false:=QQ cm;have mG:k+1+(m+1)=d.size:=by omega
     rw[mG]at hC;rw[hC];have g1:C.length<=d.size:=by omega
     have g2:((d.size:Int) - (C.length:Int)).toNat=d.size - C.length:=by omega
     refine Qf hb ?_;simp only[go_sem,Qa,Zu,Kf,em];refine Qf hb ?_;simp only[go_sem,Qa,Zu,Kf,ZG,g1,g2];refine gV Aj hb rfl Zu rfl rfl rfl rfl (by dsimp only[AO];omega) rfl rfl rfl rfl ?_;refine Qf hb ?_;simp only[go_sem,Qa,Qv Kf,Kf,ZG,g1];refine⟨by simp,Yz C.length (d.size - C.length) [D.raw (.int .i64 0)] (HJ d1),?_,λi hi=>?_,λi=>?_⟩
     ·rw[<- hH,Ji]
     ·rw[gT hi];show [jI d1[i]!]=_;rw[HH i hi];rfl
     ·unfold Yz;cases Nat.ble C.length i&&Nat.blt i (C.length+(d.size - C.length))
      ·exact⟨d1[i]!,rfl⟩
      ·exact⟨0,rfl⟩
   ·have HG:(d[k+1]! == d[k]!)=false:=beq_eq_false_iff_ne.mpr YZ;simp only[go_sem,HG,v2];refine⟨by omega,_,?_,by omega,?_,rfl⟩
    ·exact QO
    ·rw[cN,Qd (by simpa using YZ)];simp[Z6]
  ·have ek:decide (k+1<d.size)=false:=QQ ck;obtain Jo:k+1=d.size:=by omega
   rw[Jo]at Z6;refine Qf hb ?_;simp only[go_sem,Qa,ho,Qe,ek];apply ZC hb;rw[Z6];exact⟨rfl,HJ d,(kj ho).symm,λi hi=>by rw[HF _ _ Z6 i hi];rfl,λi=>⟨_,rfl⟩⟩
def Qw7(n:Nat)(h0:0<n)(hn:n<=1048576):Zh prog 160 [.nil,Qb n] (λd h=>∃row,d=.ref 0 0 0 0/\h=[⟨.arr,0,1,0,row⟩]):=by
 have O8:¬ ((n:Int)<0):=by omega
 have yR:((n:Int) > 0):=by omega
 have w1:IntKind.i64.wrap (n:Int)=n:=by rw[IntKind.wrap_i64];omega
 refine MFn.cut (R:=λd h=>d=.ref 0 0 0 0/\h=[⟨.arr,0,1,n,λ_=>[Qb 0]⟩]) ?_ (by rintro d h ⟨rfl,rfl⟩;exact⟨0,_,0,rfl,rfl,JQ _,_,rfl,rfl⟩);show Zh _ _ _ _;refine Zy 1 Qh 200 func160 rfl ntmps160 results160 rfl λbase w hb=>?_;simp only[go_sem];simp only[QQ O8,go_sem];refine gX Aj rfl rfl rfl ?_;refine Qf hb ?_;simp only[go_sem,BQ,Int.sub_zero,w1,Q7 yR,h0];refine gX Aj rfl rfl rfl ?_;apply ZC hb;refine QtK Aj hb rfl rfl rfl rfl rfl rfl (by decide) h0 (by omega) (by decide) rfl ?_;exact xY hb
def Qw8:Zh prog 160 [.nil,Qb 0] (Qo .nil):=by
 refine Zy 0 Qh 200 func160 rfl ntmps160 results160 rfl λbase w hb=>?_;simp only[go_sem];refine gX Aj rfl rfl rfl ?_;refine Qf hb ?_;simp only[go_sem,BQ,Int.sub_zero]
def Qw9(h:List Ob)(l2)(qO)(a b:List Int)(hl:a.length+b.length<1000000)(h2:(h.map Ob.ro)[l2]? = some ⟨.xm,0,1,2,qO⟩)(e0:qO 0=[ints a])(e1:qO 1=[ints b]):
  Wf prog 122 h [.ref l2 0 0 2] (λd g=>JU h.length (h++g) d (a++b)):=by
 have w1:IntKind.i64.wrap (a.length:Int)=(a.length:Int):=by rw[IntKind.wrap_i64];omega
 have w2:IntKind.i64.wrap ((a.length:Int)+(b.length:Int))=((a.length+b.length:Nat):Int):=by rw[IntKind.wrap_i64];omega
 have n1:decide ((a.length:Int)<0)=false:=QQ (by omega);have n2:decide (((a.length+b.length:Nat):Int)<0)=false:=QQ (by omega);refine Ai Qh 200 func122 rfl ntmps122 results122 rfl λbase w pl F hF Za hb=>?_;rw[<- hF]at h2;have KE:=Qc h2;simp only[go_sem,Qa,h2,KE];obtain⟨sz,XP,ZG,Jk⟩:∃sz:Nat->Int,sz 0=0/\sz 1=a.length/\sz 2=(a.length+b.length:Nat):=⟨λi=>if i=0 then 0 else if i=1 then a.length else (a.length+b.length:Nat),rfl,rfl,rfl⟩;refine ZZ (λi s=>s=⟨[(0,.ref l2 0 0 2),(3,.raw (.int .i64 (sz i))),(9,.ref l2 0 0 2),(10,Qb 2),(11,Qb i)],F⟩) 2 (QI.frame (by simp only[go_sem,XP])) rfl ?_;rintro i s hi rfl;have mP:i=0\/i=1\/i=2:=by omega
 rcases mP with rfl|rfl|rfl
 ·refine Qf hb ?_;simp only[go_sem,Qa,h2,KE,e0,e1,BQ,DE,XP,Int.zero_add,w1,n1];exact⟨_,QI.frame (fr':=[(0,.ref l2 0 0 2),(3,.raw (.int .i64 (sz 1))),(9,.ref l2 0 0 2),(10,Qb 2),(11,.raw (.int .i64 1))]) (by simp only[go_sem,ZG]),rfl⟩
 ·refine Qf hb ?_;simp only[go_sem,Qa,h2,KE,e0,e1,BQ,DE,ZG,w2,n2];exact⟨_,QI.frame (fr':=[(0,.ref l2 0 0 2),(3,.raw (.int .i64 (sz 2))),(9,.ref l2 0 0 2),(10,Qb 2),(11,.raw (.int .i64 2))]) (by simp only[go_sem,Jk,QgJ]),rfl⟩
 ·refine Qf hb ?_;simp only[go_sem,Qa,h2,KE,e0,e1,BQ,DE,Jk];refine Qf hb ?_;simp only[go_sem,Qa,h2,KE,e0,e1,BQ,DE,Jk];by_cases hz:a.length+b.length=0
  case' pos=>
   refine ZA hb QdM rfl ?_ Qw8 (Qo.flat rfl) rfl λd h hR=>?_
   ·simp only[go_sem,Qa,h2,KE,hz]
   obtain⟨rfl,rfl⟩:=hR;refine Qf hb ?_;simp only[go_sem,Qa,h2,KE,hz];refine EO (QI.Ch 6 1 (λ_=>[]) (by simp only[go_sem])) ?_;simp only[go_sem,Qa];generalize (λ_:Nat=>([]:List D))=QgQ
  case' neg=>
   refine ZA hb QdM rfl ?_ (Qw7 (a.length+b.length) (by omega) (by omega)) (λd h ⟨row,h1,h2⟩=>⟨by rw[h1];rfl,λo ho=>by rw[h2]at ho;simp at ho;subst ho;exact λi hi=>absurd hi (XY i)⟩) rfl λd h' hR=>?_
   ·simp only[go_sem,Qa]
   obtain⟨row,rfl,rfl⟩:=hR;refine Qf hb ?_;simp only[go_sem,Qa,h2,KE];generalize (λi=>wh F.length (row i))=QgQ
  all_goals
   refine ZZ (λi s=>∃gn m row,(i=0->m=0)/\(i=1->m=a.length/\∀k,k<a.length->row k=[Qb (a.getD k 0)])/\(i=2->m=a.length+b.length/\∀k,k<a.length+b.length->row k=[Qb ((a++b).getD k 0)])/\s=⟨[(6,.ref F.length gn 0 m),(25,.ref l2 0 0 2),(26,Qb 2),(27,Qb i)],F++[⟨.arr,gn,1,m,row⟩]⟩) 2
    (s0:=⟨[(6,.ref F.length 0 0 0),(25,.ref l2 0 0 2),(26,Qb 2),(27,Qb 0)],F++[⟨.arr,0,1,0,QgQ⟩]⟩) QO ⟨0,0,_,λ_=>rfl,λh=>absurd h (by decide),λh=>absurd h (by decide),rfl⟩ ?_
   rintro i s hi ⟨gn,m,row,Oe,PU,Wg,rfl⟩;have mP:i=0\/i=1\/i=2:=by omega
   have yg:a.length<=4294967295:=by omega
   have BS:a.length+b.length<=4294967295:=by omega
   rcases mP with rfl|rfl|rfl
   ·obtain rfl:m=0:=Oe rfl;refine Qf hb ?_;simp only[go_sem,Qa,h2,KE,e0,e1,BQ,DE,yg];refine⟨by omega,_,QI.frame (fr':=[(6,.ref F.length (gn+1) 0 a.length),(25,.ref l2 0 0 2),(26,Qb 2),(27,.raw (.int .i64 1))]) (by simp only[go_sem,DE]),_,_,_,⟨rfl,λk hk=>?_⟩,rfl⟩;rw[vV (JQ k)];rfl
   ·obtain⟨rfl,hr⟩:=PU rfl;refine Qf hb ?_;simp only[go_sem,Qa,h2,KE,e0,e1,BQ,DE,yg,BS];refine⟨by omega,_,QI.frame (fr':=[(6,.ref F.length (gn+1) 0 (a.length+b.length)),(25,.ref l2 0 0 2),(26,Qb 2),(27,.raw (.int .i64 2))]) (by simp only[go_sem,QgJ]),_,_,_,⟨rfl,λk hk=>?_⟩,rfl⟩;by_cases h1:k<a.length
    ·rw[yL h1,JG,hr k h1,Q8,Q8,Jy h1];rfl
    ·rw[vV (by omega),Q8,JT (by omega),<- Q8];rfl
   ·obtain⟨rfl,Wp⟩:=Wg rfl;refine Qf hb ?_;simp only[go_sem,Qa,h2,KE,e0,e1,BQ,DE];refine Qf hb ?_;simp only[go_sem,Qa,h2,KE,e0,e1,BQ,DE];refine⟨_,rfl,.inr ⟨h.length,gn,0,row,by rw[Za,ZX],⟨QD _,rfl⟩,?_,λi hi=>by rw[JG];exact Wp i (by simpa using hi)⟩⟩;rw[Ko rfl,ZX,JG];rfl
def Qxa(h:List Ob)(l2)(qO)(a b:List Int)(hl:a.length+b.length<1000000)(h2:(h.map Ob.ro)[l2]? = some ⟨.xm,0,1,2,qO⟩)(e0:qO 0=[ints a])(e1:qO 1=[ints b]):
  Zg prog 122 h [.ref l2 0 0 2] (λd=>d=ints (a++b)):=JU.closed (Qw9 h l2 qO a b hl h2 e0 e1)
deriving instance DecidableEq for Cv
deriving instance DecidableEq for Qn
def V9(A B:List Qn)(id:Int):Bool:=decide (Qy A id≠Qy B id)
def wO(A B:List Qn):List Int:=(A.map (·.iD)++B.map (·.iD)).filter (V9 A B)
def qP(L:List Int):List Int:=cN (λi=>L.getD i 0) L.length
def JX(A B:List Qn):List Int:=qP (sorted (wO A B))
def Qxb{L}{x}:x∈qP L↔x∈L:=by
 unfold qP;rw[mF];constructor
 ·rintro⟨i,hi,rfl⟩;rw[Q8,QP hi];exact qz hi
 ·intro h;obtain⟨i,hi,rfl⟩:=yE h;exact⟨i,hi,by rw[Q8,QP hi];rfl⟩
def Qxc{L}{x}:x∈sorted L↔x∈L:=(List.mergeSort_perm _ _).mem_iff
def FD{A B}{id}:id∈JX A B↔Qy A id≠Qy B id:=by
 unfold JX;rw[Qxb,Qxc];unfold wO;rw[JE];unfold V9;rw[Yq];constructor
 ·exact λh=>h.2
 ·intro h;refine⟨?_,h⟩;rw[QT];cases ha:Qy A id with
  | some c=>
   refine .inl (Jn.2 ⟨c,xk ha,?_⟩);have:=vR ha;simpa using this
  | none=>
   cases hb:Qy B id with
   | some c=>
    refine .inr (Jn.2 ⟨c,xk hb,?_⟩);have:=vR hb;simpa using this
   | none=>rw[ha,hb]at h;exact absurd rfl h
def QgR(x y:Qn):(x.iD==y.iD&&(x.parent==y.parent&&(x.leaf==y.leaf&&(x.rt.m1==y.rt.m1&&(x.rt.d==y.rt.d&&(x.rt.m2==y.rt.m2&&(x.ls.m1==y.ls.m1&&(x.ls.d==y.ls.d&&(x.ls.m2==y.ls.m2&&(x.ul.m1==y.ul.m1&&(x.ul.d==y.ul.d&&(x.ul.m2==y.ul.m2&&(x.ZF==y.ZF&&x.bytes==y.bytes)))))))))))))=decide (x=y):=by
 rw[kG];simp only[ZJ,zY,Yq];constructor
 ·rintro⟨h1,h2,h3,h4,h5,h6,h7,h8,h9,YW,IJ,ED,h13,h14⟩;obtain⟨a1,a2,a3,⟨a4,a5,a6⟩,⟨a7,a8,a9⟩,⟨b1,b2,b3⟩,b4,b5⟩:=x;obtain⟨c1,c2,c3,⟨c4,c5,c6⟩,⟨c7,c8,c9⟩,⟨d1,d2,d3⟩,d4,d5⟩:=y
  simp_all
 ·rintro rfl;simp
theorem Mz:(true==false)=false:=rfl
theorem MA:(false==true)=false:=rfl
def Qxd:Zh prog 124 [.nil] (Qo .nil):=by
 refine Zy 0 Qh 200 func124 rfl ntmps124 results124 rfl λbase w hb=>?_;simp only[go_sem]
def Qxe{h:List Ob}{lo g}{Z:List Int}(ho:h[lo]? = some (AO g Z.toArray))(hz:Z.length<1000000000):
  MFn prog 124 h [.ref lo g 0 Z.length] (λdd h'=>dd=.ref lo g 0 (qP Z).length/\∃row,h'=h.set lo ⟨.arr,g,1,(qP Z).length,row⟩/\∀i,i<(qP Z).length->row i=[Qb ((qP Z).getD i 0)]):=by
 have hcN:cN (λi=>Z.toArray[i]!) Z.toArray.size=qP Z:=by
  unfold qP;congr 1;funext i;simp
 have hc:=Qw6 ho (by simpa using hz);rw[hcN]at hc;have hl:=Qc ho;refine MFn.cut (R:=λdd h'=>dd=.ref lo g 0 (qP Z).length/\∃row,h'=h.set lo ⟨.arr,g,1,Z.toArray.size,row⟩/\(∀i,i<(qP Z).length->row i=[jI ((qP Z).getD i 0)])/\∀i,∃x,row i=[jI x]) (by simpa using hc) ?_;rintro d h' ⟨rfl,row,rfl,h1,_⟩;refine⟨lo,_,(qP Z).length,Qv hl,rfl,?_,rfl,row,by rw[Ji],h1⟩;have:=Mw (λi=>Z.getD i 0) Z.length;show (qP Z).length<=Z.toArray.size;simpa[qP] using this
structure AP (F:List Ob) (A B:List Qn) (t1 t2:Nat) (L:List Int) (k:Nat) (s:St):Prop where
 ex:∃d H,JU F.length H d ((L.take k).filter (V9 A B))/\KZ F H/\s=⟨[(0,.ptr t1 0 0 0),(1,.ptr t2 0 0 0),(5,d),(17,ints L),(18,Qb L.length),(19,Qb k)],H⟩
def AP.of{F:List Ob}{A B}{t1 t2}{L:List Int}{k:Nat}{d}{H}(hs:JU F.length H d ((L.take k).filter (V9 A B)))(hx:KZ F H):AP F A B t1 t2 L k ⟨[(0,.ptr t1 0 0 0),(1,.ptr t2 0 0 0),(5,d),(17,ints L),(18,Qb L.length),(19,Qb k)],H⟩:=⟨⟨d,H,hs,hx,rfl⟩⟩
def Qxg{h}{t1 t2}{A B:List Qn}(RA:WN h t1 A)(RB:WN h t2 B)(hA:A.length<100000)(hB:B.length<100000):
  Wf prog 75 h [.ptr t1 0 0 0,.ptr t2 0 0 0] (λd g=>JU h.length (h++g) d (JX A B)):=by
 refine Ai Qh 200 func75 rfl ntmps75 results75 rfl λbase w pl F hF Za hb=>?_;simp only[go_sem,Qa];have PV:WN F t1 A:=RA.more (KM hF);have PW:WN F t2 B:=RB.more (KM hF);refine JJ hb fG (iE PV (by omega)) λd hR=>?_;subst hR;apply Q1 hb;refine JJ hb fG (iE PW (by omega)) λd hR=>?_;subst hR;apply Q1 hb;obtain⟨L,hL⟩:∃L,L=A.map (·.iD)++B.map (·.iD):=⟨_,rfl⟩;have hLl:L.length<200000:=by rw[hL];simp;omega
 have VE:∀qO:Nat->List D,qO 0=[ints (A.map (·.iD))]->qO 1=[ints (B.map (·.iD))]->Zg prog 122 (F++[⟨.arr,0,1,2,qO⟩]) [.ref F.length 0 0 2] (λd=>d=ints L):=λqO e0 e1=>by
  rw[hL];exact Qxa _ F.length qO _ _ (by simp;omega) (ZM (show (F++[⟨.arr,0,1,2,qO⟩])[F.length]? = some ⟨.arr,0,1,2,qO⟩ by rw[Ko rfl];rfl)) e0 e1
 refine JJ hb Qrr (VE _ (by exact rfl) (by exact rfl)) λd hR=>?_;subst hR;apply Q1 hb;refine ZZ (AP F A B t1 t2 L) L.length (s0:=⟨[(0,.ptr t1 0 0 0),(1,.ptr t2 0 0 0),(5,.nil),(17,ints L),(18,Qb L.length),(19,Qb 0)],_⟩) QO ⟨⟨_,_,.inl ⟨rfl,by simp⟩,⟨_,rfl⟩,rfl⟩⟩ ?_;rintro k _ hk ⟨d,H,hs,hx,rfl⟩;have RA3:∀g,WN (H++g) t1 A:=λg=>by
  obtain⟨x,rfl⟩:=hx;exact PV.more λl o e=>by rw[Wb];exact Fq l o e
 have RB3:∀g,WN (H++g) t2 B:=λg=>by
  obtain⟨x,rfl⟩:=hx;exact PW.more λl o e=>by rw[Wb];exact Fq l o e
 have RA4:WN H t1 A:=by have:=RA3 [];rwa [Zd]at this
 by_cases Qs:k<L.length
 ·have dk:=Q7 Qs;obtain⟨id,Zk⟩:∃id,id=L.getD k 0:=⟨_,rfl⟩;have Z1:(L.take (k+1)).filter (V9 A B)=(L.take k).filter (V9 A B)++(if V9 A B id then [id] else []):=by
   rw[getD_take L 0 k Qs,NB,<- Zk];cases hq:V9 A B id<;>simp[hq]
  have ga:=LZ RA4 id;have gb:=λg=>LZ (RB3 g) id;have Zq:=Vp (show k<4611686018427387904 by omega);cases ha:Qy A id with
  | some x=>
   rw[ha]at ga;simp only[KS,jP,K6]at ga;cases ZB:Qy B id with
   | some y=>
    rw[ZB]at gb;simp only[KS,jP,K6]at gb;refine Qf hb ?_;simp only[go_sem,Qa,dk,Qs,<- Zk];refine JJ hb j4 ga λd hR=>?_;subst hR;apply Q1 hb;refine ZT hb j4 rfl ?_ (gb _) rfl λd hR=>?_
    ·simp only[go_sem,Qa,bne,QgR]
    subst hR;refine Qf hb ?_;simp only[go_sem,Qa,bne,QgR];by_cases e:x=y
    ·have hq:V9 A B id=false:=by unfold V9;rw[ha,ZB,e];simp
     have dx:=Q7 e;simp only[go_sem,Qa,dx];refine⟨Qs,_,QI.frame (fr':=[(0,.ptr t1 0 0 0),(1,.ptr t2 0 0 0),(5,d),(17,ints L),(18,Qb L.length),(19,Qb (k+1:Nat))]) (by simp only[go_sem,Zq]),AP.of (by rw[Z1,hq,Qd (by decide),Zd];exact hs.app _) (hx.app _)⟩
    ·have hq:V9 A B id=true:=by unfold V9;rw[ha,ZB];simpa using e
     have dx:=QQ e;rcases hs with ⟨rfl,XP⟩|⟨lo,g,off,row,rfl,⟨ZE,rfl⟩,ho,hr⟩
     ·simp only[go_sem,Qa,dx,Go.undef];refine⟨Qs,_,QI.frame (fr':=[(0,.ptr t1 0 0 0),(1,.ptr t2 0 0 0),(5,.ref (H.length+3) 0 0 1),(17,ints L),(18,Qb L.length),(19,Qb (k+1:Nat))]) (by simp only[go_sem,Zq]),AP.of (.inr ⟨H.length+3,0,0,λ_=>[Qb id],?_,⟨by have:=hx.len;omega,rfl⟩,?_,?_⟩) (hx.app _)⟩
      ·rw[Z1,XP,hq];rfl
      ·rw[Z1,XP,hq,KX rfl];rfl
      ·rw[Z1,XP,hq];intro i hi;obtain rfl:i=0:=by simp at hi;omega
       rfl
     ·have Qe:=Qc ho;rw[JG]at ho;simp only[go_sem,Qa,dx,Go.undef,ho,Qe];refine⟨by have:=Yo (V9 A B) (L.take k);simp at this;omega,Qs,_,QI.frame (fr':=[(0,.ptr t1 0 0 0),(1,.ptr t2 0 0 0),(5,.ref lo (g+1) 0 (((L.take k).filter (V9 A B)).length+1)),(17,ints L),(18,Qb L.length),(19,Qb (k+1:Nat))]) (by simp only[go_sem,Zq]),AP.of (.inr ⟨lo,g+1,0,J2 ((L.take k).filter (V9 A B)).length 0 row (λ_=>[Qb id]),?_,⟨ZE,rfl⟩,?_,?_⟩) ((hx.set ZE _).app _)⟩
      ·rw[Z1,hq];simp
      ·rw[Z1,hq,QC (by simpa using Qe),Qv Qe];simp[Qb]
      ·rw[Z1,hq];exact G7 hr
   | none=>
    rw[ZB]at gb;simp only[kP,Yn,kQ]at gb;have hq:V9 A B id=true:=by unfold V9;rw[ha,ZB];simp
    refine Qf hb ?_;simp only[go_sem,Qa,dk,Qs,<- Zk];refine JJ hb j4 ga λd hR=>?_;subst hR;apply Q1 hb;refine ZT hb j4 rfl ?_ (gb _) rfl λd hR=>?_
    ·simp only[go_sem,Qa,bne,Go.undef,Mz,MA]
    subst hR;refine Qf hb ?_;simp only[go_sem,Qa,bne,Go.undef,Mz,MA];rcases hs with ⟨rfl,XP⟩|⟨lo,g,off,row,rfl,⟨ZE,rfl⟩,ho,hr⟩
    ·(try simp only[go_sem,Qa,Go.undef])
     refine⟨Qs,_,QI.frame (fr':=[(0,.ptr t1 0 0 0),(1,.ptr t2 0 0 0),(5,.ref (H.length+3) 0 0 1),(17,ints L),(18,Qb L.length),(19,Qb (k+1:Nat))]) (by simp only[go_sem,Zq]),AP.of (.inr ⟨H.length+3,0,0,λ_=>[Qb id],?_,⟨by have:=hx.len;omega,rfl⟩,?_,?_⟩) (hx.app _)⟩
     ·rw[Z1,XP,hq];rfl
     ·rw[Z1,XP,hq,KX rfl];rfl
     ·rw[Z1,XP,hq];intro i hi;obtain rfl:i=0:=by simp at hi;omega
      rfl
    ·have Qe:=Qc ho;rw[JG]at ho;simp only[go_sem,Qa,Go.undef,ho,Qe];refine⟨by have:=Yo (V9 A B) (L.take k);simp at this;omega,Qs,_,QI.frame (fr':=[(0,.ptr t1 0 0 0),(1,.ptr t2 0 0 0),(5,.ref lo (g+1) 0 (((L.take k).filter (V9 A B)).length+1)),(17,ints L),(18,Qb L.length),(19,Qb (k+1:Nat))]) (by simp only[go_sem,Zq]),AP.of (.inr ⟨lo,g+1,0,J2 ((L.take k).filter (V9 A B)).length 0 row (λ_=>[Qb id]),?_,⟨ZE,rfl⟩,?_,?_⟩) ((hx.set ZE _).app _)⟩
     ·rw[Z1,hq];simp
     ·rw[Z1,hq,QC (by simpa using Qe),Qv Qe];simp[Qb]
     ·rw[Z1,hq];exact G7 hr
  | none=>
   rw[ha]at ga;simp only[kP,Yn,kQ]at ga;cases ZB:Qy B id with
   | some y=>
    rw[ZB]at gb;simp only[KS,jP,K6]at gb;have hq:V9 A B id=true:=by unfold V9;rw[ha,ZB];simp
    refine Qf hb ?_;simp only[go_sem,Qa,dk,Qs,<- Zk];refine JJ hb j4 ga λd hR=>?_;subst hR;apply Q1 hb;refine ZT hb j4 rfl ?_ (gb _) rfl λd hR=>?_
    ·simp only[go_sem,Qa,bne,Go.undef,Mz,MA]
    subst hR;refine Qf hb ?_;simp only[go_sem,Qa,bne,Go.undef,Mz,MA];rcases hs with ⟨rfl,XP⟩|⟨lo,g,off,row,rfl,⟨ZE,rfl⟩,ho,hr⟩
    ·(try simp only[go_sem,Qa,Go.undef])
     refine⟨Qs,_,QI.frame (fr':=[(0,.ptr t1 0 0 0),(1,.ptr t2 0 0 0),(5,.ref (H.length+3) 0 0 1),(17,ints L),(18,Qb L.length),(19,Qb (k+1:Nat))]) (by simp only[go_sem,Zq]),AP.of (.inr ⟨H.length+3,0,0,λ_=>[Qb id],?_,⟨by have:=hx.len;omega,rfl⟩,?_,?_⟩) (hx.app _)⟩
     ·rw[Z1,XP,hq];rfl
     ·rw[Z1,XP,hq,KX rfl];rfl
     ·rw[Z1,XP,hq];intro i hi;obtain rfl:i=0:=by simp at hi;omega
      rfl
    ·have Qe:=Qc ho;rw[JG]at ho;simp only[go_sem,Qa,Go.undef,ho,Qe];refine⟨by have:=Yo (V9 A B) (L.take k);simp at this;omega,Qs,_,QI.frame (fr':=[(0,.ptr t1 0 0 0),(1,.ptr t2 0 0 0),(5,.ref lo (g+1) 0 (((L.take k).filter (V9 A B)).length+1)),(17,ints L),(18,Qb L.length),(19,Qb (k+1:Nat))]) (by simp only[go_sem,Zq]),AP.of (.inr ⟨lo,g+1,0,J2 ((L.take k).filter (V9 A B)).length 0 row (λ_=>[Qb id]),?_,⟨ZE,rfl⟩,?_,?_⟩) ((hx.set ZE _).app _)⟩
     ·rw[Z1,hq];simp
     ·rw[Z1,hq,QC (by simpa using Qe),Qv Qe];simp[Qb]
     ·rw[Z1,hq];exact G7 hr
   | none=>
    rw[ZB]at gb;simp only[kP,Yn,kQ]at gb;have hq:V9 A B id=false:=by unfold V9;rw[ha,ZB];simp
    refine Qf hb ?_;simp only[go_sem,Qa,dk,Qs,<- Zk];refine JJ hb j4 ga λd hR=>?_;subst hR;apply Q1 hb;refine ZT hb j4 rfl ?_ (gb _) rfl λd hR=>?_
    ·simp only[go_sem,Qa,bne,Go.undef,Mz,MA]
    subst hR;refine Qf hb ?_;simp only[go_sem,Qa,bne,Go.undef,Mz,MA];refine⟨Qs,_,QI.frame (fr':=[(0,.ptr t1 0 0 0),(1,.ptr t2 0 0 0),(5,d),(17,ints L),(18,Qb L.length),(19,Qb (k+1:Nat))]) (by simp only[go_sem,Zq]),AP.of (by rw[Z1,hq,Qd (by decide),Zd];exact hs.app _) (hx.app _)⟩
 ·have ZW:k=L.length:=by omega
  have dk:=QQ Qs;rw[ZW,zW]at hs;have CZ:wO A B=L.filter (V9 A B):=by rw[hL];rfl
  rw[<- CZ]at hs;have QE1:(wO A B).length<200000:=by have:=Yo (V9 A B) L;rw[CZ];omega
  rcases hs with ⟨rfl,XP⟩|⟨lo,g,off,row,rfl,⟨ZE,rfl⟩,ho,hr⟩
  ·refine Qf hb ?_;simp only[go_sem,Qa,dk];apply Q1 hb;refine Jl hb Ut (Qeu H) λd h hR=>?_;obtain⟨rfl,rfl⟩:=hR;apply ZC hb;have ht:JX A B=[]:=by unfold JX;rw[XP];simp[sorted,qP,cN]
   refine Ax hb QdE Qxd (Qo.flat rfl) λd h hR=>?_;obtain⟨rfl,rfl⟩:=hR;apply Q1 hb;exact JU.done Za hx (.inl ⟨rfl,ht⟩)
  ·have Qe:=Qc ho;refine Qf hb ?_;simp only[go_sem,Qa,dk];apply Q1 hb;refine Jl hb Ut (Qet ho (by omega) hr (by omega)) λd h hR=>?_;obtain⟨rfl,rfl⟩:=hR;apply ZC hb;obtain⟨Z,hZ⟩:∃Z,Z=sorted (wO A B):=⟨_,rfl⟩;have hZl:Z.length=(wO A B).length:=by rw[hZ,Fe]
   rw[<- hZ,<- hZl];refine GW (QI.rows lo (HJ Z.toArray) (Qv Qe) (λi hi=>?_)) ?_
   ·dsimp only at hi ⊢;unfold j8;rw[Qg ⟨JQ _,by omega⟩,Ej,Qw3];simp[jI]
   rw[Ji];dsimp only;have ht:qP Z=JX A B:=by rw[hZ];rfl
   have hc:=Qxe (h:=H.set lo (AO g Z.toArray)) (lo:=lo) (g:=g) (Z:=Z) (Qv Qe) (by omega);rw[ht]at hc;have Je:Z.toArray.size=Z.length:=by simp
   rw[<- Je];refine Jl hb QdE (Je▸hc) λd h hR=>?_;obtain⟨rfl,Kx,rfl,PX⟩:=hR;apply ZC hb;rw[Ji];refine JU.done Za (hx.set ZE _) (.inr ⟨lo,g,0,Kx,rfl,⟨ZE,rfl⟩,by rw[Qv Qe,JG],λi hi=>by rw[JG];exact PX i hi⟩)
def QgS{h}{t1 t2}{A B:List Qn}(RA:WN h t1 A)(RB:WN h t2 B)(hA:A.length<100000)(hB:B.length<100000):
  Zg prog 75 h [.ptr t1 0 0 0,.ptr t2 0 0 0] (λd=>d=ints (JX A B)):=JU.closed (Qxg RA RB hA hB)
def vH(T:List Qn):Prop:=∀c∈T,Qn.Ok c
def Cv.Ok.nn{c:Cv}(h:Cv.Ok c):c.Nn:=⟨(wf_u64 h.1).1,(wf_u64 h.2.1).1,(wf_u64 h.2.2.1).1⟩
def Qn.Ok.nn{c:Qn}(h:Qn.Ok c):c.Nn:=⟨h.2.2.2.1.nn,h.2.2.2.2.1.nn,h.2.2.2.2.2.1.nn⟩
def Cv.Ok.lt{c:Cv}(h:Cv.Ok c):(Kr c).Lt:=by
 have h1:=wf_u64 h.1;have h2:=wf_u64 h.2.1;have h3:=wf_u64 h.2.2.1;refine⟨?_,?_,?_⟩<;>(simp only[Kr];omega)
def vH.Qxl{T}(h:vH T):∀c∈XR T,c.Lt:=λc hc=>by
 obtain⟨x,hx,rfl⟩:=Jn.1 hc;exact(h x (JE.1 hx).1).2.2.2.1.lt
def vH.one{T}(h:vH T)(hr:Wx T){c}(hc:Z3.Ok c):vH (AH T c):=by
 unfold AH;split
 ·split
  ·exact λd hd=>h d (JE.1 hd).1
  ·intro d hd;rcases xX hr c.cls hd with rfl|hd
   ·exact hc.2.1
   ·exact h d hd
 ·exact h
def Xy:List Qn->List Z3->Nat->Int × Nat × List Qn
 | T,[],_=>(0,0,T)
 | T,c::l,i=>if vF T c≠0 then (vF T c,i,T) else Xy (AH T c) l (i+1)
def yh(T:List Qn)(t:Int)(l:List Z3):Int:=
 if 32<l.length then 2 else if (Xy T l 0).1≠0 then (Xy T l 0).1 else BR t (XR (Xy T l 0).2.2)
def MB(T:List Qn)(l:List Z3):Nat:=if 32<l.length then 0 else if (Xy T l 0).1≠0 then (Xy T l 0).2.1 else 0
def KG(T:List Qn)(l:List Z3):List Qn:=(Xy T l 0).2.2
def QgT:∀(l:List Z3) (T:List Qn) (i:Nat),K0 T->vH T->(∀c∈l,Z3.Ok c)->K0 (Xy T l i).2.2/\vH (Xy T l i).2.2
 | [],T,i,I,K,_=>⟨I,K⟩
 | c::l,T,i,I,K,hc=>by
  rw[Xy];split
  ·exact⟨I,K⟩
  ·exact QgT l _ _ (I.one c) (K.one I.rising (hc c (by simp))) λd hd=>hc d (by simp[hd])
def Qxm{T0 T}{l:List Z3}{k}(hk:k<l.length)(h:Xy T0 l 0=Xy T (l.drop k) k):Xy T0 l 0=if vF T (l.getD k default)≠0 then (vF T (l.getD k default),k,T) else Xy (AH T (l.getD k default)) (l.drop (k+1)) (k+1):=by
 rw[h,Iv hk,Xy,Q8,QP hk];rfl
@[go_sem] def PY(l:List Z3):D:=.imm 15 l.length (Z3.rows l)
def Qxn{S}{h}{t}{T}(R:VN S h t T)(I:K0 T)(K:vH T)(n)(Ka:1<=n)(VC:n<=65536)(l:List Z3)(hc:∀c∈l,Z3.Ok c)(hl:l.length<1000000):
  MFn prog 74 h [.ptr t 0 0 0,Qb n,PY l] (λd h'=>∃p,d=.tup [if yh T n l=0 then .ptr p 0 0 0 else .raw (.pointer none),Qb (MB T l),Qb (yh T n l)]/\(yh T n l=0->VN (λl=>h.length<=l) h' p (KG T l))/\∃g,h'=h++g):=by
 have d1:decide (n<1)=false:=QQ (by omega);have d2:decide (65536<n)=false:=QQ (by omega);by_cases FE:32<l.length
 ·have d3:decide ((32:Int)<(l.length:Int))=true:=Q7 (by omega);have e1:yh T n l=2:=Qg FE;have e2:MB T l=0:=Qg FE;refine QU Qh 200 func74 rfl ntmps74 results74 rfl λbase w pl hb=>?_;simp only[go_sem,Qa,d1,d2,d3];rw[e1,e2];exact⟨0,rfl,(λh=>absurd h (by decide)),[],(Zd _).symm⟩
 ·have d3:decide ((32:Int)<(l.length:Int))=false:=QQ (by omega);refine QU Qh 200 func74 rfl ntmps74 results74 rfl λbase w pl hb=>?_;simp only[go_sem,Qa,d1,d2,d3];refine Jl hb Qrl (Qvt R) λd h hR=>?_;obtain⟨rfl,R2,g,rfl,hg⟩:=hR;apply ZC hb;have Ld:MB T l=if (Xy T l 0).1≠0 then (Xy T l 0).2.1 else 0:=Qd FE;have PZ:yh T n l=if (Xy T l 0).1≠0 then (Xy T l 0).1 else BR n (XR (Xy T l 0).2.2):=Qd FE;refine ZZ (λk st=>∃Tk H,VN (λl=>h.length<=l) H (h.length+1) Tk/\K0 Tk/\vH Tk/\Xy T l 0=Xy Tk (l.drop k) k/\(∃g,H=h++g)/\st=⟨[(1,Qb n),(9,.ptr (h.length+1) 0 0 0),(30,PY l),(31,Qb l.length),(32,Qb k)],H⟩) l.length (s0:=⟨[(1,Qb n),(9,.ptr (h.length+1) 0 0 0),(30,PY l),(31,Qb l.length),(32,Qb 0)],h++g⟩) QO ⟨T,_,R2,I,K,rfl,⟨_,rfl⟩,rfl⟩ ?_;rintro k _ hk ⟨Tk,H,Rk,Ik,Kk,k9,⟨g2,rfl⟩,rfl⟩;by_cases Qs:k<l.length
  ·have dk:=Q7 Qs;have Z1:=Qxm Qs k9;have hcx:Z3.Ok (l.getD k default):=hc _ (jq l default k Qs);obtain⟨x,hx⟩:∃x,x=l.getD k default:=⟨_,rfl⟩;rw[<- hx]at Z1 hcx;have SZ:=λg=>(show MFn prog 119 (h++(g2++g)) [.ptr (h.length+1) 0 0 0,.agg x.cells] (λd h'=>d=Qb (vF Tk x)/\VN (λl=>h.length<=l/\l<(h++g2).length) h' (h.length+1) (AH Tk x)/\Step (λl=>h.length<=l/\l<(h++g2).length) (h++(g2++g)) h') by rw[<- Wb];exact QvC (Rk.app g) Ik x);have Zq:=Vp (show k<4611686018427387904 by omega);refine Qf hb ?_;simp only[go_sem,Qa,dk,Qs,Z3.xO,<- hx];refine Jl hb Qro (SZ _) λd h6 hR=>?_;obtain⟨rfl,R6,s6⟩:=hR;have hg6:∃g,h6=h++g:=by
    refine⟨h6.drop h.length,?_⟩;apply xh;intro i;by_cases hi:i<h.length
    ·rw[QC hi,s6.keep i (by simp;omega) (λh=>by have:=h.1;omega),QC hi]
    ·rw[JT (by omega),Gg];congr 1;omega
   have R7:VN (λl=>h.length<=l) h6 (h.length+1) (AH Tk x):=R6.step λl _ hs=>⟨hs.1,rfl⟩;apply ZC hb;by_cases h0:vF Tk x=0
   ·rw[Qd (by simpa using h0)]at Z1;have d0:(vF Tk x != 0)=false:=by simpa using h0
    simp only[go_sem,d0];exact⟨Qs,_,QI.frame (by simp only[go_sem,Zq]),AH Tk x,_,R7,Ik.one x,Kk.one Ik.rising hcx,Z1,hg6,rfl⟩
   ·rw[Qg (by simpa using h0)]at Z1;have d0:(vF Tk x != 0)=true:=by simpa using h0
    simp only[go_sem,d0];rw[Ld,PZ,Z1];simp only[Qg (show vF Tk x≠0 from h0),Qd h0];exact⟨0,trivial,(λh=>absurd h h0),hg6⟩
  ·have ZW:k=l.length:=by omega
   have dk:=QQ Qs;rw[ZW,List.drop_length,Xy]at k9;rw[k9]at Ld PZ;simp only[ne_eq,not_true_eq_false,kQ]at Ld PZ;have hT:KG T l=Tk:=by unfold KG;rw[k9]
   have hlen:=Ik.len;have FF:Zg prog 121 (h++g2) [.ptr (h.length+1) 0 0 0] (λd=>d=Xh (XR Tk)):=by
    obtain⟨m,c,es,h1,h2,h3⟩:=Rk.toR;exact Qw2 _ _ m c h3 (by omega) h1 h2 (λx hx=>(Kk x hx).nn)
   have JR:=QwY Tk;refine Qf hb ?_;simp only[go_sem,Qa,dk];apply Q1 hb;refine JJ hb Qrq FF λd hR=>?_;subst hR;apply Q1 hb;refine Ax hb Qrp (QwR n (XR Tk) (by omega) Kk.Qxl) (Qo.flat rfl) λd h hR=>?_;obtain⟨rfl,rfl⟩:=hR;apply Q1 hb;rw[Ld,PZ,hT];by_cases h0:BR n (XR Tk)=0
   ·have d0:(BR n (XR Tk) != 0)=false:=by simpa using h0
    simp only[go_sem,Qa,d0];rw[h0];exact⟨h.length+1,by simp,λ_=>Rk,g2,rfl⟩
   ·have d0:(BR n (XR Tk) != 0)=true:=by simpa using h0
    simp only[go_sem,Qa,d0];exact⟨0,by simp[h0],λh=>absurd h h0,g2,rfl⟩
def aQ{T}(I:K0 T)(K:vH T){l}(hc:∀c∈l,Z3.Ok c):K0 (KG T l)/\vH (KG T l):=QgT l T 0 I K hc
def FG(T:List Qn)(id:Int):Bool:=decide (1<QZ ((Qy T id).getD default).rt)
def aR(A B:List Qn):Bool:=(JX A B).any λid=>FG A id || FG B id
structure Nd where
 c:Qn
 Jb:Nat
 du:Du
 sh:Sh
 cp:Cp
 q:Qu
instance:Inhabited Nd:=⟨⟨default,0,default,default,default,default⟩⟩
def Kg(d:D)(n:Nd):List D:=d::(n.c.cells++(u64 n.Jb::(n.du.cells++(n.sh.cells++n.cp.cells))))
section
variable (d:D)(n:Nd)
@[go_sem] theorem QE2:(Kg d n).getD 0 D.undef=d:=rfl
@[go_sem] theorem QE3:(List.drop 1 (Kg d n)).getD 0 D.undef=Qb n.c.iD:=rfl
@[go_sem] theorem QE4:(List.drop 2 (Kg d n)).getD 0 D.undef=Qb n.c.parent:=rfl
@[go_sem] theorem QE5:(List.drop 3 (Kg d n)).getD 0 D.undef=QY n.c.leaf:=rfl
@[go_sem] theorem QE6:(List.drop 15 (Kg d n)).getD 0 D.undef=u64 n.Jb:=rfl
@[go_sem] theorem QE7:(List.drop 36 (Kg d n)).getD 0 D.undef=u64 n.du.Xx:=rfl
@[go_sem] theorem QE8:(List.drop 37 (Kg d n)).getD 0 D.undef=u64 n.du.dead:=rfl
@[go_sem] theorem QE9:(List.drop 48 (Kg d n)).getD 0 D.undef=u64 n.sh.time:=rfl
@[go_sem] theorem QFa:(List.drop 59 (Kg d n)).getD 0 D.undef=u64 n.cp.fit:=rfl
@[go_sem] theorem QFb:List.take 14 (List.drop 1 (Kg d n))=n.c.cells:=rfl
@[go_sem] theorem QFc:List.take 3 (List.drop 4 (Kg d n))=n.c.rt.cells:=rfl
@[go_sem] theorem QFd:List.take 3 (List.drop 7 (Kg d n))=n.c.ls.cells:=rfl
@[go_sem] theorem QFe:List.take 3 (List.drop 10 (Kg d n))=n.c.ul.cells:=rfl
@[go_sem] theorem QFf:List.take 22 (List.drop 16 (Kg d n))=n.du.cells:=rfl
@[go_sem] theorem QFg:List.take 11 (List.drop 38 (Kg d n))=n.sh.cells:=rfl
@[go_sem] theorem QFh:List.take 11 (List.drop 49 (Kg d n))=n.cp.cells:=rfl
@[go_sem] theorem QFi(v):List.take 15 (Kg d n)++(.raw (.int .u64 ((v:Nat):Int))::List.drop 16 (Kg d n))=Kg d { n with Jb:=v }:=rfl
@[go_sem] theorem QFj(x:Du):List.take 16 (Kg d n)++(.raw (.bool x.has)::.raw (.int .u64 ((x.dl.f.x:Nat):Int))::.raw (.int .u64 ((x.dl.f.y / 18446744073709551616:Nat):Int))::.raw (.int .u64 ((x.dl.f.y % 18446744073709551616:Nat):Int))::.raw (.int .u64 ((x.dl.f.m:Nat):Int))::.raw (.int .u64 ((x.dl.t.x:Nat):Int))::.raw (.int .u64 ((x.dl.t.y / 18446744073709551616:Nat):Int))::.raw (.int .u64 ((x.dl.t.y % 18446744073709551616:Nat):Int))::.raw (.int .u64 ((x.dl.t.m:Nat):Int))::.raw (.bool x.dl.b)::.raw (.int .u64 ((x.rd.f.x:Nat):Int))::.raw (.int .u64 ((x.rd.f.y / 18446744073709551616:Nat):Int))::.raw (.int .u64 ((x.rd.f.y % 18446744073709551616:Nat):Int))::.raw (.int .u64 ((x.rd.f.m:Nat):Int))::.raw (.int .u64 ((x.rd.t.x:Nat):Int))::.raw (.int .u64 ((x.rd.t.y / 18446744073709551616:Nat):Int))::.raw (.int .u64 ((x.rd.t.y % 18446744073709551616:Nat):Int))::.raw (.int .u64 ((x.rd.t.m:Nat):Int))::.raw (.bool x.rd.b)::.raw (.int .u64 ((x.Jt:Nat):Int))::.raw (.int .u64 ((x.Xx:Nat):Int))::.raw (.int .u64 ((x.dead:Nat):Int))::List.drop 38 (Kg d n))=Kg d { n with du:=x }:=rfl
@[go_sem] theorem Qxo(x:Sh):List.take 38 (Kg d n)++(.raw (.bool x.has)::.raw (.int .u64 ((x.run.f.x:Nat):Int))::.raw (.int .u64 ((x.run.f.y / 18446744073709551616:Nat):Int))::.raw (.int .u64 ((x.run.f.y % 18446744073709551616:Nat):Int))::.raw (.int .u64 ((x.run.f.m:Nat):Int))::.raw (.int .u64 ((x.run.t.x:Nat):Int))::.raw (.int .u64 ((x.run.t.y / 18446744073709551616:Nat):Int))::.raw (.int .u64 ((x.run.t.y % 18446744073709551616:Nat):Int))::.raw (.int .u64 ((x.run.t.m:Nat):Int))::.raw (.bool x.run.b)::.raw (.int .u64 ((x.time:Nat):Int))::List.drop 49 (Kg d n))=Kg d { n with sh:=x }:=rfl
@[go_sem] theorem QFk(x:Cp):List.take 49 (Kg d n)++(.raw (.bool x.has)::.raw (.int .u64 ((x.run.f.x:Nat):Int))::.raw (.int .u64 ((x.run.f.y / 18446744073709551616:Nat):Int))::.raw (.int .u64 ((x.run.f.y % 18446744073709551616:Nat):Int))::.raw (.int .u64 ((x.run.f.m:Nat):Int))::.raw (.int .u64 ((x.run.t.x:Nat):Int))::.raw (.int .u64 ((x.run.t.y / 18446744073709551616:Nat):Int))::.raw (.int .u64 ((x.run.t.y % 18446744073709551616:Nat):Int))::.raw (.int .u64 ((x.run.t.m:Nat):Int))::.raw (.bool x.run.b)::.raw (.int .u64 ((x.fit:Nat):Int))::List.drop 60 (Kg d n))=Kg d { n with cp:=x }:=rfl
end
inductive Tag where
 | no|sc|tree|mQ|vk (id:Int)|YG (id:Int)|on|lv|mk|Xk (id:Int)|Qxp
deriving DecidableEq
def QS(own:Nat->Tag)(h:List Ob)(t:Tag):Nat->Tag:=λl=>if h.length<=l then t else own l
def aS{own}{h}{t}(l):more (λl=>own l=t) h l->QS own h t l=t:=λhl=>by
 unfold QS;split
 ·rfl
 ·rcases hl with hl|hl
  ·exact hl
  ·omega
def JY{own}{h:List Ob}{t}{l}(hl:l<h.length):QS own h t l=own l:=by unfold QS;rw[Qd (by omega)]
structure Qk where
 lk:Cf
 T:List Qn
 To:List Qn
 N:List Nd
 A:List Int
 Lv:List It
 ks:Int->Bool
 KT:Int->List It
 Ql:Nat
 acc:Nat
structure Loc where
 t:Nat
 b:Nat
 o:Nat
 v:Nat
 m:Nat
 cb:Nat
 cm:Nat
 eb:List QR
 em:List QR
 le:Int->Nat
 lq:Int->Nat
 lk:Int->Nat
def Qm(N:List Nd)(id:Int):Option Nd:=N.find? λn=>n.c.iD==id
@[go_sem] def zI(c:Cf)(t b o v m Ql acc:Nat):Ob:=⟨.one,0,9,1,λ_=>[Qb c.t,Qb c.Vc,.ptr t 0 0 0,.mref b 0,.ptr o 0 0 0,.ptr v 0 0 0,.mref m 0,u64 Ql,u64 acc]⟩
@[go_sem] def XS(d:D)(n:Nd):Ob:=⟨.one,0,60,1,λ_=>Kg d n⟩
def qD(lq:Int->Nat)(n:Nd):D:=if n.c.leaf=true then .ptr (lq n.c.iD) 0 0 0 else .raw (.pointer none)
structure Nd.Ok (n:Nd):Prop where
 Jb:n.Jb<18446744073709551616
 du:n.du.Ok
 sh:n.sh.Ok
 cp:n.cp.Ok
 c:Qn.Ok n.c
structure Zs (own:Nat->Tag) (h:List Ob) (p:Nat) (L:Loc) (M:Qk):Prop where
 ob:h[p]? = some (zI M.lk L.t L.b L.o L.v L.m M.Ql M.acc)
 op:own p=.sc
 tr:VN (λl=>own l=.tree) h L.t M.T
 Vf:h[L.b]? = some (QM .i64 L.cb L.eb)
 YH:Kq L.eb (λid=>(Qm M.N id).map λ_=>.ptr (L.le id) 0 0 0)
 ow:own L.b=.mQ
 Jd:∀id n,Qm M.N id=some n->h[L.le id]? = some (XS (qD L.lq n) n)/\own (L.le id)=.vk id
 WO:∀id n,Qm M.N id=some n->n.c.leaf=true->∃k:Nat,n.c.ZF=k/\kg (λl=>own l=.YG id) h (L.lq id) k n.c.bytes n.q
 YI:qM (λl=>own l=.on) h L.o M.To M.A
 Xl:V7 (λl=>own l=.lv) h L.v M.Lv
 Vx:h[L.m]? = some (QM .i64 L.cm L.em)
 Xm:Kq L.em (λid=>if M.ks id=true then some (.ptr (L.lk id) 0 0 0) else none)
 om:own L.m=.mk
 kids:∀id,M.ks id=true->V7 (λl=>own l=.Xk id) h (L.lk id) (M.KT id)
 Ye:∀id n,Qm M.N id=some n->n.Ok
def V7.step{S S'}{h h':List Ob}{p}{L}(e:∀l,l<h.length->S l->S' l/\h'[l]? = h[l]?):V7 S h p L->V7 S' h' p L:=λ⟨a,m,t,c,es,T⟩=>
 have k:∀l o,S l->h[l]? = some o->h'[l]? = some o:=λl o h1 h2=>(e l (Qc h2) h1).2.trans h2
 ⟨a,m,t,c,es,k _ _ T.sp T.o,⟨k _ _ T.sa T.av.o,T.av.is.frame λl hl=>(e l (T.av.is.lt l hl) (T.st l hl)).2,T.av.list,T.av.nd,T.av.out,T.av.sorted⟩,k _ _ T.sm T.mo,T.mp,T.vi,T.pa,T.pm,T.am,T.pt,T.mt,(e _ (Qc T.o) T.sp).1,(e _ (Qc T.av.o) T.sa).1,(e _ (Qc T.mo) T.sm).1,λl hl=>(e l (T.av.is.lt l hl) (T.st l hl)).1⟩
def Live(t:Tag):Prop:=t≠.no/\t≠.Qxp
def Zs.step{own own'}{h h':List Ob}{p}{L}{M}(C:Zs own h p L M)(e:∀l,l<h.length->Live (own l)->own' l=own l/\h'[l]? = h[l]?):Zs own' h' p L M:=by
 have k:∀l o t,own l=t->Live t->h[l]? = some o->h'[l]? = some o:=λl o t h1 h2 h3=>(e l (Qc h3) (by rw[h1];exact h2)).2.trans h3;have o1:∀l o t,own l=t->Live t->h[l]? = some o->own' l=t:=λl o t h1 h2 h3=>by rw[(e l (Qc h3) (by rw[h1];exact h2)).1,h1]
 have s:∀t,Live t->∀l,l<h.length->own l=t->own' l=t/\h'[l]? = h[l]? := λt h2 l hl h1=>by
  obtain⟨a,b⟩:=e l hl (by rw[h1];exact h2);exact⟨by rw[a,h1],b⟩
 refine⟨k _ _ _ C.op (by simp[Live]) C.ob,o1 _ _ _ C.op (by simp[Live]) C.ob,C.tr.step (s _ (by simp[Live])),k _ _ _ C.ow (by simp[Live]) C.Vf,C.YH,o1 _ _ _ C.ow (by simp[Live]) C.Vf,λid n hn=>?_,λid n hn hl=>?_,C.YI.step (s _ (by simp[Live])),C.Xl.step (s _ (by simp[Live])),k _ _ _ C.om (by simp[Live]) C.Vx,C.Xm,o1 _ _ _ C.om (by simp[Live]) C.Vx,λid hk=>(C.kids id hk).step (s _ (by simp[Live])),C.Ye⟩
 ·obtain⟨h1,h2⟩:=C.Jd id n hn;exact⟨k _ _ _ h2 (by simp[Live]) h1,o1 _ _ _ h2 (by simp[Live]) h1⟩
 ·obtain⟨kk,h1,h2⟩:=C.WO id n hn hl;exact⟨kk,h1,h2.step (s _ (by simp[Live]))⟩
structure Zn (own:Nat->Tag) (h:List Ob) (own':Nat->Tag) (h':List Ob):Prop where
 same:∀l,l<h.length->own' l=own l
 keep:∀l,l<h.length->own l=Tag.no->h'[l]? = h[l]?
 len:h.length<=h'.length
def Zn.refl(own)(h):Zn own h own h:=⟨λ_ _=>rfl,λ_ _ _=>rfl,QD _⟩
def Zn.trans{own own' P0}{h h' XZ}(a:Zn own h own' h')(b:Zn own' h' P0 XZ):Zn own h P0 XZ:=
 ⟨λl hl=>(b.same l (jO hl a.len)).trans (a.same l hl),λl hl hn=>(b.keep l (jO hl a.len) ((a.same l hl).trans hn)).trans (a.keep l hl hn),Kz a.len b.len⟩
def Zn.app(own)(h g)(t):Zn own h (QS own h t) (h++g):=⟨λl hl=>JY hl,λl hl _=>QC hl,by simp⟩
def Zn.of{own}{h h'}{t}(ht:t≠.no)(s:Step (λl=>own l=t) h h'):Zn own h (QS own h t) h':=
 ⟨λl hl=>JY hl,λl hl hn=>s.keep l hl (by rw[hn];exact λe=>ht e.symm),s.len⟩
def Zn.set{own}{h:List Ob}{l}(o)(hl:own l≠.no):Zn own h own (h.set l o):=⟨λ_ _=>rfl,λj hj hn=>Qi (λe=>hl (e▸hn)),by simp⟩
section
variable {own:Nat->Tag}{h h':List Ob}{p:Nat}{L:Loc}{M:Qk}(C:Zs own h p L M)
include C
theorem Zs.QjH(g):Zs (QS own h .no) (h++g) p L M:=C.step λl hl _=>⟨JY hl,QC hl⟩
theorem Zs.loc{l}(hl:own l=.no)(o):Zs own (h.set l o) p L M:=C.step λj _ hj=>⟨rfl,Qi (λe=>hj.1 (by rw[<- e,hl]))⟩
theorem Zs.rest{t}(s:Step (λl=>own l=t) h h'):∀u,u≠t->∀l,l<h.length->own l=u->QS own h t l=u/\h'[l]? = h[l]? := λu hu l hl h1=>
 ⟨by rw[JY hl,h1],s.keep l hl (by rw[h1];exact hu)⟩
theorem Zs.Xk(id)(hk:M.ks id=true){B}(T':V7 (more (λl=>own l=.Xk id) h) h' (L.lk id) B)(s:Step (λl=>own l=.Xk id) h h'):Zs (QS own h (.Xk id)) h' p L { M with KT:=λj=>if j=id then B else M.KT j }:=by
 have r:=C.rest s;have k:∀l o t,own l=t->t≠.Xk id->h[l]? = some o->h'[l]? = some o/\QS own h (.Xk id) l=t:=λl o t h1 h2 h3=>by
  obtain⟨a,b⟩:=r t h2 l (Qc h3) h1;exact⟨b.trans h3,a⟩
 refine⟨(k _ _ _ C.op (by simp) C.ob).1,(k _ _ _ C.op (by simp) C.ob).2,C.tr.step (r _ (by simp)),(k _ _ _ C.ow (by simp) C.Vf).1,C.YH,(k _ _ _ C.ow (by simp) C.Vf).2,λi n hn=>?_,λi n hn hl=>?_,C.YI.step (r _ (by simp)),C.Xl.step (r _ (by simp)),(k _ _ _ C.om (by simp) C.Vx).1,C.Xm,(k _ _ _ C.om (by simp) C.Vx).2,λi hi=>?_,C.Ye⟩
 ·obtain⟨h1,h2⟩:=C.Jd i n hn;exact k _ _ _ h2 (by simp) h1
 ·obtain⟨kk,h1,h2⟩:=C.WO i n hn hl;exact⟨kk,h1,h2.step (r _ (by simp))⟩
 ·by_cases e:i=id
  ·subst e;dsimp only;rw[Qg rfl];exact T'.mono λl hl=>aS l hl
  ·dsimp only;rw[Qd e];exact(C.kids i hi).step (r _ (by simpa using e))
theorem Zs.lv{B}(T':V7 (more (λl=>own l=.lv) h) h' L.v B)(s:Step (λl=>own l=.lv) h h'):Zs (QS own h .lv) h' p L { M with Lv:=B }:=by
 have r:=C.rest s;have k:∀l o t,own l=t->t≠.lv->h[l]? = some o->h'[l]? = some o/\QS own h .lv l=t:=λl o t h1 h2 h3=>by
  obtain⟨a,b⟩:=r t h2 l (Qc h3) h1;exact⟨b.trans h3,a⟩
 refine⟨(k _ _ _ C.op (by simp) C.ob).1,(k _ _ _ C.op (by simp) C.ob).2,C.tr.step (r _ (by simp)),(k _ _ _ C.ow (by simp) C.Vf).1,C.YH,(k _ _ _ C.ow (by simp) C.Vf).2,λi n hn=>?_,λi n hn hl=>?_,C.YI.step (r _ (by simp)),T'.mono λl hl=>aS l hl,(k _ _ _ C.om (by simp) C.Vx).1,C.Xm,(k _ _ _ C.om (by simp) C.Vx).2,λi hi=>(C.kids i hi).step (r _ (by simp)),C.Ye⟩
 ·obtain⟨h1,h2⟩:=C.Jd i n hn;exact k _ _ _ h2 (by simp) h1
 ·obtain⟨kk,h1,h2⟩:=C.WO i n hn hl;exact⟨kk,h1,h2.step (r _ (by simp))⟩
theorem Zs.act{A'}(T':qM (more (λl=>own l=.on) h) h' L.o M.To A')(s:Step (λl=>own l=.on) h h'):Zs (QS own h .on) h' p L { M with A:=A' }:=by
 have r:=C.rest s;have k:∀l o t,own l=t->t≠.on->h[l]? = some o->h'[l]? = some o/\QS own h .on l=t:=λl o t h1 h2 h3=>by
  obtain⟨a,b⟩:=r t h2 l (Qc h3) h1;exact⟨b.trans h3,a⟩
 refine⟨(k _ _ _ C.op (by simp) C.ob).1,(k _ _ _ C.op (by simp) C.ob).2,C.tr.step (r _ (by simp)),(k _ _ _ C.ow (by simp) C.Vf).1,C.YH,(k _ _ _ C.ow (by simp) C.Vf).2,λi n hn=>?_,λi n hn hl=>?_,T'.step λl _ hl=>⟨aS l hl,rfl⟩,C.Xl.step (r _ (by simp)),(k _ _ _ C.om (by simp) C.Vx).1,C.Xm,(k _ _ _ C.om (by simp) C.Vx).2,λi hi=>(C.kids i hi).step (r _ (by simp)),C.Ye⟩
 ·obtain⟨h1,h2⟩:=C.Jd i n hn;exact k _ _ _ h2 (by simp) h1
 ·obtain⟨kk,h1,h2⟩:=C.WO i n hn hl;exact⟨kk,h1,h2.step (r _ (by simp))⟩
end
def Zn.BT{own}{h:List Ob}{own'}{H:List Ob}(D:Zn own h own' H){l}(hl:h.length<=l)(o):Zn own h own' (H.set l o):=⟨D.same,λj h1 h2=>by rw[Qi (by omega)];exact D.keep j h1 h2,by simpa using D.len⟩
def VG(N:List Nd)(id:Int)(f:Nd->Nd):List Nd:=N.map λn=>if n.c.iD=id then f n else n
def zJ{N}{id}{f}(hf:∀n,(f n).c.iD=n.c.iD)(j:Int):Qm (VG N id f) j=if j=id then (Qm N j).map f else Qm N j:=by
 unfold Qm VG;rw[List.find?_map];have e:((λn:Nd=>n.c.iD==j) ∘ λn=>if n.c.iD=id then f n else n)=λn=>n.c.iD==j:=by
  funext n;simp only[Function.comp_apply];split<;>simp[hf]
 rw[e];by_cases hj:j=id
 ·subst hj;rw[Qg rfl];cases hq:N.find? λn=>n.c.iD==j with
  | none=>rfl
  | some n=>
   have:=vR hq;simp only[zY]at this;simp[this]
 ·rw[Qd hj];cases hq:N.find? λn=>n.c.iD==j with
  | none=>rfl
  | some n=>
   have:=vR hq;simp only[zY]at this;simp only[Kt];rw[Qd (by rw[this];exact hj)]
section
variable {own:Nat->Tag}{h:List Ob}{p:Nat}{L:Loc}{M:Qk}(C:Zs own h p L M)
include C
theorem Zs.vk{id}{n:Nd}(hn:Qm M.N id=some n)(f)(hc:∀n,(f n).c=n.c)(hq:∀n,(f n).q=n.q)(Js:(f n).Ok):Zs own (h.set (L.le id) (XS (qD L.lq n) (f n))) p L { M with N:=VG M.N id f }:=by
 obtain⟨e1,e2⟩:=C.Jd id n hn;have QB:∀l o t,own l=t->t≠.vk id->h[l]? = some o->(h.set (L.le id) (XS (qD L.lq n) (f n)))[l]? = some o:=λl o t h1 h2 h3=>by
  rw[Qi (λe=>h2 (by rw[<- h1,<- e,e2]))];exact h3
 have r:∀t,t≠.vk id->∀l,l<h.length->own l=t->own l=t/\(h.set (L.le id) (XS (qD L.lq n) (f n)))[l]? = h[l]? := λt ht l hl h1=>⟨h1,Qi (λe=>ht (by rw[<- h1,<- e,e2]))⟩;have Zk:∀n,(f n).c.iD=n.c.iD:=λn=>by rw[hc]
 have DG:=zJ (N:=M.N) (id:=id) Zk;refine⟨QB _ _ _ C.op (by simp) C.ob,C.op,C.tr.step (r _ (by simp)),QB _ _ _ C.ow (by simp) C.Vf,C.YH.to λj=>?_,C.ow,λj m hm=>?_,λj m hm hl=>?_,C.YI.step (r _ (by simp)),C.Xl.step (r _ (by simp)),QB _ _ _ C.om (by simp) C.Vx,C.Xm,C.om,λj hj=>(C.kids j hj).step (r _ (by simp)),λj m hm=>?_⟩
 ·dsimp only;rw[DG];split
  ·cases Qm M.N j<;>rfl
  ·rfl
 ·dsimp only at hm;rw[DG]at hm;by_cases hj:j=id
  ·subst hj;rw[Qg rfl,hn,Kt]at hm;cases hm;refine⟨?_,e2⟩;rw[Qv (Qc e1)];unfold qD;rw[hc]
  ·rw[Qd hj]at hm;obtain⟨g1,g2⟩:=C.Jd j m hm;exact⟨QB _ _ _ g2 (by simpa using hj) g1,g2⟩
 ·dsimp only at hm;rw[DG]at hm;by_cases hj:j=id
  ·subst hj;rw[Qg rfl,hn,Kt]at hm;cases hm;rw[hc]at hl ⊢;rw[hq];obtain⟨kk,g1,g2⟩:=C.WO j n hn hl;exact⟨kk,g1,g2.step (r _ (by simp))⟩
  ·rw[Qd hj]at hm;obtain⟨kk,g1,g2⟩:=C.WO j m hm hl;exact⟨kk,g1,g2.step (r _ (by simp))⟩
 ·dsimp only at hm;rw[DG]at hm;by_cases hj:j=id
  ·subst hj;rw[Qg rfl,hn,Kt]at hm;cases hm;exact Js
  ·rw[Qd hj]at hm;exact C.Ye j m hm
theorem Zs.YG{h':List Ob}{id:Int}{n:Nd}(hn:Qm M.N id=some n)(hl:n.c.leaf=true){k:Nat}(hk:n.c.ZF=k){q':Qu}(Q:kg (λl=>own l=.YG id) h' (L.lq id) k n.c.bytes q')(s:Step (λl=>own l=.YG id) h h'):Zs (QS own h (.YG id)) h' p L { M with N:=VG M.N id λn=>{ n with q:=q' } }:=by
 have r:=C.rest s;have kk:∀l o t,own l=t->t≠.YG id->h[l]? = some o->h'[l]? = some o/\QS own h (.YG id) l=t:=λl o t h1 h2 h3=>by
  obtain⟨a,b⟩:=r t h2 l (Qc h3) h1;exact⟨b.trans h3,a⟩
 have DG:=zJ (N:=M.N) (id:=id) (f:=λn=>{ n with q:=q' }) (λ_=>rfl);refine⟨(kk _ _ _ C.op (by simp) C.ob).1,(kk _ _ _ C.op (by simp) C.ob).2,C.tr.step (r _ (by simp)),(kk _ _ _ C.ow (by simp) C.Vf).1,C.YH.to λj=>?_,(kk _ _ _ C.ow (by simp) C.Vf).2,λj m hm=>?_,λj m hm BO=>?_,C.YI.step (r _ (by simp)),C.Xl.step (r _ (by simp)),(kk _ _ _ C.om (by simp) C.Vx).1,C.Xm,(kk _ _ _ C.om (by simp) C.Vx).2,λj hj=>(C.kids j hj).step (r _ (by simp)),λj m hm=>?_⟩
 ·dsimp only;rw[DG];split
  ·cases Qm M.N j<;>rfl
  ·rfl
 ·dsimp only at hm;rw[DG]at hm;by_cases hj:j=id
  ·subst hj;rw[Qg rfl,hn,Kt]at hm;cases hm;obtain⟨g1,g2⟩:=C.Jd j n hn;exact kk _ _ _ g2 (by simp) g1
  ·rw[Qd hj]at hm;obtain⟨g1,g2⟩:=C.Jd j m hm;exact kk _ _ _ g2 (by simp) g1
 ·dsimp only at hm;rw[DG]at hm;by_cases hj:j=id
  ·subst hj;rw[Qg rfl,hn,Kt]at hm;cases hm;exact⟨k,hk,Q.step λl _ h1=>⟨aS l (.inl h1),rfl⟩⟩
  ·rw[Qd hj]at hm;obtain⟨kk2,g1,g2⟩:=C.WO j m hm BO;exact⟨kk2,g1,g2.step (r _ (by simpa using hj))⟩
 ·dsimp only at hm;rw[DG]at hm;by_cases hj:j=id
  ·subst hj;rw[Qg rfl,hn,Kt]at hm;cases hm;have:=C.Ye j n hn;exact⟨this.Jb,this.du,this.sh,this.cp,this.c⟩
  ·rw[Qd hj]at hm;exact C.Ye j m hm
theorem Zs.Ql(c a):Zs own (h.set p (zI M.lk L.t L.b L.o L.v L.m c a)) p L { M with Ql:=c,acc:=a }:=by
 have QB:∀l o t,own l=t->t≠.sc->h[l]? = some o->(h.set p (zI M.lk L.t L.b L.o L.v L.m c a))[l]? = some o:=λl o t h1 h2 h3=>by
  rw[Qi (λe=>h2 (by rw[<- h1,<- e,C.op]))];exact h3
 have r:∀t,t≠.sc->∀l,l<h.length->own l=t->own l=t/\(h.set p (zI M.lk L.t L.b L.o L.v L.m c a))[l]? = h[l]? := λt ht l hl h1=>⟨h1,Qi (λe=>ht (by rw[<- h1,<- e,C.op]))⟩;refine⟨Qv (Qc C.ob),C.op,C.tr.step (r _ (by simp)),QB _ _ _ C.ow (by simp) C.Vf,C.YH,C.ow,λj m hm=>?_,λj m hm hl=>?_,C.YI.step (r _ (by simp)),C.Xl.step (r _ (by simp)),QB _ _ _ C.om (by simp) C.Vx,C.Xm,C.om,λj hj=>(C.kids j hj).step (r _ (by simp)),C.Ye⟩
 ·obtain⟨g1,g2⟩:=C.Jd j m hm;exact⟨QB _ _ _ g2 (by simp) g1,g2⟩
 ·obtain⟨kk,g1,g2⟩:=C.WO j m hm hl;exact⟨kk,g1,g2.step (r _ (by simp))⟩
end
structure Qx (M:Qk):Prop where
 tree:K0 M.T
 yi:vH M.T
 to:M.To=M.T
 nodes:M.T=M.N.map (·.c)
 Yf:wy M.T M.A
 ks:∀id,M.ks id=true↔id=0\/∃n,Qm M.N id=some n/\n.c.leaf=false
 yj:∀x∈M.Lv,(Qy M.T x.ki).isSome=true
 jD:∀id,∀x∈M.KT id,∃c,Qy M.T x.ki=some c/\c.parent=id
 kp:∀id,∀x∈M.KT id,x.ka<=18446744073709551615
 Ql:M.Ql<=4611686018427387904
 acc:M.acc<=1099511627776
def mR(N:List Nd)(id:Int):Qy (N.map (·.c)) id=(Qm N id).map (·.c):=by
 unfold Qy Qm;rw[List.find?_map];rfl
section
variable {M:Qk}(I:Qx M)
include I
theorem Qx.find(id:Int):Qy M.T id=(Qm M.N id).map (·.c):=by rw[I.nodes,mR]
theorem Qx.mS(id):∀x∈M.KT id,(Qy M.T x.ki).isSome=true:=λx hx=>by
 obtain⟨c,hc,_⟩:=I.jD id x hx;rw[hc];rfl
theorem Qx.some{id}{n:Nd}(h:Qm M.N id=some n):Qy M.T id=Option.some n.c:=by rw[I.find,h];rfl
omit I in
theorem Qx.id{id}{n:Nd}(h:Qm M.N id=Option.some n):n.c.iD=id:=by
 have:=vR h;simpa using this
theorem Qx.aT{id}{n}(h:Qm M.N id=Option.some n):id≠0:=λe=>by
 have:=I.some h;rw[e,CY I.tree]at this;cases this
theorem Qx.QlF{id}{c}(h:Qy M.T id=Option.some c):∃n,Qm M.N id=Option.some n/\n.c=c:=by
 rw[I.find]at h;cases hn:Qm M.N id with
 | none=>rw[hn]at h;cases h
 | some n=>rw[hn]at h;exact⟨n,rfl,IC h⟩
end
def V7.nd{S}{h}{p}{L:List It}:V7 S h p L->(L.map It.ki).Nodup:=λ⟨a,m,t,c,es,T⟩=>T.ids
def P3{T}(I:K0 T){L:List It}(hn:(L.map It.ki).Nodup)(hs:∀x∈L,(Qy T x.ki).isSome=true):L.length<=64:=by
 have h1:(L.map It.ki).length<=(T.map (·.iD)).length:=by
  refine List.Nodup.length_le_of_subset hn λi hi=>?_;obtain⟨x,hx,rfl⟩:=Jn.1 hi;obtain⟨c,hc⟩:=Ce.1 (hs x hx);exact Jn.2 ⟨c,wx I hc,Qtj I hc⟩
 have:=I.len;simp only[J6]at h1;omega
def JZ(M:Qk)(id:Int):Bool:=Z4 M.T M.A id
def Yg(M:Qk)(id:Int)(n:Nd):Nat:=if n.c.leaf=true\/JZ M id=false then n.cp.fit else max n.cp.fit (Az (M.KT id))
section
variable {own:Nat->Tag}{h:List Ob}{p:Nat}{L:Loc}{M:Qk}(C:Zs own h p L M)(I:Qx M)
include C I
omit I in
theorem Zs.look{id}{n}(hn:Qm M.N id=some n):ZP L.eb id=some (.ptr (L.le id) 0 0 0):=by
 have:=C.YH.at_ id;rw[hn]at this;exact this
theorem Zs.aU:Hl h L.o M.T M.A:=by
 have:=C.YI.toR;rwa [I.to]at this
theorem Qxr{id}{n}(hn:Qm M.N id=some n):Zg prog 92 h [.ptr p 0 0 0,.ptr (L.le id) 0 0 0] (λd=>d=u64 (Yg M id n)):=by
 have ho:=ZM C.ob;have he:=ZM (C.Jd id n hn).1;have hm:=ZM C.Vx;have Zk:=Qx.id hn;have CH:=L0 (C.aU I) I.tree I.Yf id (I.aT hn);unfold Yg;cases hl:n.c.leaf with
 | true=>
  rw[Qg (.inl rfl)];refine Zt Qh 200 func92 rfl ntmps92 results92 rfl λbase w pl F hF Za hb=>?_;rw[<- hF]at ho he;have Qe:=Qc ho;have Z5:=Qc he;simp only[go_sem,Qa,ho,Qe,he,Z5];apply QH hb [0,1,2,3,4,5,6,7,8,9,10,11,12,13,14,1015,16,17];simp only[go_sem,Qa,ho,Qe,he,Z5,hl,Go.undef];all_goals first|exact⟨_,rfl,rfl⟩|exact⟨_,rfl⟩|rfl|exact⟨[],(Zd _).symm⟩|exact⟨[],(Zd _).symm,rfl⟩
 | false=>
  have zK:M.ks id=true:=(I.ks id).2 (.inr ⟨n,hn,hl⟩);have qQ:=C.Xm.at_ id;rw[Qg zK]at qQ;have hT:=(C.kids id zK).toR;have vr:Z4 M.T M.A id=JZ M id:=rfl;rw[vr]at CH;cases ha:JZ M id with
  | false=>
   rw[ha]at CH;rw[Qg (.inr rfl)];refine Zt Qh 200 func92 rfl ntmps92 results92 rfl λbase w pl F hF Za hb=>?_;rw[<- hF]at ho he;have Qe:=Qc ho;have Z5:=Qc he;simp only[go_sem,Qa,ho,Qe,he,Z5];apply QH hb [0,1,2,3,4,5,6,7,8,9,10,11,12,13,14,1015,16,17];simp only[go_sem,Qa,ho,Qe,he,Z5,hl,Go.undef];have FH:Z4 M.T M.A id=false:=ha;refine Wv hb OL rfl ?_ (L0 ((C.aU I).more (KM hF)) I.tree I.Yf id (I.aT hn)) rfl λd hR=>?_
   ·simp only[go_sem,Qa,ho,Qe,he,Z5,hl,Go.undef,Zk,FH]
   subst hR;refine Zb hb ?_;simp only[go_sem,Qa,ho,Qe,he,Z5,hl,Go.undef,Zk,FH];all_goals first|exact⟨_,rfl,rfl⟩|exact⟨_,rfl⟩|rfl|exact⟨[],(Zd _).symm⟩|exact⟨[],(Zd _).symm,rfl⟩
  | true=>
   rw[ha]at CH;rw[Qd (by simp)];have FH:Z4 M.T M.A id=true:=ha;refine Zt Qh 200 func92 rfl ntmps92 results92 rfl λbase w pl F hF Za hb=>?_;rw[<- hF]at ho he hm;have Qe:=Qc ho;have Z5:=Qc he;have QK:=Qc hm;simp only[go_sem,Qa,ho,Qe,he,Z5,hm,QK];apply QH hb [0,1,2,3,4,5,6,7,8,9,10,11,12,13,14,1015,16,17];simp only[go_sem,Qa,ho,Qe,he,Z5,hl,Go.undef];refine Wv hb OL rfl ?_ (L0 ((C.aU I).more (KM hF)) I.tree I.Yf id (I.aT hn)) rfl λd hR=>?_
   ·simp only[go_sem,Qa,ho,Qe,he,Z5,hl,Go.undef,Zk,FH]
   subst hR;refine Zb hb ?_;simp only[go_sem,Qa,ho,Qe,he,Z5,hl,Go.undef,Zk,FH];apply QH hb [0,1,2,3,4,5,6,7,8,9,10,11,12,13,14,1015,1016,17];simp only[go_sem,Qa,ho,Qe,he,Z5,hm,QK,qQ,Zk];refine XO hb QdC (Qfo (hT.more (KM hF)) (I.kp id)) λd hR=>?_;subst hR;refine Zb hb ?_;simp only[go_sem,Qa,ho,Qe,he,Z5,hm,QK];refine Pc hb QrD (Qvq n.cp.fit (Az (M.KT id))) (Qo.flat rfl) λd h hR=>?_;obtain⟨rfl,rfl⟩:=hR;apply XN hb;all_goals first|exact⟨_,rfl,rfl⟩|exact⟨_,rfl⟩|rfl|exact⟨[],(Zd _).symm⟩|exact⟨[],(Zd _).symm,rfl⟩
end
def QE(M:Qk)(id:Int):Nd:=(Qm M.N id).getD default
def KN(M:Qk)(id:Int):Qk:=
 if JZ M id=true then { M with KT:=λj=>if j=(QE M id).c.parent then Xw id (QE M id).sh.time (Yg M id (QE M id)) (M.KT (QE M id).c.parent) else M.KT j } else M
def Vy(M:Qk):List Int->Qk
 | []=>M
 | id::r=>Vy (KN M id) r
def QgW(M):∀(l r:List Int),Vy M (l++r)=Vy (Vy M l) r
 | [],r=>rfl
 | id::l,r=>QgW (KN M id) l r
def MC(M:Qk)(id:Int):(KN M id).N=M.N/\(KN M id).T=M.T/\(KN M id).To=M.To/\(KN M id).A=M.A/\(KN M id).Lv=M.Lv/\(KN M id).ks=M.ks/\(KN M id).Ql=M.Ql/\(KN M id).acc=M.acc/\(KN M id).lk=M.lk:=by
 unfold KN;split<;>exact⟨rfl,rfl,rfl,rfl,rfl,rfl,rfl,rfl,rfl⟩
def HL:∀(l:List Int) (M:Qk),(Vy M l).N=M.N/\(Vy M l).T=M.T/\(Vy M l).To=M.To/\(Vy M l).A=M.A/\(Vy M l).Lv=M.Lv/\(Vy M l).ks=M.ks/\(Vy M l).Ql=M.Ql/\(Vy M l).acc=M.acc/\(Vy M l).lk=M.lk
 | [],M=>⟨rfl,rfl,rfl,rfl,rfl,rfl,rfl,rfl,rfl⟩
 | id::l,M=>by
  obtain⟨a1,a2,a3,a4,a5,a6,a7,a8,a9⟩:=HL l (KN M id);obtain⟨b1,b2,b3,b4,b5,b6,b7,b8,b9⟩:=MC M id;exact⟨a1.trans b1,a2.trans b2,a3.trans b3,a4.trans b4,a5.trans b5,a6.trans b6,a7.trans b7,a8.trans b8,a9.trans b9⟩
def mT{M:Qk}(I:Qx M){id}{n:Nd}(hn:Qm M.N id=some n)(Js:n.Ok):Qx (KN M id):=by
 obtain⟨b1,b2,b3,b4,b5,b6,b7,b8,b9⟩:=MC M id;have Z2:QE M id=n:=by unfold QE;rw[hn];rfl
 refine⟨by rw[b2];exact I.tree,by rw[b2];exact I.yi,by rw[b2,b3];exact I.to,by rw[b2,b1];exact I.nodes,by rw[b2,b4];exact I.Yf,by rw[b6,b1];exact I.ks,by rw[b5,b2];exact I.yj,λj x hx=>?_,λj x hx=>?_,by rw[b7];exact I.Ql,by rw[b8];exact I.acc⟩
 ·rw[b2];unfold KN at hx;split at hx
  ·dsimp only at hx;split at hx
   ·rename_i hj;subst hj;rcases Fp.1 hx with rfl|hx
    ·exact⟨n.c,I.some hn,by rw[Z2]⟩
    ·exact I.jD _ x (JE.1 hx).1
   ·exact I.jD _ x hx
  ·exact I.jD _ x hx
 ·unfold KN at hx;split at hx
  ·dsimp only at hx;split at hx
   ·rcases Fp.1 hx with rfl|hx
    ·rw[Z2];have:=Js.sh.time;show n.sh.time<=_;omega
    ·exact I.kp _ x (JE.1 hx).1
   ·exact I.kp _ x hx
  ·exact I.kp _ x hx
structure MD (own:Nat->Tag) (h:List Ob) (p:Nat) (L:Loc) (M:Qk) (U:List Int) (k:Nat) (s:St):Prop where
 ex:∃own' H,Zs own' H p L (Vy M (U.take k))/\Qx (Vy M (U.take k))/\Zn own h own' H/\s=⟨[(0,.ptr p 0 0 0),(12,ints U),(13,Qb U.length),(14,Qb k)],H⟩
def MD.of{own}{h}{p}{L}{M}{U:List Int}{k}{own'}{H}(C:Zs own' H p L (Vy M (U.take k)))(I:Qx (Vy M (U.take k)))(D:Zn own h own' H):MD own h p L M U k ⟨[(0,.ptr p 0 0 0),(12,ints U),(13,Qb U.length),(14,Qb k)],H⟩:=⟨⟨own',H,C,I,D,rfl⟩⟩
def mU{M:Qk}(I:Qx M){id}{n:Nd}(hn:Qm M.N id=some n):M.ks n.c.parent=true:=by
 rw[I.ks];by_cases h0:n.c.parent=0
 ·exact .inl h0
 ·obtain⟨d,hd,hl⟩:=I.tree.X9 n.c (wx I.tree (I.some hn)) h0;obtain⟨m,hm,rfl⟩:=I.QlF hd;exact .inr ⟨m,hm,hl⟩
def mV{own}{h}{p}{L}{M:Qk}(C:Zs own h p L M)(I:Qx M)(leaf):MFn prog 172 h [.ptr p 0 0 0,Qb leaf] (λd h'=>∃own',Zs own' h' p L (Vy M (up M.T leaf))/\Qx (Vy M (up M.T leaf))/\Zn own h own' h'):=by
 have ho:=C.ob;have aV:(up M.T leaf).length<=16:=Ar;refine QU Qh 200 func172 rfl ntmps172 results172 rfl λbase w pl hb=>?_;have Qe:=Qc ho;simp only[go_sem,Qa,ho,Qe];refine JJ hb Uu (iF C.tr.toR I.tree.toTreeInv leaf) λd hR=>?_;subst hR;refine Qf hb ?_;simp only[go_sem,Qa,ho,Qe];obtain⟨U,hU⟩:∃U,U=up M.T leaf:=⟨_,rfl⟩;rw[show Jq M.T 16 leaf=U from hU.symm];rw[<- hU]at aV ⊢;refine ZZ (MD own h p L M U) U.length QO (MD.of (k:=0) C I (Zn.refl own h)) ?_;rintro k _ hk ⟨own',H,Ck,Ik,Dk,rfl⟩;by_cases Qs:k<U.length
 ·have dk:=Q7 Qs;obtain⟨id,Zk⟩:∃id,id=U.getD k 0:=⟨_,rfl⟩;have Qxs:id∈up M.T leaf:=by rw[Zk,<- hU];exact jq U 0 k Qs
  obtain⟨e1,e2,e3,e4,e5,e6,e7,e8,e9⟩:=HL (U.take k) M;have XE:=Fj Qxs;have Z1:Vy M (U.take (k+1))=KN (Vy M (U.take k)) id:=by
   rw[getD_take U 0 k Qs,QgW,<- Zk];rfl
  obtain⟨Mk,DH⟩:∃Mk,Mk=Vy M (U.take k):=⟨_,rfl⟩;rw[<- DH]at Ck Ik e1 e2 e3 e4 e5 e6 e7 e8 e9 Z1;obtain⟨n,hn⟩:∃n,Qm Mk.N id=some n:=by
   rw[<- e2,Ik.find]at XE;cases hq:Qm Mk.N id with
   | none=>rw[hq]at XE;cases XE
   | some n=>exact⟨n,rfl⟩
  have Z2:QE Mk id=n:=by unfold QE;rw[hn];rfl
  have ql:=Ck.look hn;have ho:=Ck.ob;have Qe:=Qc ho;have Zo:=Ck.Vf;have wv:=Qc Zo;obtain⟨he,_⟩:=Ck.Jd id n hn;have Z5:=Qc he;have hm:=Ck.Vx;have QK:=Qc hm;have zK:=mU Ik hn;have qQ:=Ck.Xm.at_ n.c.parent;rw[Qg zK]at qQ;have Zq:=Vp (show k<4611686018427387904 by omega);refine Qf hb ?_;simp only[go_sem,Qa,dk,Qs,<- Zk,ho,Qe,Zo,wv,ql];refine JJ hb OL (L0 (Ck.aU Ik) Ik.tree Ik.Yf id (Ik.aT hn)) λd hR=>?_;subst hR;refine Qf hb ?_;simp only[go_sem,Qa,ho,Qe];cases ha:Z4 Mk.T Mk.A id with
  | false=>
   have mW:KN Mk id=Mk:=by unfold KN;rw[Qd (by unfold JZ;rw[ha];decide)]
   rw[mW]at Z1;simp only[go_sem,Qa];exact⟨Qs,_,QI.frame (by simp only[go_sem,Zq]),MD.of (by rw[Z1];exact Ck) (by rw[Z1];exact Ik) Dk⟩
  | true=>
   have qC:KN Mk id={ Mk with KT:=λj=>if j=n.c.parent then Xw id n.sh.time (Yg Mk id n) (Mk.KT n.c.parent) else Mk.KT j }:=by
    unfold KN;rw[Qg (show JZ Mk id=true from ha),Z2]
   have hT:=Ck.kids _ zK;have ME:=Qx.id hn;have Ha:=P3 Ik.tree hT.nd (Ik.mS _);simp only[go_sem,Qa];apply KL [19] hb [0,1,2,3,4,5,6,7,8,9,10,11,12,13,14,15,16,17,1018,1019] [];simp only[go_sem,Qa,ho,Qe,he,Z5,hm,QK,qQ];refine XO hb Qrk (Qxr Ck Ik hn) λd hR=>?_;subst hR;refine Zb hb ?_;simp only[go_sem,Qa,ho,Qe];refine j9 hb Qr8 (Qum hT id n.sh.time (Yg Mk id n) (by omega)) λd h8 hR=>?_;obtain⟨T8,s8⟩:=hR;have C8:=Ck.Xk _ zK T8 s8;apply XN hb;rw[qC]at Z1;exact⟨Qs,_,QI.frame (by simp only[go_sem,Zq]),MD.of (by rw[Z1];exact C8) (by rw[Z1,<- qC];exact mT Ik hn (Ck.Ye id n hn)) (Dk.trans (Zn.of (by simp) s8))⟩
 ·have ZW:k=U.length:=by omega
  have dk:=QQ Qs;rw[ZW,zW]at Ck Ik;refine Qf hb ?_;simp only[go_sem,Qa,dk];exact⟨own',Ck,Ik,Dk⟩
def kr(M:Qk)(now:Nat):Bool:=!(decide (now<M.Ql) || decide (4611686018427387904<now))
def ZI(M:Qk)(now:Nat):Qk:=if kr M now=true then { M with Ql:=now } else M
section
variable {own:Nat->Tag}{h:List Ob}{p:Nat}{L:Loc}{M:Qk}(C:Zs own h p L M)
include C
theorem QgX(now):MFn prog 136 h [.ptr p 0 0 0,u64 now] (λd h'=>d=QY (kr M now)/\Zs own h' p L (ZI M now)/\Zn own h own h'):=by
 have ho:=C.ob;unfold ZI kr;by_cases h1:now<M.Ql
 ·have d1:=Q7 h1;refine QU Qh 200 func136 rfl ntmps136 results136 rfl λbase w pl hb=>?_;have Qe:=Qc ho;simp only[go_sem,Qa,ho,Qe,d1,Go.undef];exact⟨by simpa using C,Zn.refl own h⟩
 ·have d1:=QQ h1;by_cases h2:4611686018427387904<now
  ·have d2:decide ((4611686018427387904:Int)<(now:Int))=true:=Q7 (by omega);have d3:=Q7 h2;refine QU Qh 200 func136 rfl ntmps136 results136 rfl λbase w pl hb=>?_;have Qe:=Qc ho;simp only[go_sem,Qa,ho,Qe,d1,d2,d3,Go.undef];exact⟨by simpa using C,Zn.refl own h⟩
  ·have d2:decide ((4611686018427387904:Int)<(now:Int))=false:=QQ (by omega);have d3:=QQ h2;refine QU Qh 200 func136 rfl ntmps136 results136 rfl λbase w pl hb=>?_;have Qe:=Qc ho;simp only[go_sem,Qa,ho,Qe,d1,d2,d3,Go.undef];exact⟨C.Ql now M.acc,Zn.set _ (by rw[C.op];decide)⟩
end
def YJ(n:Nd)(Ju:Int)(vI:Bool):Du:=if vI then ay n.du Ju (x9 n.q) else AD n.du (x9 n.q)
def VH(M:Qk)(id:Int)(Ju:Int)(vI:Bool):Qk:=
 if 1<QZ (QE M id).c.rt then { M with
   N:=VG M.N id λn=>{ n with du:=YJ (QE M id) Ju vI }
   Lv:=if (QE M id).q.l=[] then KF id (Xw id (YJ (QE M id) Ju vI).Xx (YJ (QE M id) Ju vI).dead M.Lv) else Xw id (YJ (QE M id) Ju vI).Xx (YJ (QE M id) Ju vI).dead M.Lv }
 else M
def mX{n:Nd}(h:n.Ok)(Ju)(vI:Bool):(YJ n Ju vI).Ok:=by
 unfold YJ;split
 ·exact lF (l:={ n.du with Jt:=WY (n.du.Jt+Ju.toNat) }) h.du.dl h.du.rd (Hx _) _
 ·exact lF h.du.dl h.du.rd h.du.Jt _
section
variable {own:Nat->Tag}{h:List Ob}{p:Nat}{L:Loc}{M:Qk}(C:Zs own h p L M)(I:Qx M)
include C I
theorem Qxt{id}{n:Nd}(hn:Qm M.N id=some n)(hl:n.c.leaf=true)(Ju)(XP:0<=Ju)(ZG:Ju<9223372036854775808)(vI):
  MFn prog 177 h [.ptr p 0 0 0,.ptr (L.le id) 0 0 0,Qb Ju,QY vI] (λd h'=>∃own',Zs own' h' p L (VH M id Ju vI)/\Zn own h own' h'):=by
 have ho:=C.ob;have he:=(C.Jd id n hn).1;have Zk:=Qx.id hn;have Z2:QE M id=n:=by unfold QE;rw[hn];rfl
 have Js:=C.Ye id n hn;have MF:=Js.du;obtain⟨kq,HM,hQ⟩:=C.WO id n hn hl;have DI:qD L.lq n=.ptr (L.lq id) 0 0 0:=by unfold qD;rw[Qg hl,Zk]
 rw[DI]at he;have hhd:x9 n.q<9223372036854775808:=by
  obtain⟨r,Q⟩:=hQ;unfold x9;cases hq:n.q.l with
  | nil=>decide
  | cons x l=>
   have:=(Q.lens x (by rw[hq];simp)).2;show x.len<_;omega
 unfold VH;rw[Z2];by_cases hr:1<QZ n.c.rt
 ·rw[Qg hr];have dr:=Q7 hr;refine QU Qh 200 func177 rfl ntmps177 results177 rfl λbase w pl hb=>?_;have Qe:=Qc ho;have Z5:=Qc he;simp only[go_sem,Qa,ho,Qe,he,Z5];refine ZA hb Bu rfl ?_ (CT n.c) (Qo.flat rfl) rfl λd h hR=>?_
  ·simp only[go_sem,Qa,dr]
  obtain⟨rfl,rfl⟩:=hR;refine Qf hb ?_;simp only[go_sem,Qa,dr];have wP:=mX Js Ju vI;cases vI
  case' true=>
   have hx:YJ n Ju true=ay n.du Ju (x9 n.q):=rfl;rw[hx]at wP ⊢;simp only[go_sem,Qa,dr];apply QH hb [0,1,2,3,4,5,6,7,8,9,1010,1011,12,13,1014];simp only[go_sem,Qa,ho,Qe,he,Z5];refine XO hb QdY (QfX hQ.toR) λd hR=>?_;subst hR;refine Zb hb ?_;simp only[go_sem,Qa,ho,Qe,he,Z5];refine KB hb Qsc rfl ?_ (Qu6 n.du MF.dl MF.rd MF.Jt Ju (x9 n.q) XP ZG hhd) (Qo.flat rfl) rfl λd h hR=>?_
   ·simp only[go_sem,Qa,ho,Qe,he,Z5]
   obtain⟨rfl,rfl⟩:=hR;refine Zb hb ?_;simp only[go_sem,Qa,ho,Qe,he,Z5];generalize ay n.du Ju (x9 n.q)=x at wP ⊢
  case' false=>
   have hx:YJ n Ju false=AD n.du (x9 n.q):=rfl;rw[hx]at wP ⊢;simp only[go_sem,Qa,dr];apply QH hb [0,1,2,3,4,5,6,7,8,1009,1010,11,12,1013];simp only[go_sem,Qa,ho,Qe,he,Z5];refine XO hb QdY (QfX hQ.toR) λd hR=>?_;subst hR;refine Zb hb ?_;simp only[go_sem,Qa,ho,Qe,he,Z5];refine KB hb Qsd rfl ?_ (Qu7 n.du MF.dl MF.rd MF.Jt (x9 n.q) hhd) (Qo.flat rfl) rfl λd h hR=>?_
   ·simp only[go_sem,Qa,ho,Qe,he,Z5]
   obtain⟨rfl,rfl⟩:=hR;refine Zb hb ?_;simp only[go_sem,Qa,ho,Qe,he,Z5];generalize AD n.du (x9 n.q)=x at wP ⊢
  all_goals
   have C1:=C.vk hn (λm=>{ m with du:=x }) (λ_=>rfl) (λ_=>rfl) ⟨Js.Jb,wP,Js.sh,Js.cp,Js.c⟩;have D1:=Zn.set (own:=own) (h:=h) (XS (qD L.lq n) { n with du:=x }) (l:=L.le id) (by rw[(C.Jd id n hn).2];simp);rw[DI]at C1 D1;generalize hH:h.set (L.le id) (XS (.ptr (L.lq id) 0 0 0) { n with du:=x })=H at C1 D1;have Fh:h.set (L.le id) ⟨.one,0,60,1,λ_=>Kg (.ptr (L.lq id) 0 0 0) { n with du:=x }⟩=H:=hH;have Ka:Qm (VG M.N id λm=>{ m with du:=x }) id=some { n with du:=x }:=by
    rw[zJ (f:=λm=>{ m with du:=x }) (λ_=>rfl),Qg rfl,hn];rfl
   have ho:=C1.ob;have Qe:=Qc ho;have he:=(C1.Jd id _ Ka).1;have QgZ:qD L.lq { n with du:=x }=.ptr (L.lq id) 0 0 0:=DI;rw[QgZ]at he;have Z5:=Qc he;have Ha:=P3 I.tree C1.Xl.nd I.yj;simp only[Fh];apply KL [19] hb [0,1,2,3,4,5,6,7,8,9,10,11,12,13,14,15,16,17,18,1019] [];simp only[go_sem,Qa,ho,Qe,he,Z5];refine wB hb QdO rfl ?_ (Qft C1.Xl id x.Xx x.dead (by omega)) rfl λd h8 hR=>?_
   ·simp only[go_sem,Zk]
   obtain⟨T8,s8⟩:=hR;have C8:=C1.lv T8 s8;have D8:=D1.trans (Zn.of (own:=own) (t:=.lv) (by simp) s8);have ho:=C8.ob;have Qe:=Qc ho;have he:=(C8.Jd id _ Ka).1;rw[QgZ]at he;have Z5:=Qc he;obtain⟨kq8,QFm,mY⟩:=C8.WO id _ Ka hl;refine Zb hb ?_;simp only[go_sem,Qa,ho,Qe,he,Z5];refine JJ hb Lz (Ml mY.toR) λd hR=>?_;subst hR;refine Qf hb ?_;simp only[go_sem,Qa,ho,Qe,he,Z5];cases hq:n.q.l with
   | cons y l=>
    have dq:(((l.length+1:Nat):Int)==0)=false:=Xt (by omega);rw[Qd (by simp)];simp only[go_sem,Qa,hq,dq];exact⟨_,C8,D8⟩
   | nil=>
    rw[Qg rfl];have Ha:=P3 I.tree C8.Xl.nd (λy hy=>by
     rcases Fp.1 hy with rfl|hy
     ·rw[I.some hn];rfl
     ·exact I.yj y (JE.1 hy).1)
    simp only[go_sem,Qa,hq];apply KL [9] hb [0,1,2,3,4,5,6,7,8,1009] [];simp only[go_sem,Qa,ho,Qe,he,Z5];refine wB hb QdX rfl ?_ (Qfr C8.Xl id (by omega)) rfl λd h9 hR=>?_
    ·simp only[go_sem,Zk]
    obtain⟨rfl,T9,s9⟩:=hR;apply XN hb;exact⟨_,C8.lv T9 s9,D8.trans (Zn.of (by simp) s9)⟩
 ·rw[Qd hr];have dr:=QQ hr;refine QU Qh 200 func177 rfl ntmps177 results177 rfl λbase w pl hb=>?_;have Qe:=Qc ho;have Z5:=Qc he;simp only[go_sem,Qa,ho,Qe,he,Z5];refine ZA hb Bu rfl ?_ (CT n.c) (Qo.flat rfl) rfl λd h hR=>?_
  ·simp only[go_sem,Qa,dr]
  obtain⟨rfl,rfl⟩:=hR;refine Qf hb ?_;simp only[go_sem,Qa,dr];exact⟨own,C,Zn.refl own h⟩
end
def HN(L:List It):Nat:=(L.head?.getD default).ka
def BU(M:Qk)(now:Nat)(n:Nd):Nd:={ n with sh:=HB n.sh (Kr n.c.ls) (HN (M.KT n.c.parent)) n.Jb,cp:=Dt n.cp (Kr n.c.ul) now n.Jb }
def WB(now:Nat)(M:Qk)(j:Int):Qk:={ M with N:=VG M.N j (BU M now) }
def Wa(M:Qk)(now:Nat)(id:Int)(head:Int):Qk:=
 if 1<QZ (QE M id).c.rt then { M with
   N:=VG M.N id λn=>{ n with du:=zz (QE M id).du (Kr (QE M id).c.rt) now head }
   Lv:=Xw id (zz (QE M id).du (Kr (QE M id).c.rt) now head).Xx (zz (QE M id).du (Kr (QE M id).c.rt) now head).dead M.Lv }
 else M
def qR(M:Qk)(now:Nat)(id:Int)(head:Int):Qk:=
 if 1<QZ (QE M id).c.ls then Vy ((WL M.T M.A id).foldl (WB now) { Wa M now id head with A:=id::M.A }) (up M.T id)
 else Wa M now id head
def Qxu(N:List Nd)(id)(f:Nd->Nd)(hf:∀n,(f n).c=n.c):(VG N id f).map (·.c)=N.map (·.c):=by
 unfold VG;rw[Ef];congr 1;funext n;simp only[Function.comp_apply];split
 ·exact hf n
 ·rfl
def Qx.VG{M:Qk}(I:Qx M)(id)(f)(hf:∀n,(f n).c=n.c):Qx { M with N:=X.VG M.N id f }:=by
 refine⟨I.tree,I.yi,I.to,by dsimp only;rw[Qxu _ _ _ hf];exact I.nodes,I.Yf,λj=>?_,I.yj,I.jD,I.kp,I.Ql,I.acc⟩;dsimp only;rw[I.ks,zJ (λn=>by rw[hf])];by_cases hj:j=id
 ·subst hj;rw[Qg rfl];constructor
  ·rintro (h|⟨n,h1,h2⟩)
   ·exact .inl h
   ·exact .inr ⟨f n,by rw[h1];rfl,by rw[hf];exact h2⟩
  ·rintro (h|⟨n,h1,h2⟩)
   ·exact .inl h
   ·cases hq:Qm M.N j with
    | none=>rw[hq]at h1;cases h1
    | some m=>
     rw[hq]at h1;cases h1;exact .inr ⟨m,rfl,by rw[<- hf];exact h2⟩
 ·rw[Qd hj]
def Qx.lv{M:Qk}(I:Qx M){B}(h:∀x∈B,(Qy M.T x.ki).isSome=true):Qx { M with Lv:=B }:=
 ⟨I.tree,I.yi,I.to,I.nodes,I.Yf,I.ks,h,I.jD,I.kp,I.Ql,I.acc⟩
def Qx.act{M:Qk}(I:Qx M){B}(h:wy M.T B):Qx { M with A:=B }:=
 ⟨I.tree,I.yi,I.to,I.nodes,h,I.ks,I.yj,I.jD,I.kp,I.Ql,I.acc⟩
def mZ{id}{a b}{L}{x:It}(h:x∈Xw id a b L):x.ki=id\/x∈L:=by
 rcases Fp.1 h with rfl|h
 ·exact .inl rfl
 ·exact .inr (JE.1 h).1
def m6{M}(I:Qx M){now}(VO:now<18446744073709551616){n:Nd}(h:n.Ok):(BU M now n).Ok:=by
 have Lk:HN (M.KT n.c.parent)<18446744073709551616:=by
  unfold HN;cases hq:M.KT n.c.parent with
  | nil=>decide
  | cons x l=>
   have:=I.kp n.c.parent x (by rw[hq];simp);show x.ka<_;omega
 exact⟨h.Jb,h.du,Qvi h.sh h.c.2.2.2.2.1.lt Lk h.Jb,Qvo h.cp h.c.2.2.2.2.2.1.lt VO h.Jb,h.c⟩
def Qx.WB{M}(I:Qx M)(now)(j):Qx (WB now M j):=I.VG j (BU M now) λ_=>rfl
def HO(now):∀(l:List Int) (M:Qk),(l.foldl (WB now) M).T=M.T/\(l.foldl (WB now) M).A=M.A/\(l.foldl (WB now) M).KT=M.KT/\(l.foldl (WB now) M).lk=M.lk/\(l.foldl (WB now) M).Ql=M.Ql/\(l.foldl (WB now) M).acc=M.acc
 | [],M=>⟨rfl,rfl,rfl,rfl,rfl,rfl⟩
 | j::l,M=>HO now l (X.WB now M j)
def Qx.P4{now}:∀(l:List Int) {M:Qk},Qx M->Qx (l.foldl (X.WB now) M)
 | [],M,I=>I
 | j::l,M,I=>Qx.P4 l (I.WB now j)
def P5{M:Qk}{now}{id}{head:Int}:(Wa M now id head).T=M.T/\(Wa M now id head).A=M.A/\(Wa M now id head).KT=M.KT/\(Wa M now id head).lk=M.lk:=by
 unfold Wa;split<;>exact⟨rfl,rfl,rfl,rfl⟩
def Qx.Wa{M:Qk}(I:Qx M){id}{n}(hn:Qm M.N id=Option.some n)(now)(head):Qx (Wa M now id head):=by
 unfold X.Wa;split
 ·refine(I.VG id (λn=>{ n with du:=zz (QE M id).du (Kr (QE M id).c.rt) now head }) λ_=>rfl).lv λx hx=>?_;rcases mZ hx with h|h
  ·rw[h];show (Qy M.T id).isSome=true;rw[I.some hn];rfl
  ·exact I.yj x h
 ·exact I
def Qxv{M:Qk}{now}{id}{head:Int}(j){n:Nd}(hn:Qm M.N j=some n):∃m,Qm (Wa M now id head).N j=some m/\m.c=n.c:=by
 unfold Wa;split
 ·dsimp only;rw[zJ (f:=λn=>{ n with du:=zz (QE M id).du (Kr (QE M id).c.rt) now head }) (λ_=>rfl)];split
  ·rw[hn];exact⟨_,rfl,rfl⟩
  ·exact⟨n,hn,rfl⟩
 ·exact⟨n,hn,rfl⟩
def m7{c:Cv}(h:Cv.Ok c):(((Kr c).a:Nat):Int)=c.m1/\(((Kr c).d:Nat):Int)=c.d/\(((Kr c).b:Nat):Int)=c.m2:=by
 have h1:=wf_u64 h.1;have h2:=wf_u64 h.2.1;have h3:=wf_u64 h.2.2.1;refine⟨?_,?_,?_⟩
 ·show ((c.m1.toNat:Nat):Int)=_;omega
 ·show ((c.d.toNat:Nat):Int)=_;omega
 ·show ((c.m2.toNat:Nat):Int)=_;omega
structure P6 (own:Nat->Tag) (h:List Ob) (p:Nat) (L:Loc) (M:Qk) (now:Nat) (id:Int) (lo g:Nat) (row:Nat->List D) (U:List Int) (k:Nat) (s:St):Prop where
 ex:∃own' H,Zs own' H p L ((U.take k).foldl (WB now) M)/\Zn own h own' H/\own' lo=.on/\H[lo]? = some ⟨.arr,g,1,U.length,row⟩ /\
  s=⟨[(0,.ptr p 0 0 0),(1,u64 now),(8,Qb id),(72,.ref lo g 0 U.length),(73,Qb U.length),(74,Qb k)],H⟩
def P6.of{own}{h}{p}{L}{M}{now}{id}{lo g}{row}{U:List Int}{k:Nat}{own'}{H:List Ob}(C:Zs own' H p L ((U.take k).foldl (WB now) M))(D:Zn own h own' H)(h1:own' lo=.on)(h2:H[lo]? = some ⟨.arr,g,1,U.length,row⟩):
  P6 own h p L M now id lo g row U k ⟨[(0,.ptr p 0 0 0),(1,u64 now),(8,Qb id),(72,.ref lo g 0 U.length),(73,Qb U.length),(74,Qb k)],H⟩:=⟨⟨own',H,C,D,h1,h2,rfl⟩⟩
def Qxw{own}{h}{p}{L}{M:Qk}(C:Zs own h p L M)(I:Qx M){id}{n:Nd}(hn:Qm M.N id=some n)(hl:n.c.leaf=true)(now)(VO:now<18446744073709551616)(head)(hh:head<9223372036854775808)(Jw:JZ M id=false):
  MFn prog 138 h [.ptr p 0 0 0,u64 now,.ptr (L.le id) 0 0 0,Qb head] (λd h'=>∃own',Zs own' h' p L (qR M now id head)/\Qx (qR M now id head)/\Zn own h own' h'):=by
 have ho:=C.ob;have he:=(C.Jd id n hn).1;have Zk:=Qx.id hn;have Z2:QE M id=n:=by unfold QE;rw[hn];rfl
 have Js:=C.Ye id n hn;obtain⟨r1,r2,r3⟩:=m7 Js.c.2.2.2.1;have IR:=Qx.Wa I hn now head;have QFn:L.le id≠p:=λe=>by have h1:=(C.Jd id n hn).2;rw[e,C.op]at h1;cases h1
 obtain⟨MR,MG⟩:∃MR,MR=Wa M now id head:=⟨_,rfl⟩;have m8:qR M now id head=if 1<QZ n.c.ls then Vy ((WL M.T M.A id).foldl (WB now) { MR with A:=id::M.A }) (up M.T id) else MR:=by unfold qR;rw[Z2,MG]
 by_cases hr:1<QZ n.c.rt
 case' pos=>
  have dr:=Q7 hr;have wP:=lK Js.du Js.c.2.2.2.1.lt VO head;refine QU Qh 200 func138 rfl ntmps138 results138 rfl λbase w pl hb=>?_;have Qe:=Qc ho;have Z5:=Qc he;simp only[go_sem,Qa,ho,Qe,he,Z5];refine ZA hb Bu rfl ?_ (CT n.c) (Qo.flat rfl) rfl λd h hR=>?_
  ·simp only[go_sem,Qa,dr]
  obtain⟨rfl,rfl⟩:=hR;refine Qf hb ?_;simp only[go_sem,Qa,dr];apply QH hb [0,1,2,3,4,5,6,7,8,9,10,11,1012,13,14,1015];simp only[go_sem,Qa,ho,Qe,he,Z5];refine KB hb QrP rfl ?_ (Qvf n.du Js.du (Kr n.c.rt) Js.c.2.2.2.1.lt now VO head hh) (Qo.flat rfl) rfl λd h hR=>?_
  ·simp only[go_sem,Qa,ho,Qe,he,Z5,r1,r2,r3]
  obtain⟨rfl,rfl⟩:=hR;refine Zb hb ?_;simp only[go_sem,Qa,ho,Qe,he,Z5,r1,r2,r3];have aW:MR={ M with N:=VG M.N id λm=>{ m with du:=zz n.du (Kr n.c.rt) now head },Lv:=Xw id (zz n.du (Kr n.c.rt) now head).Xx (zz n.du (Kr n.c.rt) now head).dead M.Lv }:=by
   rw[MG];unfold Wa;rw[Z2,Qg hr]
  generalize zz n.du (Kr n.c.rt) now head=x at wP aW ⊢;have C1:=C.vk hn (λm=>{ m with du:=x }) (λ_=>rfl) (λ_=>rfl) ⟨Js.Jb,wP,Js.sh,Js.cp,Js.c⟩;have D1:=Zn.set (own:=own) (h:=h) (XS (qD L.lq n) { n with du:=x }) (l:=L.le id) (by rw[(C.Jd id n hn).2];simp);generalize hH:h.set (L.le id) (XS (qD L.lq n) { n with du:=x })=H at C1 D1;have Fh:h.set (L.le id) ⟨.one,0,60,1,λ_=>Kg (qD L.lq n) { n with du:=x }⟩=H:=hH;have Ka:Qm (VG M.N id λm=>{ m with du:=x }) id=some { n with du:=x }:=by
   rw[zJ (f:=λm=>{ m with du:=x }) (λ_=>rfl),Qg rfl,hn];rfl
  have Zp:=C1.ob;have Kh:=Qc Zp;have AQ:=(C1.Jd id _ Ka).1;have MH:=Qc AQ;have Ha:=P3 I.tree C1.Xl.nd I.yj;simp only[Fh];apply KL [15] hb [0,1,2,3,4,5,6,7,8,9,10,11,12,13,14,1015] [];simp only[go_sem,Qa,Zp,Kh,AQ,MH];refine wB hb QdO rfl ?_ (Qft C1.Xl id x.Xx x.dead (by omega)) rfl λd h8 hR=>?_
  ·simp only[go_sem,Zk]
  obtain⟨T8,s8⟩:=hR;have CR:=C1.lv T8 s8;have DR:=D1.trans (Zn.of (own:=own) (t:=.lv) (by simp) s8);rw[<- aW]at CR;apply XN hb;generalize QS own H .lv=QFo at CR DR;generalize h8=HR at CR DR ⊢
 case' neg=>
  have dr:=QQ hr;refine QU Qh 200 func138 rfl ntmps138 results138 rfl λbase w pl hb=>?_;have Qe:=Qc ho;have Z5:=Qc he;simp only[go_sem,Qa,ho,Qe,he,Z5];refine ZA hb Bu rfl ?_ (CT n.c) (Qo.flat rfl) rfl λd h hR=>?_
  ·simp only[go_sem,Qa,dr]
  obtain⟨rfl,rfl⟩:=hR;refine Qf hb ?_;simp only[go_sem,Qa,dr];have aW:MR=M:=by rw[MG];unfold Wa;rw[Z2,Qd hr]
  have CR:=C;rw[<- aW]at CR;have DR:=Zn.refl own h
 all_goals
  rw[<- MG]at IR;obtain⟨kT,kA,kK,kl⟩:=P5 (M:=M) (now:=now) (id:=id) (head:=head);rw[<- MG]at kT kA kK kl;obtain⟨m,hm,wJ⟩:∃m,Qm MR.N id=some m/\m.c=n.c:=by rw[MG];exact Qxv id hn
  have MI:=(CR.Jd id m hm).1;have Qxx:=Qc MI;have KU:=CR.ob;have qm:=Qc KU;simp only[go_sem,Qa,MI,Qxx,wJ];refine Ax hb j5 (j6 n.c) (Qo.flat rfl) λd h hR=>?_;obtain⟨rfl,rfl⟩:=hR;apply Q1 hb;by_cases hs:1<QZ n.c.ls;case neg=>
   have ds:=QQ hs;simp only[go_sem,Qa,ds];rw[m8,Qd hs];exact⟨_,CR,IR,DR⟩
  have ds:=Q7 hs;rw[Qg hs,<- kA,<- kT]at m8;rw[m8];have V8:Qy MR.T id=some n.c:=by rw[kT];exact I.some hn
  have hO:=CR.YI;rw[IR.to]at hO;have Qg0:Z4 MR.T MR.A id=false:=by rw[kT,kA];exact Jw
  simp only[go_sem,Qa,ds,KU,qm];refine KW hb fK rfl ?_ (Qfe hO IR.tree IR.Yf id n.c V8 hl hs Qg0) rfl λd h9 hR=>?_
  ·simp only[go_sem,Zk]
  obtain⟨d1,rfl,Ac,O9,s9⟩:=hR;rw[<- IR.to]at O9;have C9:=CR.act O9 s9;have D9:=DR.trans (Zn.of (t:=.on) (by simp) s9);have I9:Qx { MR with A:=id::MR.A }:=IR.act (λa ha=>by
   rcases QF.1 ha with rfl|ha
   ·exact⟨n.c,V8,hl,hs⟩
   ·exact IR.Yf a ha)
  obtain⟨U,hU⟩:∃U,U=WL MR.T MR.A id:=⟨_,rfl⟩;rw[<- hU]at Ac ⊢;have aV:U.length<=16:=by
   rw[hU];exact Kz (Ss _).length_le Ar
  have m9:∀j∈U,j∈up MR.T id:=λj hj=>by rw[hU]at hj;exact(Ss _).subset hj
  obtain⟨M9,P7⟩:∃M9,M9={ MR with A:=id::MR.A }:=⟨_,rfl⟩;have aX:M9.T=MR.T:=by rw[P7]
  rw[<- P7]at C9 I9 ⊢;rcases Ac with ⟨rfl,P8⟩|⟨lo,g,off,row,rfl,⟨ZE,rfl⟩,HP,Zx⟩
  ·exfalso;rw[hU,WL,K8 IR.tree V8,Sr,Qg0]at P8;cases P8
  have Qxy:=Qc HP;rw[JG]at HP;apply Q1 hb;refine ZZ (P6 own h p L M9 now id lo g row U) U.length (QI.frame (by simp only[go_sem,Zk])) (P6.of (k:=0) C9 D9 (by unfold QS;rw[Qg ZE]) HP) ?_;rintro k _ hk ⟨own',H,Ck,Dk,CN,JR,rfl⟩;have P9:=Qc JR;by_cases Qs:k<U.length;case neg=>
   have ZW:k=U.length:=by omega
   have dk:=QQ Qs;rw[ZW,zW]at Ck;have Ik:=Qx.P4 (now:=now) U I9;have HQ:=(HO now U M9).1;have Jg:=mV Ck Ik id;rw[HQ,aX]at Jg;refine Qf hb ?_;simp only[go_sem,Qa,dk];apply Q1 hb;refine Jl hb fN Jg λd YW hR=>?_;obtain⟨aY,wQ,aZ,FI⟩:=hR;apply Q1 hb;exact⟨aY,wQ,aZ,Dk.trans FI⟩
  have dk:=Q7 Qs;obtain⟨j,hj⟩:∃j,j=U.getD k 0:=⟨_,rfl⟩;have DJ:j∈up MR.T id:=m9 j (by rw[hj];exact jq U 0 k Qs);have Ra:row k=[Qb j]:=by have:=Zx k Qs;rw[JG]at this;rw[this,hj]
  have Z1:(U.take (k+1)).foldl (WB now) M9=WB now ((U.take k).foldl (WB now) M9) j:=by
   rw[getD_take U 0 k Qs,Gf,<- hj];rfl
  have Ik:=Qx.P4 (now:=now) (U.take k) I9;have HQ:=(HO now (U.take k) M9).1;obtain⟨Mk,DH⟩:∃Mk,Mk=(U.take k).foldl (WB now) M9:=⟨_,rfl⟩;rw[<- DH]at Ck Ik HQ Z1;obtain⟨y,hy⟩:∃y,Qm Mk.N j=some y:=by
   have XE:=Fj DJ;rw[<- aX,<- HQ,Ik.find]at XE;cases hq:Qm Mk.N j with
   | none=>rw[hq]at XE;cases XE
   | some y=>exact⟨y,rfl⟩
  have wR:=Ck.Ye j y hy;obtain⟨l1,l2,l3⟩:=m7 wR.c.2.2.2.2.1;obtain⟨u1,u2,u3⟩:=m7 wR.c.2.2.2.2.2.1;have ql:=Ck.look hy;have WC:=Ck.ob;have qS:=Qc WC;have YK:=Ck.Vf;have AR:=Qc YK;have vJ:=(Ck.Jd j y hy).1;have ku:=Qc vJ;have CV:=Ck.Vx;have UP:=Qc CV;have zK:=mU Ik hy;have qQ:=Ck.Xm.at_ y.c.parent;rw[Qg zK]at qQ;have zL:=(Ck.kids _ zK).toR;have Zq:=Vp (show k<4611686018427387904 by omega);have Lk:HN (Mk.KT y.c.parent)<18446744073709551616:=by
   unfold HN;cases hq:Mk.KT y.c.parent with
   | nil=>decide
   | cons x l=>
    have:=Ik.kp y.c.parent x (by rw[hq];simp);show x.ka<_;omega
  have QB:L.le j≠lo:=λe=>by have h1:=(Ck.Jd j y hy).2;rw[e,CN]at h1;cases h1
  refine Qf hb ?_;simp only[go_sem,Qa,dk,Qs,Ra,WC,qS,YK,AR,JR,P9,ql];apply QH hb [0,1,2,3,4,5,6,7,8,9,1010,11,12,13,14,15];simp only[go_sem,Qa,WC,qS,vJ,ku,CV,UP,qQ];refine XO hb QrQ (Quq zL) λd hR=>?_;subst hR;refine Zb hb ?_;simp only[go_sem,Qa,WC,qS];have hlv:(((Mk.KT y.c.parent).head?.getD default).ka:Int)=((HN (Mk.KT y.c.parent):Nat):Int):=rfl;simp only[hlv];apply QH hb [0,1,2,3,4,5,6,7,8,9,10,11,12,13,14,1015,16,17,1018];simp only[go_sem,Qa,vJ,ku];refine KB hb QrR rfl ?_ (Qvk y.sh wR.sh (Kr y.c.ls) wR.c.2.2.2.2.1.lt (HN (Mk.KT y.c.parent)) y.Jb Lk wR.Jb) (Qo.flat rfl) rfl λd h hR=>?_
  ·simp only[go_sem,Qa,vJ,ku,l1,l2,l3]
  obtain⟨rfl,rfl⟩:=hR;refine Zb hb ?_;simp only[go_sem,Qa,vJ,ku,l1,l2,l3];have ng:∀s,(H.set (L.le j) ⟨.one,0,60,1,λ_=>Kg (qD L.lq y) s⟩)[L.le j]? = some ⟨.one,0,60,1,λ_=>Kg (qD L.lq y) s⟩:=λs=>Qv ku;have nh:∀s,L.le j<(H.set (L.le j) s).length:=λs=>by simpa using ku
  apply QH hb [0,1,2,3,4,5,6,7,8,9,10,11,12,13,14,1015,16,17,1018];simp only[go_sem,Qa,ng,nh,ku];refine KB hb QrS rfl ?_ (Qvp y.cp wR.cp (Kr y.c.ul) wR.c.2.2.2.2.2.1.lt now y.Jb VO wR.Jb) (Qo.flat rfl) rfl λd h hR=>?_
  ·simp only[go_sem,Qa,ng,nh,u1,u2,u3,ku]
  obtain⟨rfl,rfl⟩:=hR;refine Zb hb ?_;simp only[go_sem,Qa,ng,nh,u1,u2,u3,ku];have C4:=Ck.vk hy (BU Mk now) (λ_=>rfl) (λ_=>rfl) (m6 Ik VO wR);have D4:=Zn.set (own:=own') (h:=H) (XS (qD L.lq y) (BU Mk now y)) (l:=L.le j) (by rw[(Ck.Jd j y hy).2];simp);refine⟨Qs,_,QI.frame (by simp only[go_sem,Zq,Zk]),P6.of (by rw[Z1];exact C4) (Dk.trans D4) CN (by rw[Qi QB];exact JR)⟩
end Go.Fg.X
