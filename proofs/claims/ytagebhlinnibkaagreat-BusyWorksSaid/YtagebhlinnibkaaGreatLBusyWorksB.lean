/- The statement BusyWorks is proved. No conditions. -/
import Derived.Test.YtagebhlinnibkaaGreatTB5B
import Derived.Test.YtagebhlinnibkaaGreatCA3B
import Derived.Test.YtagebhlinnibkaaGreatGT1B
import Derived.Test.YtagebhlinnibkaaGreatFgTellB
import Derived.Test.YtagebhlinnibkaaGreatRows
set_option maxRecDepth 100000
set_option maxHeartbeats 16000000
set_option linter.unusedVariables false
set_option linter.unusedSimpArgs false
set_option linter.unusedSectionVars false
set_option linter.defProp false
namespace Go.Fg.X
open Go.Proofs Go.Fg
open Go.Proofs.Tryz
def yX(n:Nd):Prop:=n.c.ul.Nn/\(¬1<Q7 n.c.ul->n.cp.has=false/\n.cp.fit=0)
def JO(M:Qq):Prop:=∀n∈M.N,yX n
def of_le{c:Cv}(h:c.Nn)(h1:¬1<Q7 c):(KC c).of=0\/(KC c).of=1:=by
 obtain⟨a1,a2,a3⟩:=h;unfold Q7 at h1;unfold Nc.of VY KC;dsimp only
 (repeat' split at h1)<;>(repeat' split)<;>omega
def yX.Qcm{n}(h:yX n)(M)(now):yX (DJ M now n):=by
 refine⟨h.1,λh1=>?_⟩;have h1:¬1<Q7 n.c.ul:=h1;show (BV n.cp (KC n.c.ul) now n.Jz).has=false/\(BV n.cp (KC n.c.ul) now n.Jz).fit=0;unfold BV;rw[Qf (of_le h.1 h1)];exact⟨rfl,rfl⟩
def yX.CA{n}(h:yX n)(len):yX (DN len n):=by
 refine⟨h.1,λh1=>?_⟩;obtain⟨h2,h3⟩:=h.2 h1;show (AD n.cp (WY (n.Jz+len))).has=false/\(AD n.cp (WY (n.Jz+len))).fit=0;unfold AD;rw[h2,Qd ky];exact⟨h2,h3⟩
def JO.Vm{M M':Qq}(h:JO M){id}{f}(e:M'.N=Vm M.N id f)(hf:∀n,yX n->yX (f n)):JO M':=λn hn=>by
 rw[e]at hn;obtain⟨m,hm,rfl⟩:=Jk.1 hn;split
 ·exact hf m (h m hm)
 ·exact h m hm
def JO.fold{α:Type}{g}(hg:∀M a,JO M->JO (g M a)):∀(l:List α) (M:Qq),JO M->JO (l.foldl g M)
 | [],M,h=>h
 | a::l,M,h=>JO.fold hg l _ (hg M a h)
def JO.same{M M':Qq}(h:JO M)(e:M'.N=M.N):JO M':=λn hn=>h n (e▸hn)
def JO.settle{M:Qq}(h:JO M)(l):JO (Wl M l):=h.same (G0 l M).1
def JO.VZ{M}(h:JO M)(now)(id head):JO (X.VZ M now id head):=by
 unfold X.VZ;split
 ·exact h.Vm rfl λn hn=>hn
 ·exact h
def JO.YG{M}(h:JO M)(now)(id head):JO (X.YG M now id head):=by
 unfold X.YG;split
 ·exact(JO.fold (g:=W9 now) (λM j hM=>hM.Vm (M':=W9 now M j) rfl λn hn=>hn.Qcm M now) (XE M.T M.A id) _ (JO.same (M':={ X.VZ M now id head with A:=id::M.A }) (h.VZ now id head) rfl)).settle _
 ·exact h.VZ now id head
def JO.Xa{M}(h:JO M)(id):JO (X.Xa M id):=by
 unfold X.Xa;split
 ·refine JO.fold (λM j hM=>?_) _ _ (h.same rfl);unfold Ka;split
  ·exact JO.fold (g:=Ym) (λM c hM=>hM.Vm (M':=Ym M c) (f:=λn=>{ n with sh:=AN }) rfl λn hn=>hn) _ _ (hM.same (M':=Wz M j) rfl)
  ·exact hM.same rfl
 ·exact h
def JO.VS{M}(h:JO M)(id JY)(r):JO (X.VS M id JY r):=by
 unfold X.VS;split
 ·exact h.Vm rfl λn hn=>hn
 ·exact h
def JO.Xr{M}(h:JO M)(id)(r):JO (X.Xr M id r):=by
 unfold X.Xr;dsimp only;have h3:JO (X.VS ((up M.T id).foldl (V0 ((QD M id).q.l.headD default).len.toNat) (Xq M id)) id ((QD M id).q.l.headD default).len r):=
  (JO.fold (λM j hM=>hM.Vm (M':=V0 ((QD _ id).q.l.headD default).len.toNat M j) rfl λn hn=>hn.CA _) _ _ (h.Vm (M':=Xq M id) rfl λn hn=>hn)).VS _ _ _
 split
 ·exact(h3.Xa id).settle _
 ·exact h3.settle _
def JO.told{M}(h:JO M)(now):JO (Z1 M now):=by
 unfold Z1;split
 ·exact h.same rfl
 ·exact h
def JO.takeN{M}(h:JO M)(now):JO (X.takeN M now):=by
 unfold X.takeN;split
 ·exact h.told now
 ·exact(h.told now).Xr _ _
def JO.Ve{M}(h:JO M)(id)(x):JO (X.Ve M id x):=h.Vm rfl λn hn=>hn
def JO.Jr{M}(h:JO M)(now)(cls)(x):JO (X.Jr M now cls x):=by
 unfold X.Jr;split
 ·have h:=h.told now;unfold VT;split
  ·exact h.Ve _ _
  ·split
   ·split
    ·exact JO.YG (JO.same (M':=vv (X.Ve (Z1 M now) cls x) ((Z1 M now).acc+x.len.toNat)) (h.Ve cls x) rfl) _ _ _
    ·exact JO.same (M':=vv (X.Ve (Z1 M now) cls x) ((Z1 M now).acc+x.len.toNat)) (h.Ve cls x) rfl
   ·exact h
 ·exact h
def yX.new{c}(h:Qw.Ok c):yX (X0 c):=⟨h.nn.2.2,λ_=>⟨rfl,rfl⟩⟩
def JO.Ke{M}(h:JO M)(I:Qy M)(b){l}(hl:∀c∈l,JH.Ok c):JO (X.Ke M b l):=by
 unfold X.Ke;split
 ·obtain⟨I2,K2⟩:=RV I.tree I.yN hl;have hm:JO (VK M (JM M.T l)):=by
   unfold VK;refine JO.fold (λM1 j hM=>?_) _ _ (h.same rfl);have hd:∀n∈kb M1.N j,yX n:=λn hn=>hM n (J8.1 hn).1;unfold Ki;cases hf:QF (JM M.T l) j with
   | none=>exact hd
   | some c=>
    have hc:=yX.new (K2 c ((Vs I2.rising).1 hf).1);have KN:∀n∈X0 c::kb M1.N j,yX n:=λn hn=>by
     rcases QM.1 hn with rfl|hn
     ·exact hc
     ·exact hd n hn
    dsimp only;split
    ·exact KN
    ·exact KN
  intro n hn;obtain⟨c,hc,rfl⟩:=Jk.1 (show n∈X1 M (JM M.T l) from hn);exact hm _ (wS (QbU I I2 hc).1)
 ·exact h
def cZ(M:Qq)(now)(cls)(x:Pk):(Jr M now cls x).T=M.T:=by
 have h:=(G6 M now).2.1;unfold Jr;split
 ·unfold VT;split
  ·exact h
  ·split
   ·split
    ·rw[QDX];exact h
    ·exact h
   ·exact h
 ·rfl
def QnP(d:D)(hs:List Ob):D->List Ob->Prop:=λd' h=>d'=d/\h=hs
attribute [go_sem] QnP
structure Kn where
 Xu:Int
 since:Int
 work:Nat
@[go_sem] def Kn.cells(k:Kn):List D:=[.raw (.int .u64 k.Xu),.raw (.int .u64 k.since),.raw (.int .i64 k.work)]
def Kn.next(k:Kn)(e:Ev):Kn:=
 if e.J4=true then ⟨k.Xu,if k.work=0 then e.at_ else k.since,k.work+1⟩ else ⟨max k.Xu e.done,k.since,k.work - 1⟩
def Kn.late(k:Kn)(e:Ev):Bool:=!e.J4&&(decide (0<k.work)&&decide (max k.Xu k.since<e.at_))
@[go_sem] def SX(k:Kn):Ob:=⟨.one,0,3,1,λ_=>k.cells⟩
def QnQ(k:Kn)(e:Ev)(hk:k.work<4611686018427387904):QK prog 69 [SX k] [.ptr 0 0 0 0,.agg e.cells] (QnP (QJ (k.late e)) [SX (k.next e)]):=by
 refine QfM 1 Qi 200 func69 rfl rfl ntmps69 results69 rfl λbase w pl hb=>?_;simp only[go_sem];have QT:=JX hk;cases hi:e.J4
 ·simp only[go_sem];by_cases hw:k.work=0
  ·have d1:decide (0<k.work)=false:=QN (by omega);have d2:decide ((0:Int)<k.work)=false:=QN (by omega);have w1:IntKind.i64.wrap ((k.work:Int) - 1)=-1:=by rw[wrap64 (by omega) (by omega)];omega
   apply QH hb [0,1,2,3,4,5,6,7,8,9,10,11,12,13,14,15,16,17,18,19];simp only[go_sem,d1,d2];apply QH hb [0,1,2,3,4,5,6,7,8,9,1010];simp only[go_sem,w1];have e1:k.late e=false:=by simp[Kn.late,hw]
   have e2:k.next e=⟨max k.Xu e.done,k.since,0⟩:=by simp[Kn.next,hi,hw]
   have e3:max (-1:Int) 0=0:=rfl;rw[e1,e2,e3];simp
  ·have d1:decide (0<k.work)=true:=Q5 (by omega);have d2:decide ((0:Int)<k.work)=true:=Q5 (by omega);have w1:IntKind.i64.wrap ((k.work:Int) - 1)=((k.work - 1:Nat):Int):=by rw[wrap64 (by omega) (by omega)];omega
   apply QH hb [0,1,2,3,4,5,6,7,8,9,10,11,12,13,14,15,16,17,18,19];simp only[go_sem,d1,d2];apply QH hb [0,1,2,3,4,5,6,7,8,9,1010];simp only[go_sem,w1];have e2:k.next e=⟨max k.Xu e.done,k.since,k.work - 1⟩:=by simp[Kn.next,hi]
   have e3:max ((k.work - 1:Nat):Int) 0=((k.work - 1:Nat):Int):=by omega
   have e1:k.late e=decide (max k.Xu k.since<e.at_):=by simp only[Kn.late,hi,d1,Hx,Mg]
   rw[e1,e2,e3];simp
 ·simp only[go_sem];have e1:k.late e=false:=by simp[Kn.late,hi]
  first|refine zE (λhw=>?_) (λhw=>?_)|refine zF (λhw=>?_) (λhw=>?_)|refine zG (λhw=>?_) (λhw=>?_)|refine XS (λhw=>?_) (λhw=>?_)|refine zH (λhw=>?_) (λhw=>?_)|refine zI (λhw=>?_) (λhw=>?_)|refine zJ (λhw=>?_) (λhw=>?_)|refine zD (λhw=>?_) (λhw=>?_)
  ·simp only[go_sem,QT];have e2:k.next e=⟨k.Xu,e.at_,k.work+1⟩:=by simp[Kn.next,hi,show k.work=0 by omega]
   rw[e1,e2];simp
  ·simp only[go_sem,QT];have e2:k.next e=⟨k.Xu,k.since,k.work+1⟩:=by simp[Kn.next,hi,show ¬ k.work=0 by omega]
   rw[e1,e2];simp
def qI(l:List Ev):Nat->Kn
 | 0=>⟨0,0,0⟩
 | k+1=>(qI l k).next (l.getD k default)
def Qdo(l:List Ev):∀k,(qI l k).work<=k
 | 0=>QB _
 | k+1=>by have:=Qdo l k;simp only[qI,Kn.next];split<;>simp only<;>omega
def QnR(l:List Ev)(hl:l.length<2147483648):Q4 prog 66 [Kv l] (Qn (.agg (qI l l.length).cells)):=by
 refine ZA 0 Qi 200 func66 rfl ntmps66 results66 rfl λbase w hb=>?_;simp only[go_sem];refine BB (G:=Nat) [2,3,6,7] (λk=>True) (λk γ=>[(8,Qb k)]) (λk γ=>[⟨.one,0,3,1,λ_=>[.raw (.int .u64 0),.raw (.int .u64 0),.raw (.int .i64 0)]⟩,SX (qI l k)]) (l.length) (0) rfl (Qp.to 2 (by (simp only[go_sem,qI])<;>simp)) trivial ?_;intro k γ hk _;apply Zi hb;have QT:=JX (show k<4611686018427387904 by omega);have hw:=Qdo l k;first|refine YU hk (λQj=>?_) (λQj=>?_)|refine qu hk (λQj=>?_) (λQj=>?_)
 ·simp only[go_sem,Qj];refine Zu hb [1] Qhx rfl ?_ (QnQ (qI l k) (l.getD k default) (by omega)) rfl λd h hR=>?_
  ·simp only[go_sem]
  obtain⟨rfl,rfl⟩:=hR;simp only[go_sem];apply Zi hb;have e5:qI l (k+1)=(qI l k).next (l.getD k default):=rfl;repeat (refine And.intro (by first|assumption|omega) ?_)
  refine⟨_,Qp.to 2 (by (simp only[go_sem,QT,e5])<;>simp),VG.mk (γ) (trivial)⟩
 ·simp only[go_sem];apply Zi hb;subst Qj;rfl
def Qdp(l:List Ev)(hl:l.length<2147483648):Q4 prog 19 [Kv l] (Qn (Qb (qI l l.length).work)):=by
 refine ZA 0 Qi 200 func19 rfl ntmps19 results19 rfl λbase w hb=>?_;simp only[go_sem];refine Zu hb [] Qhv rfl ?_ (QnR l hl) rfl λd h hR=>?_
 ·simp only[go_sem]
 obtain⟨rfl,rfl⟩:=hR;simp only[go_sem];exact qY hb
def Qdq(l:List Ev)(hl:l.length<2147483648):Q4 prog 22 [Kv l] (Qn (.raw (.int .u64 (qI l l.length).Xu))):=by
 refine ZA 0 Qi 200 func22 rfl ntmps22 results22 rfl λbase w hb=>?_;simp only[go_sem];refine Zu hb [] Qhv rfl ?_ (QnR l hl) rfl λd h hR=>?_
 ·simp only[go_sem]
 obtain⟨rfl,rfl⟩:=hR;simp only[go_sem];exact qY hb
def VV(l:List Ev)(k:Nat):Bool:=(qI l k).late (l.getD k default)
def LW(l:List Ev)(k:Nat):Prop:=k<l.length/\VV l k=true/\∀j,j<k->VV l j=false
def SY(l:List Ev):Prop:=∀j,j<l.length->VV l j=false
def QFg(l:List Ev)(hl:l.length<2147483648):QK prog 68 [SX (qI l 0)] [Kv l,.clo 69 1 [.ptr 0 0 0 0]]
  (λd h=>(∃kn,h=[SX kn])/\((∃k,LW l k/\d=Qb k)\/(SY l/\d=Qb (-1)))):=by
 refine QfM 1 Qi 200 func68 rfl rfl ntmps68 results68 rfl λbase w pl hb=>?_;simp only[go_sem];refine BB (G:=Nat) [0,1,6,7] (λk=>∀j,j<k->VV l j=false) (λk γ=>[(8,Qb k)]) (λk γ=>[SX (qI l k)]) (l.length) (0) rfl (Qp.to 1 (by (simp only[go_sem])<;>simp)) ?_ ?_
 ·intro j hj;omega
 intro k γ hk Jy;apply Zi hb;have QT:=JX (show k<4611686018427387904 by omega);have hw:=Qdo l k;first|refine YU hk (λQj=>?_) (λQj=>?_)|refine qu hk (λQj=>?_) (λQj=>?_)
 ·simp only[go_sem,Qj];refine Zu hb [0] Qhx rfl ?_ (QnQ (qI l k) (l.getD k default) (by omega)) rfl λd h hR=>?_
  ·simp only[go_sem]
  obtain⟨rfl,rfl⟩:=hR;simp only[go_sem];apply Zi hb;have e5:qI l (k+1)=(qI l k).next (l.getD k default):=rfl;first|refine zE (λXo=>?_) (λXo=>?_)|refine zF (λXo=>?_) (λXo=>?_)|refine zG (λXo=>?_) (λXo=>?_)|refine XS (λXo=>?_) (λXo=>?_)|refine zH (λXo=>?_) (λXo=>?_)|refine zI (λXo=>?_) (λXo=>?_)|refine zJ (λXo=>?_) (λXo=>?_)|refine zD (λXo=>?_) (λXo=>?_)
  ·simp only[go_sem];exact⟨⟨_,rfl⟩,.inl ⟨k,⟨Qj,Xo,Jy⟩,rfl⟩⟩
  ·simp only[go_sem];repeat (refine And.intro (by first|assumption|omega) ?_)
   refine⟨_,Qp.to 1 (by (simp only[go_sem,QT,e5])<;>simp),VG.mk (0) (?_)⟩;intro j hj;rcases qc.1 hj with h|rfl
   ·exact Jy j h
   ·exact Xo
 ·simp only[go_sem];apply Zi hb;subst Qj;exact⟨⟨_,rfl⟩,.inr Jy⟩
def Qdr(l:List Ev)(hl:l.length<2147483648):Q4 prog 23 [Kv l]
  (λd h=>h=[]/\((∃k,LW l k/\d=.tup [Qb k,QJ true])\/(SY l/\d=.tup [Qb 0,QJ false]))):=by
 refine ZA 0 Qi 200 func23 rfl ntmps23 results23 rfl λbase w hb=>?_;simp only[go_sem];refine Zu hb [0] QuE rfl ?_ (QFg l hl) rfl λd h hR=>?_
 ·simp only[go_sem];simp[qI]
 obtain⟨⟨kn,rfl⟩,⟨k,hk,rfl⟩|⟨Jy,rfl⟩⟩:=hR
 ·simp only[go_sem];apply Zi hb;have d1:decide ((k:Int)<0)=false:=QN (by omega);simp only[go_sem,d1];exact .inl ⟨k,hk,rfl⟩
 ·simp only[go_sem];apply Zi hb;exact .inr Jy
structure AZ (T:List Qw):Prop where
 ul:∀c∈T,¬1<Q7 c.ul
 ls:∀c∈T,c.leaf=true->1<Q7 c.ls
section
variable {M:Qq}(I:Qy M)(V:Inv M)(F:JO M)(P:AZ M.T)
include I V F P
theorem QnS{y}{n:Nd}(hn:Ql M.N y=some n):n.cp.fit=0:=
 ((F n (wS hn)).2 (P.ul n.c ((Vs I.tree.rising).1 (I.some hn)).1)).2
omit I F P in
theorem QFh{y}{n:Nd}(hn:Ql M.N y=some n)(ha:JR M y=true)(h0:VE M y n=0):xA (M.KT n.c.parent)=0:=by
 have hx:=(V.kt n.c.parent ⟨n.sh.time,y,VE M y n,y⟩).2 ⟨n,hn,rfl,ha,rfl⟩;have h1:=(mA (M.KT n.c.parent) never).2.1 _ hx;have h1:xA (M.KT n.c.parent)<=VE M y n:=h1;omega
theorem QnT{a}(ha:a∈M.A):∀(k:Nat) (y:Int) (n:Nd),(up M.T y).length=k->y∈up M.T a->Ql M.N y=some n->VE M y n=0->xA (M.KT 0)=0
 | k,y,n,hk,hy,hn,h0=>by
  have jX:JR M y=true:=qw.2 ⟨a,ha,hy⟩;have h1:=QFh V hn jX h0;have hc:=I.some hn;by_cases hp:n.c.parent=0
  ·rw[hp]at h1;exact h1
  ·obtain⟨d,hd,hl⟩:=I.tree.J4 n.c ((Vs I.tree.rising).1 hc).1 hp;have hu:=Vz I.tree hc;obtain⟨l,Jx⟩:=Rc I.tree hy;have Dl:n.c.parent∈up M.T a:=by
    rw[Jx,hu,Vz I.tree hd];simp
   have hf:=I.find n.c.parent;rw[hd]at hf;cases hm:Ql M.N n.c.parent with
   | none=>rw[hm]at hf;cases hf
   | some m=>
    rw[hm,K0,Za]at hf;have MK:=QnS I V F P hm;have HU:VE M n.c.parent m=0:=by
     unfold VE;rw[Qd (by rw[<- hf,hl,show JR M n.c.parent=true from qw.2 ⟨a,ha,Dl⟩];decide),MK,h1];rfl
    exact QnT ha (up M.T n.c.parent).length n.c.parent m rfl Dl hm HU
 termination_by k=>k
 decreasing_by
  rw[<- hk,hu];simp
theorem QFi{j}(hq:Zn M j≠[]):KQ M=0:=by
 unfold Zn QD at hq;cases hn:Ql M.N j with
 | none=>rw[hn]at hq;exact absurd rfl hq
 | some n=>
  rw[hn]at hq;have hq:n.q.l≠[]:=hq;have hl:n.c.leaf=true:=by
   cases hl:n.c.leaf with
   | true=>rfl
   | false=>rw[V.wJ j n hn hl]at hq;exact absurd rfl hq
  have hc:=I.some hn;have hA:j∈M.A:=(V.act j).2 ⟨n,hn,hl,hq,P.ls n.c ((Vs I.tree.rising).1 hc).1 hl⟩;have hj:j∈up M.T j:=by rw[Vz I.tree hc];simp
  have hf:VE M j n=0:=by
   unfold VE;rw[Qf (.inl hl)];exact QnS I V F P hn
  have:=QnT I V F P hA _ j n rfl hj hn hf;unfold KQ;omega
theorem db(h:0<Zo M):KQ M=0:=by
 unfold Zo at h;have:∃c∈M.T,Zn M c.iD≠[]:=jM λhn=>by
  have h0:(M.T.map λc=>(Zn M c.iD).length).sum=0:=by
   have h1:=SJ (λc=>(Zn M c.iD).length) 0 M.T λc hc=>by
    have:Zn M c.iD=[]:=jM λhq=>hn ⟨c,hc,hq⟩;rw[this];exact QB _
   omega
  omega
 obtain⟨c,_,hq⟩:=this;exact QFi I V F P hq
end
def QnU{M}{now}(h:¬Xt M now=true):Zo (takeN M now)=Zo M:=by
 unfold Zo;rw[cn];congr 1;exact Ec λc _=>by rw[Hf,Qd λh2=>h h2.1]
def Co:Kn->List Ev->Prop
 | _,[]=>True
 | k,e::l=>k.late e=false/\Co (k.next e) l
def Qds:∀(a b:List Ev) (k:Kn),Co k a->Co (a.foldl Kn.next k) b->Co k (a++b)
 | [],b,k,_,h=>h
 | e::a,b,k,h1,h2=>⟨h1.1,Qds a b _ h1.2 h2⟩
structure dc (k:Kn) (S:Zf):Prop where
 w:k.work=Zo S.M
 u:k.Xu=S.JI
 s:k.since<=S.Qh
 F:JO S.M
 P:AZ S.M.T
structure yY (k:Kn) (S:Zf):Prop extends dc k S where
 b:0<Zo S.M->S.Qh<S.JI
def Qdt{S:Zf}(T:ZV S){k:Kn}(W:dc k S)(hl:0<k.work->S.JI<=S.Qh->(S.Qh:Int)<=max k.Xu k.since)(op):
  Co k (Z2 S op S.Qh).2/\yY ((Z2 S op S.Qh).2.foldl Kn.next k) (Z2 S op S.Qh).1:=by
 have hs:=W.s;have hu:=W.u;have hw:=W.w;unfold Z2;split
 ·rename_i h;exact⟨trivial,⟨W,λ_=>h⟩⟩
 ·rename_i zC;split
  ·rename_i h;have h1:=Of T.K (T.take_len h);have hc:=QmJ T.I T.V h;refine⟨⟨?_,trivial⟩,⟨⟨?_,?_,hs,W.F.takeN _,?_⟩,?_⟩⟩
   ·show (!false&&(decide (0<k.work)&&decide (max k.Xu k.since<(S.Qh:Int))))=false;by_cases h0:0<k.work
    ·rw[QN (show ¬max k.Xu k.since<(S.Qh:Int) by have:=hl h0 (by omega);omega),Tj,Tj]
    ·rw[QN h0];rfl
   ·show k.work - 1=Zo (takeN S.M S.Qh);omega
   ·show max k.Xu ((S.Qh+YJ S.M.lk (Vf S.M S.Qh).len:Nat):Int)=((S.Qh+YJ S.M.lk (Vf S.M S.Qh).len:Nat):Int);omega
   ·show AZ (takeN S.M S.Qh).T;rw[cn];exact W.P
   ·intro _;show S.Qh<S.Qh+YJ S.M.lk (Vf S.M S.Qh).len;omega
  ·rename_i h;have h0:Zo S.M=0:=jM λhn=>by
    have hd:=db T.I T.V W.F W.P (by omega);have h2:=QcC T.I T.V (now:=S.Qh) T.cl T.mc;rw[hd]at h2;exact h (h2.trans (Q5 ⟨Z7 _,by decide⟩))
   refine⟨trivial,⟨⟨hw.trans (QnU h).symm,hu,hs,W.F.takeN _,?_⟩,λhh=>?_⟩⟩
   ·show AZ (takeN S.M S.Qh).T;rw[cn];exact W.P
   ·have hh:0<Zo (takeN S.M S.Qh):=hh;rw[QnU h]at hh;omega
def QnV{op e}(he:e<=4611686018427387904):∀(n:Nat) {S:Zf} {k:Kn},ZV S->S.Qh<=e->yY k S->Zo S.M<n->Co k (Zz op e n S).2/\yY ((Zz op e n S).2.foldl Kn.next k) (Zz op e n S).1
 | 0,S,k,T,h,W,hn=>absurd hn (Vw _)
 | n+1,S,k,T,h,W,hn=>by
  have hs:=W.s;have zC:=T.un;unfold Zz;split
  ·rename_i h2;refine⟨trivial,⟨⟨W.w,W.u,by show k.since<=(e:Int);omega,W.F,W.P⟩,λhc=>?_⟩⟩;have hb:=W.b hc;have hd:=db T.I T.V W.F W.P hc;unfold QP XL at h2;show e<S.JI;rw[hd]at h2;omega
  ·rename_i h2;have h2:QP S<=e:=by omega
   obtain⟨T3,c1,c2,c3⟩:=Oj T op he h2;have hc:0<Zo S.M:=by omega
   have hb:=W.b hc;have hd:=db T.I T.V W.F W.P hc;have zd:QP S=S.JI:=by
    unfold QP XL;rw[hd];omega
   have T1:=T.at_ (SB S T.cl) (show QP S<=4611686018427387904 by omega);have hu:=W.u;have W1:dc k { S with Qh:=QP S }:=⟨W.w,W.u,by show k.since<=(QP S:Nat);omega,W.F,W.P⟩;obtain⟨p1,p2⟩:=Qdt T1 W1 (λ_ _=>by show ((QP S:Nat):Int)<=max k.Xu k.since;rw[zd,hu];omega) op;obtain⟨r1,r2⟩:=QnV (op:=op) he n T3 (by rw[c3];exact h2) p2 (by omega);refine⟨Qds _ _ _ p1 r1,?_⟩;rw[kz];exact r2
structure xP where
 SZ:Int
 to:Int
instance:Inhabited xP:=⟨⟨0,0⟩⟩
@[go_sem] def xP.cells(s:xP):List D:=[.raw (.int .u64 s.SZ),.raw (.int .u64 s.to)]
def xP.rows(l:List xP):Nat->List D:=λi=>(l.getD i default).cells
@[go_sem] theorem xP.yn(l:List xP)(i):xP.rows l i=(l.getD i default).cells:=rfl
@[go_sem] def strs(l:List xP):D:=.imm 2 l.length (xP.rows l)
structure StS where
 l:List xP
 Xu:Int
def S4(s:StS)(e:Ev):StS:=
 if e.J4=true then s
 else if s.l.length=0\/s.Xu<e.at_ then ⟨s.l++[⟨e.at_,e.done⟩],max s.Xu e.done⟩
 else ⟨s.l.set (s.l.length - 1) ⟨(s.l.getD (s.l.length - 1) default).SZ,max (s.l.getD (s.l.length - 1) default).to e.done⟩,max s.Xu e.done⟩
def ja(l:List Ev):Nat->StS
 | 0=>⟨[],0⟩
 | k+1=>S4 (ja l k) (l.getD k default)
def Qdv(l:List Ev):∀k,(ja l k).l.length<=k
 | 0=>QB _
 | k+1=>by
  have:=Qdv l k;simp only[ja,S4];split
  ·omega
  ·split
   ·simp;omega
   ·simp;omega
def QFj{α:Type}[Inhabited α]{n}{l:List α}{o:α}(i)(hi:i<l.length):(l.set n o).getD i default=bif (i==n) then o else l.getD i default:=by
 by_cases h:i=n
 ·subst h;rw[Qin _ _ _ _ hi];simp
 ·rw[Qio _ _ _ _ _ (Q8 h),jO.2 h];rfl
def QnW(l:List Ev)(hl:l.length<2147483648):Q4 prog 52 [Kv l] (Qn (strs (ja l l.length).l)):=by
 refine ZA 0 Qi 200 func52 rfl ntmps52 results52 rfl λbase w hb=>?_;simp only[go_sem];refine qS (Qp.Bh 3 2 (xP.rows []) rfl) ?_;simp only[go_sem];refine BB (G:=Nat) [8,9] (λk=>True) (λk γ=>[(3,.ref 0 (ja l k).l.length 0 (ja l k).l.length),(4,.raw (.int .u64 (ja l k).Xu)),(10,Qb k)]) (λk γ=>[⟨.arr,(ja l k).l.length,2,(ja l k).l.length,xP.rows (ja l k).l⟩]) (l.length) (0) rfl (Qp.to 1 (by (simp only[go_sem,ja])<;>simp)) trivial ?_;intro k γ hk _;apply Zi hb;have QT:=JX (show k<4611686018427387904 by omega);have hlen:=Qdv l k;first|refine YU hk (λQj=>?_) (λQj=>?_)|refine qu hk (λQj=>?_) (λQj=>?_)
 ·have e5:ja l (k+1)=S4 (ja l k) (l.getD k default):=rfl;generalize oX:l.getD k default=e at *;generalize hse:ja l k=s at *;cases hi:e.J4;case true=>
   rw[S4,Qf hi]at e5;simp only[go_sem,Qj,oX,hi];repeat (refine And.intro (by first|assumption|omega) ?_)
   refine⟨_,Qp.to 1 (by (simp only[go_sem,QT,e5])<;>simp),VG.mk (γ) (trivial)⟩
  have QMJ:∀(x:xP),(s.l++[x]).length=s.l.length+1:=λx=>by simp
  by_cases c1:s.l.length=0\/s.Xu<e.at_
  ·rw[S4,Qd (by rw[hi];simp),Qf c1]at e5;have w1:IntKind.i64.wrap (((s.l.length+1:Nat):Int) - 1)=(s.l.length:Int):=by rw[wrap64 (by omega) (by omega)];omega
   have d3:s.l.length<s.l.length+1:=by omega
   by_cases c2:s.l.length=0;case pos=>
    simp only[go_sem,Qj,oX,hi,bz c2,w1,d3];refine⟨by omega,?_⟩;apply QH hb [0,1,2,3,4,5,6,7,8,9,1010];simp only[go_sem,w1,d3,YP];repeat (refine And.intro (by first|assumption|omega) ?_)
    refine⟨_,Qp.to 1 ⟨?_,?_,?_,?_⟩,VG.mk γ trivial⟩
    ·simp only[go_sem,QT,e5,Zj]
    ·simp only[go_sem]
    ·simp only[go_sem]
    ·simp only[go_sem,e5,Zj,Int.max_self];intro i hi;rw[vZ _ _ _ _ hi];rcases qc.1 hi with h|h
     ·have hb:(i==s.l.length)=false:=by simp;omega
      simp only[h,hb,decide_true,Yr,Xw]
     ·subst h;simp only[Aa,YP,decide_false,Yr,Xw]
   case neg=>
    have c3:s.Xu<e.at_:=by omega
    simp only[go_sem,Qj,oX,hi,tO c2,w1,d3,Q5 c3];refine⟨by omega,?_⟩;apply QH hb [0,1,2,3,4,5,6,7,8,9,1010];simp only[go_sem,w1,d3,YP];repeat (refine And.intro (by first|assumption|omega) ?_)
    refine⟨_,Qp.to 1 ⟨?_,?_,?_,?_⟩,VG.mk γ trivial⟩
    ·simp only[go_sem,QT,e5,Zj]
    ·simp only[go_sem]
    ·simp only[go_sem]
    ·simp only[go_sem,e5,Zj,Int.max_self];intro i hi;rw[vZ _ _ _ _ hi];rcases qc.1 hi with h|h
     ·have hb:(i==s.l.length)=false:=by simp;omega
      simp only[h,hb,decide_true,Yr,Xw]
     ·subst h;simp only[Aa,YP,decide_false,Yr,Xw]
  ·rw[S4,Qd (by rw[hi];simp),Qd c1]at e5;have c2:s.l.length≠0:=by omega
   have c3:¬ s.Xu<e.at_:=by omega
   have w1:IntKind.i64.wrap ((s.l.length:Int) - 1)=((s.l.length - 1:Nat):Int):=by rw[wrap64 (by omega) (by omega)];omega
   have d3:s.l.length - 1<s.l.length:=by omega
   simp only[go_sem,Qj,oX,hi,tO c2,w1,d3,QN c3];apply QH hb [0,1,2,3,4,5,6,7,8,9,1010];simp only[go_sem,w1,d3];repeat (refine And.intro (by first|assumption|omega) ?_)
   refine⟨_,Qp.to 1 ⟨?_,?_,?_,?_⟩,VG.mk γ trivial⟩
   ·simp only[go_sem,QT,e5,KD]
   ·simp only[go_sem]
   ·simp only[go_sem]
   ·simp only[go_sem,e5,KD];intro i hi;rw[QFj _ hi];cases (i==s.l.length - 1)<;>rfl
 ·simp only[go_sem];subst Qj;refine qS (Qp.freeze rfl 0 rfl rfl (λi hi=>by simp only[go_sem])) ?_;simp only[go_sem];exact qY hb
def rw_(l:List Ev):Nat->Nat
 | 0=>0
 | k+1=>if (l.getD k default).J4=true then rw_ l k+1 else rw_ l k - 1
@[simp] theorem QMK(l:List Ev):rw_ l 0=0:=rfl
def QFl(a b c):IntKind.u64.wrap (a+IntKind.u64.wrap (b - c))=IntKind.u64.wrap (IntKind.u64.wrap (a+b) - c):=by
 simp only[IntKind.wrap_u64];omega
def Hp(L:List xP):Nat->Int
 | 0=>0
 | k+1=>if (L.getD k default).SZ<(L.getD k default).to then IntKind.u64.wrap (IntKind.u64.wrap (Hp L k+(L.getD k default).to) - (L.getD k default).SZ) else Hp L k
def QFm(l:List Ev)(hl:l.length<2147483648):Q4 prog 53 [Kv l] (Qn (.raw (.int .u64 (Hp (ja l l.length).l (ja l l.length).l.length)))):=by
 refine ZA 0 Qi 200 func53 rfl ntmps53 results53 rfl λbase w hb=>?_;simp only[go_sem];refine Zu hb [] Qht rfl ?_ (QnW l hl) rfl λd h hR=>?_
 ·simp only[go_sem]
 obtain⟨rfl,rfl⟩:=hR;simp only[go_sem];apply Zi hb;have hL:=Qdv l l.length;generalize (ja l l.length).l=L at *;refine BB (G:=Nat) [7,8] (λk=>True) (λk γ=>[(3,.raw (.int .u64 (Hp L k))),(9,Qb k)]) (λk γ=>[]) (L.length) (0) rfl (Qp.to 0 (by (simp only[go_sem,Hp])<;>simp)) trivial ?_;intro k γ hk _;apply Zi hb;have QT:=JX (show k<4611686018427387904 by omega);first|refine YU hk (λQj=>?_) (λQj=>?_)|refine qu hk (λQj=>?_) (λQj=>?_)
 ·have e5:Hp L (k+1)=if (L.getD k default).SZ<(L.getD k default).to then IntKind.u64.wrap (IntKind.u64.wrap (Hp L k+(L.getD k default).to) - (L.getD k default).SZ) else Hp L k:=rfl;simp only[go_sem,Qj];first|refine zE (λc1=>?_) (λc1=>?_)|refine zF (λc1=>?_) (λc1=>?_)|refine zG (λc1=>?_) (λc1=>?_)|refine XS (λc1=>?_) (λc1=>?_)|refine zH (λc1=>?_) (λc1=>?_)|refine zI (λc1=>?_) (λc1=>?_)|refine zJ (λc1=>?_) (λc1=>?_)|refine zD (λc1=>?_) (λc1=>?_)
  ·simp only[go_sem,QFl];rw[Qf c1]at e5;repeat (refine And.intro (by first|assumption|omega) ?_)
   refine⟨_,Qp.to 0 (by (simp only[go_sem,QT,e5])<;>simp),VG.mk (γ) (trivial)⟩
  ·simp only[go_sem];rw[Qd c1]at e5;repeat (refine And.intro (by first|assumption|omega) ?_)
   refine⟨_,Qp.to 0 (by (simp only[go_sem,QT,e5])<;>simp),VG.mk (γ) (trivial)⟩
 ·simp only[go_sem];subst Qj;exact qY hb
def QFn{M}{now}{cls}{x}(I:Qy M)(I2:Qy (Jr M now cls x))(h:Y3 M now cls x=0):Zo M+1=Zo (Jr M now cls x):=by
 unfold Zo;rw[cZ];have ZY:(M.T.map (·.iD)).Nodup:=by
  have h:M.T.Pairwise (λa b=>a.iD<b.iD):=I.tree.rising;rw[Tv,Ml];exact h.imp λVo=>by omega
 have hq:∀j,Zn (Jr M now cls x) j=if cls=j then Zn M j++[x] else Zn M j:=λj=>by
  rw[SA];by_cases e:cls=j
  ·rw[Qf ⟨h,e⟩,Qf e]
  ·rw[Qd λh=>e h.2,Qd e]
 refine QcD (q:=cls) (f:=λj=>(Zn (Jr M now cls x) j).length) (f':=λj=>(Zn M j).length) ZY ?_ ?_ λj hj=>?_
 ·have Qz:Zn (Jr M now cls x) cls≠[]:=by rw[hq,Qf rfl];simp
  unfold Zn QD at Qz;cases hf:Ql (Jr M now cls x).N cls with
  | none=>rw[hf]at Qz;exact absurd rfl Qz
  | some n=>
   obtain⟨h3,h4⟩:=(Vs I2.tree.rising).1 (I2.some hf);rw[cZ]at h3;exact Jk.2 ⟨n.c,h3,h4⟩
 ·rw[hq,Qf rfl,Zj];rfl
 ·rw[hq,Qd λe=>hj e.symm]
def QFo{M}{now}{cls}{x}(h:¬Y3 M now cls x=0):Zo (Jr M now cls x)=Zo M:=by
 unfold Zo;rw[cZ];congr 1;exact Ec λc _=>by rw[SA,Qd λh2=>h h2.1]
def yY.ops{k}{S}(W:yY k S)(n):yY k { S with ops:=n }:=⟨⟨W.w,W.u,W.s,W.F,W.P⟩,W.b⟩
def Qdw{S}(T:ZV S){k}(W:yY k S){o:QZ}(ho:∀c∈o.changes,JH.Ok c)(hk:o.kind≠1):
  Co k (QY S o).l/\yY ((QY S o).l.foldl Kn.next k) (QY S o).S:=by
 have W0:=W.ops (S.ops+1);have T0:=T.ops (S.ops+1);have hs:=W.s;have ZP:=T.cl;show Co k (JA { S with ops:=S.ops+1 } S.ops o).l/\yY ((JA { S with ops:=S.ops+1 } S.ops o).l.foldl Kn.next k) (JA { S with ops:=S.ops+1 } S.ops o).S;unfold JA;rw[Qd hk];split
 ·split
  ·exact⟨trivial,⟨⟨W.w,W.u,W.s,W.F,W.P⟩,W.b⟩⟩
  ·exact⟨trivial,W0⟩
 ·split
  ·unfold X3;split
   ·exact⟨trivial,W0⟩
   ·split
    ·rename_i hp;have hp:Y3 S.M S.Qh (Jj S.R (Zy o.Zw)) o.Zw=0:=hp;have T1:=T0.put (Jj S.R (Zy o.Zw)) o.Zw;have T2:=T1.Jv (Jj S.R (Zy o.Zw)) S.Qh (by omega);have hc:=QFn T.I T1.I hp;have hc:Zo S.M+1=Zo (Jr S.M S.Qh (Jj S.R (Zy o.Zw)) o.Zw):=hc;obtain⟨E,hE⟩:∃E,E=AW S.ops S.Qh (Jj S.R (Zy o.Zw)) o.Zw:=⟨_,rfl⟩;have hn:k.next E=⟨k.Xu,if k.work=0 then (S.Qh:Int) else k.since,k.work+1⟩:=by
      subst hE;unfold Kn.next;rw[Qf (show (AW S.ops S.Qh (Jj S.R (Zy o.Zw)) o.Zw).J4=true from rfl)];rfl
     have Qc:k.late E=false:=by subst hE;rfl
     have hw:=W.w;have hu:=W.u;have W1:dc (k.next E) { { S with ops:=S.ops+1 } with M:=Jr S.M S.Qh (Jj S.R (Zy o.Zw)) o.Zw,st:=kg S.st (Jj S.R (Zy o.Zw)) S.Qh }:=by
      rw[hn];refine⟨?_,hu,?_,W.F.Jr _ _ _,?_⟩
      ·show k.work+1=Zo (Jr S.M S.Qh (Jj S.R (Zy o.Zw)) o.Zw);omega
      ·show (if k.work=0 then (S.Qh:Int) else k.since)<=(S.Qh:Nat);split<;>omega
      ·show AZ (Jr S.M S.Qh (Jj S.R (Zy o.Zw)) o.Zw).T;rw[cZ];exact W.P
     obtain⟨p1,p2⟩:=Qdt T2 W1 (λ_ zC=>by
      have zC:S.JI<=S.Qh:=zC;have hb:=W.b;rw[hn];show (S.Qh:Int)<=max k.Xu (if k.work=0 then (S.Qh:Int) else k.since);by_cases h0:k.work=0
      ·rw[Qf h0];omega
      ·have:=hb (by omega);omega) S.ops
     rw[<- hE];exact⟨⟨Qc,p1⟩,p2⟩
    ·rename_i hp;have hp:¬Y3 S.M S.Qh (Jj S.R (Zy o.Zw)) o.Zw=0:=hp;have Mz:=QFo hp;refine⟨trivial,⟨⟨W.w.trans Mz.symm,W.u,hs,W.F.Jr _ _ _,?_⟩,λhh=>W.b (by rw[<- Mz];exact hh)⟩⟩;show AZ (Jr S.M S.Qh (Jj S.R (Zy o.Zw)) o.Zw).T;rw[cZ];exact W.P
  ·split
   ·unfold Yo;split
    ·exact⟨trivial,W0⟩
    ·rename_i Qc;have Qc:¬(4611686018427387904 - S.Qh<o.Jn.toNat):=Qc;exact QnV (S:={ S with ops:=S.ops+1 }) (op:=S.ops) (e:=S.Qh+o.Jn.toNat) (by omega) (Zo S.M+1) T0 (by show S.Qh<=S.Qh+_;omega) W0 (Bc _)
   ·exact⟨trivial,W0⟩
def QnX(c):yY ⟨0,0,0⟩ (S0 c):=⟨⟨rfl,rfl,FJ _,λn hn=>(by cases hn),⟨λc hc=>(by cases hc),λc hc=>(by cases hc)⟩⟩,λh=>absurd h (by show ¬(0<0);omega)⟩
def QFp{c}(K:XK c){o:QZ}(ho:∀a∈o.changes,JH.Ok a)(hP:AZ (QY (S0 c) o).S.M.T):
  Co ⟨0,0,0⟩ (QY (S0 c) o).l/\yY ((QY (S0 c) o).l.foldl Kn.next ⟨0,0,0⟩) (QY (S0 c) o).S:=by
 by_cases hk:o.kind=1
 ·have hS:QY (S0 c) o=⟨{ { S0 c with ops:=1 } with M:=Ke (M0 c) (decide ((S0 c).JI<=(S0 c).Qh)) o.changes },⟨zX (M0 c) (decide ((S0 c).JI<=(S0 c).Qh)) o.changes,AQ (M0 c) o.changes,0⟩,[]⟩:=by
   show JA { S0 c with ops:=(S0 c).ops+1 } (S0 c).ops o=_;unfold JA;rw[Qf hk];rfl
  rw[hS]at hP ⊢;have h0:Zo (Ke (M0 c) (decide ((S0 c).JI<=(S0 c).Qh)) o.changes)=0:=by
   have h1:=SJ (λk=>(Zn (Ke (M0 c) (decide ((S0 c).JI<=(S0 c).Qh)) o.changes) k.iD).length) 0 (Ke (M0 c) (decide ((S0 c).JI<=(S0 c).Qh)) o.changes).T λk hk=>by
    rw[QDU];exact QB _
   unfold Zo;omega
  have F0:JO (M0 c):=λn hn=>(by cases hn);exact⟨trivial,⟨⟨h0.symm,rfl,FJ _,F0.Ke (QbN c) _ ho,hP⟩,λh=>by
   have h:0<Zo (Ke (M0 c) (decide ((S0 c).JI<=(S0 c).Qh)) o.changes):=h;omega⟩⟩
 ·exact Qdw (ZV.SW K) (QnX c) ho hk
def Qdx(l:List Ev):∀k,k<=l.length->qI l k=(l.take k).foldl Kn.next ⟨0,0,0⟩
 | 0,_=>rfl
 | k+1,h=>by
  rw[getD_take _ default _ (by omega),kz,<- Qdx l k (by omega)];rfl
def QnY:∀(l:List Ev) (k:Kn),Co k l->∀i,i<l.length->((l.take i).foldl Kn.next k).late (l.getD i default)=false
 | [],_,_,i,hi=>absurd hi (Vw i)
 | e::l,k,h,0,_=>h.1
 | e::l,k,h,i+1,hi=>QnY l _ h.2 i (by simpa using hi)
def QFq{l}(h:Co ⟨0,0,0⟩ l):SY l:=λj hj=>by
 unfold VV;rw[Qdx l j (by omega)];exact QnY l _ h j hj
def Qdy(M:Qq):X2 (yT M) (M.T.map (·.iD))=Zo M:=by
 unfold X2 Zo;rw[xT];rfl
def LX(l:List QZ):Bool:=(l.drop 1).all λo=>o.kind != 1
def still_at{l:List QZ}(h:LX l=true){k}(hk:k<l.length)(h0:0<k):(l.getD k default).kind≠1:=by
 have h1:=X6.1 h (l.getD k default) (by
  rw[Ze,QW hk];obtain⟨j,rfl⟩:∃j,k=j+1:=⟨k - 1,by omega⟩;refine OQ (i:=j) ?_;rw[HA,Tw,QW hk];rfl)
 simpa using h1
def oY{c}(K:XK c){l:List QZ}(hl:∀o∈l,QZ.Ok o)(hs:LX l=true)(hP:AZ (Zh (S0 c) (l.take 1)).1.M.T):∀k,k<=l.length->0<k ->
  ZV (Zh (S0 c) (l.take k)).1/\Co ⟨0,0,0⟩ (Zh (S0 c) (l.take k)).2.2/\yY ((Zh (S0 c) (l.take k)).2.2.foldl Kn.next ⟨0,0,0⟩) (Zh (S0 c) (l.take k)).1
 | 0,_,h=>absurd h (YP 0)
 | 1,hk,_=>by
  obtain⟨a,b⟩:=oW (S0 c) l (k:=0) (by omega);have ho:=hl _ (WI l default 0 (by omega));rw[a]at hP;rw[a,b];obtain⟨d,e⟩:=QFp K ho.2.1.2 hP;exact⟨(ZV.SW K).do ho.2.1.2,d,e⟩
 | k+2,hk,_=>by
  obtain⟨T,B,W⟩:=oY K hl hs hP (k+1) (by omega) (by omega);obtain⟨a,b⟩:=oW (S0 c) l (k:=k+1) (by omega);have ho:=hl _ (WI l default (k+1) (by omega));obtain⟨d,e⟩:=Qdw T W ho.2.1.2 (still_at hs (by omega) (by omega));rw[a,b,kz];exact⟨T.do ho.2.1.2,Qds _ _ _ B d,e⟩
def oZ(l:List Ev):qI l l.length=l.foldl Kn.next ⟨0,0,0⟩:=by
 rw[Qdx l _ (QB _),YO]
def Qn2{l:List QZ}:LX l=true↔∀k,k<l.length->0<k->(l.getD k default).kind≠1:=by
 refine⟨λh k hk h0=>still_at h hk h0,λh=>?_⟩;unfold LX;rw[X6];intro o ho;obtain⟨i,hi,rfl⟩:=y9 ho;rw[ei]at hi;have:=h (i+1) (by omega) (by omega);rw[List.getElem_drop];rw[Ze,QW (by omega)]at this;have e:1+i=i+1:=Tw 1 i;simp only[e];simpa using this
def Qn3(x:KW)(h:x.ops.length<1000000):Q4 prog 13 [.agg x.cells] (Qn (QJ (LX x.ops))):=by
 refine ZA 0 Qi 200 func13 rfl ntmps13 results13 rfl λbase w hb=>?_;simp only[go_sem];refine BB (G:=Nat) [6,7] (λk=>∀j,j<k->0<j->(x.ops.getD j default).kind≠1) (λk γ=>[(8,Qb k)]) (λk γ=>[]) (x.ops.length) (0) rfl (Qp.to 0 (by (simp only[go_sem])<;>simp)) ?_ ?_
 ·intro j hj;omega
 intro k γ hk KS;apply Zi hb;have QT:=JX (show k<4611686018427387904 by omega);first|refine YU hk (λQj=>?_) (λQj=>?_)|refine qu hk (λQj=>?_) (λQj=>?_)
 ·simp only[go_sem,Qj];by_cases h0:0<k
  ·have d0:=Q5 (show (0:Int)<k by omega);by_cases h1:(x.ops.getD k default).kind=1
   ·have e1:=Wg h1;have ff:LX x.ops=false:=by
     rw[jK];intro hf;exact Qn2.1 hf k Qj h0 h1
    simp only[go_sem,d0,e1,ff]
   ·have e1:=J5 h1;simp only[go_sem,d0,e1];repeat (refine And.intro (by first|assumption|omega) ?_)
    refine⟨_,Qp.to 0 (by (simp only[go_sem,QT])<;>simp),VG.mk (0) (?_)⟩;intro j hj j0;rcases qc.1 hj with h|rfl
    ·exact KS j h j0
    ·exact h1
  ·have d0:=QN (show ¬(0:Int)<k by omega);simp only[go_sem,d0];repeat (refine And.intro (by first|assumption|omega) ?_)
   refine⟨_,Qp.to 0 (by (simp only[go_sem,QT])<;>simp),VG.mk (0) (?_)⟩;intro j hj j0;rcases qc.1 hj with h|rfl
   ·exact KS j h j0
   ·exact absurd j0 h0
 ·simp only[go_sem];apply Zi hb;subst Qj;rw[Qn2.2 KS]
def wO(c:Qw):Bool:=!(c.leaf&&!decide (1<Q7 c.ls) || decide (1<Q7 c.ul))
def Qn4{T:List Qw}:T.all wO=true↔AZ T:=by
 rw[X6];constructor
 ·intro h;refine⟨λc hc h1=>?_,λc hc hl=>?_⟩
  ·have:=h c hc;unfold wO at this;simp[h1]at this
  ·have:=h c hc;unfold wO at this;rw[hl]at this;simp at this;omega
 ·intro P c hc;have h1:=P.ul c hc;have h2:=P.ls c hc;unfold wO;cases hl:c.leaf with
  | true=>have:=h2 hl;simp;omega
  | false=>simp;omega
section
variable (n:Nd)(a:Bool)(f:Nat)
@[go_sem] theorem QMM:List.take 14 (qH n a f)=n.c.cells:=rfl
end
def Qn5{own}{tw}{h}{p}{S}(T:Kj own tw h p S):
  QK prog 17 h [.ptr p 0 0 0] (λd h'=>d=QJ (S.M.T.all wO)/\∃g,h'=h++g):=by
 have hC:=oV T;obtain⟨_,_,_,_,Tx⟩:=T;have TT:=λg=>(⟨_,_,_,_,Tx.YK g⟩:Kj (QX own h .no) (ZX tw h .my) (h++g) p S);have I:=Tx.co.I;refine Q6 Qi 200 func17 rfl ntmps17 results17 rfl λbase w pl hb=>?_;simp only[go_sem,Qa];refine Jh hb iL hC λd h1 hR=>?_;obtain⟨rfl,g0,rfl⟩:=hR;obtain⟨ids,FA⟩:∃ids,ids=S.M.T.map (·.iD):=⟨_,rfl⟩;have hil:ids.length=S.M.T.length:=by rw[FA,Kl]
 have hTl:=I.tree.len;rw[<- FA];apply QC hb;refine Jg (λk s=>∃g,s=⟨[(0,.ptr p 0 0 0),(8,ints ids),(9,Qb ids.length),(10,Qb k)],h++g⟩/\∀j,j<k->wO (S.M.T.getD j default)=true) ids.length QQ ⟨g0,rfl,λj hj=>absurd hj (Vw j)⟩ ?_;rintro k _ hk ⟨g,rfl,KS⟩;by_cases Qj:k<ids.length
 ·have dk:=Q5 Qj;have QT:=JX (show k<4611686018427387904 by omega);obtain⟨id,Zg⟩:∃id,id=ids.getD k 0:=⟨_,rfl⟩;obtain⟨c,hc⟩:∃c,c=S.M.T.getD k default:=⟨_,rfl⟩;have gz:c∈S.M.T:=by rw[hc];exact WI _ default k (by omega)
  have gw:c.iD=id:=by rw[Zg,FA,hc,getD_map (λc:Qw=>c.iD) S.M.T default 0 k (by omega)]
  obtain⟨n,hn,rK⟩:=I.NV ((Vs I.tree.rising).2 ⟨gz,gw⟩);have hG:=λg=>Qdh (TT g) hn;have hS:=v8 n.c;have hU:=tT n.c;refine Qe hb ?_;simp only[go_sem,Qa,dk,Qj,<- Zg];refine ZN hb sT (hG _) λd hR=>?_;subst hR;apply QC hb;have fin:wO c=!(n.c.leaf&&!decide (1<Q7 n.c.ls) || decide (1<Q7 n.c.ul)):=by rw[rK];rfl
  generalize decide (1<Q7 n.c.ls)=b1 at *;generalize decide (1<Q7 n.c.ul)=b2 at *;have ff:wO c=false->S.M.T.all wO=false:=λhf=>by
   rw[jK];intro ha;rw[X6.1 ha c gz]at hf;cases hf
  have tt:wO c=true->∀j,j<k+1->wO (S.M.T.getD j default)=true:=λhp j hj=>by
   rcases qc.1 hj with h|rfl
   ·exact KS j h
   ·rw[<- hc];exact hp
  generalize hl:n.c.leaf=b0 at *;rcases b0 with _|_<;>rcases b1 with _|_<;>rcases b2 with _|_;all_goals simp only[go_sem,Qa,hl]
  repeat' (first|((first|refine zE (λh=>?_) (λh=>?_)|refine zF (λh=>?_) (λh=>?_)|refine zG (λh=>?_) (λh=>?_)|refine XS (λh=>?_) (λh=>?_)|refine zH (λh=>?_) (λh=>?_)|refine zI (λh=>?_) (λh=>?_)|refine zJ (λh=>?_) (λh=>?_)|refine zD (λh=>?_) (λh=>?_))<;>(try simp only[go_sem,Go.undef,Qa,hl]))|(refine And.intro (by first|assumption|omega) ?_;try simp only[go_sem,Go.undef,Qa,hl])|(refine ZW hb vX rfl ?_ (hS) (Qn.flat rfl) rfl ?_;(· simp only[go_sem,Go.undef,Qa,hl]);intro d h hR;obtain⟨rfl,rfl⟩:=hR;refine Qe hb ?_;simp only[go_sem,Go.undef,Qa,hl])|(refine ZW hb sV rfl ?_ (hU) (Qn.flat rfl) rfl ?_;(· simp only[go_sem,Go.undef,Qa,hl]);intro d h hR;obtain⟨rfl,rfl⟩:=hR;refine Qe hb ?_;simp only[go_sem,Go.undef,Qa,hl])|fail)
  all_goals first|exact⟨by rw[ff (by rw[fin];rfl)],_,rfl⟩|exact⟨_,Qp.frame (by simp only[go_sem,QT]),_,rfl,tt (by rw[fin];rfl)⟩
 ·obtain rfl:k=ids.length:=by omega
  have dk:=QN Qj;refine Qe hb ?_;simp only[go_sem,Qa,dk];apply QC hb;have:S.M.T.all wO=true:=by
   rw[X6];intro c hc;obtain⟨i,hi,rfl⟩:=y9 hc;have:=KS i (by omega);rw[Ze,QW hi]at this;exact this
  rw[this];first|exact⟨_,rfl⟩|exact⟨rfl,_,rfl⟩|exact⟨_,rfl,_,rfl⟩
def LW.uniq{l}{j k}(a:LW l j)(b:LW l k):j=k:=by
 rcases Nat.lt_trichotomy j k with h|h|h
 ·have:=b.2.2 j h;rw[a.2.1]at this;cases this
 ·exact h
 ·have:=a.2.2 k h;rw[b.2.1]at this;cases this
def LW.not{l}{k}(a:LW l k)(h:SY l):False:=by
 have:=h k a.1;rw[a.2.1]at this;cases this
def ev(J4:Bool)(a d:Int):Ev:=⟨0,J4,false,a,d,0,0,0,0,0,0,0⟩
def y0:List Ev:=[ev false 0 100,ev false 100 150,ev false 200 250]
def A3:List Ev:=[ev true 5 0,ev true 9 0,ev false 5 15,ev false 16 20]
def Cm{i}(h:i<3):i=0\/i=1\/i=2:=by omega
def lt4{i}(h:i<4):i=0\/i=1\/i=2\/i=3:=by omega
def QFu:SY y0:=λj hj=>by
 have hj:j<3:=hj;obtain rfl|rfl|rfl:=Cm hj<;>rfl
def Qn7:LW A3 3:=⟨by decide,by rfl,λj hj=>by obtain rfl|rfl|rfl:=Cm hj<;>rfl⟩
def QFv:Q4 prog 23 [Kv y0] (Qn (.tup [Qb 0,QJ false])):=(Qdr y0 (by decide)).mono λd h ⟨h1,h2⟩=>by
 rcases h2 with ⟨k,hk,_⟩|⟨_,h2⟩
 ·exact(hk.not QFu).elim
 ·exact⟨h2,h1⟩
def QFw:Q4 prog 23 [Kv A3] (Qn (.tup [Qb 3,QJ true])):=(Qdr A3 (by decide)).mono λd h ⟨h1,h2⟩=>by
 rcases h2 with ⟨k,hk,h2⟩|⟨h2,_⟩
 ·have:=hk.uniq Qn7;subst this;exact⟨h2,h1⟩
 ·exact(Qn7.not h2).elim
def Qn8:Q4 prog 14 [] (Qn (QJ true)):=by
 refine ZA 0 Qi 200 func14 rfl ntmps14 results14 rfl λbase w hb=>?_;simp only[go_sem];refine kO (s':=⟨[(0,.raw (.bool false)),(1,Kv y0),(2,Kv A3),(17,Kv y0)],[⟨.arr,1,12,0,λ_=>[]⟩,⟨.arr,1,12,0,λ_=>[]⟩]⟩) (Qp.trans (Qp.freeze rfl 0 rfl rfl (λi hi=>?_)) (Qp.trans (Qp.freeze rfl 1 rfl rfl (λi hi=>?_)) (Qp.toT 2 ?_))) ?_
 ·obtain rfl|rfl|rfl:=Cm hi<;>rfl
 ·obtain rfl|rfl|rfl|rfl:=lt4 hi<;>rfl
 ·simp only[go_sem,y0,A3];refine⟨λi hi=>?_,λi hi=>?_,λi hi=>?_⟩
  ·obtain rfl|rfl|rfl:=Cm hi;all_goals (simp only[go_sem,ev])<;>simp
  ·obtain rfl|rfl|rfl|rfl:=lt4 hi;all_goals (simp only[go_sem,ev])<;>simp
  ·obtain rfl|rfl|rfl:=Cm hi;all_goals (simp only[go_sem,ev])<;>simp
 have s1:=QnW y0 (by decide);rw[show (ja y0 y0.length).l=[⟨0,150⟩,⟨200,250⟩] from rfl]at s1;have s2:=QFm y0 (by decide);rw[show Hp (ja y0 y0.length).l (ja y0 y0.length).l.length=200 from rfl]at s2;have s3:=Qdp (A3.take 3) (by decide);rw[show (qI (A3.take 3) (A3.take 3).length).work=1 from rfl]at s3;have s4:=Qdq A3 (by decide);rw[show (qI A3 A3.length).Xu=20 from rfl]at s4;refine Zu hb [] Qht rfl ?_ s1 rfl λd h hR=>?_
 ·simp only[go_sem]
 obtain⟨rfl,rfl⟩:=hR;simp only[go_sem];apply Zi hb;refine Zu hb [] sN rfl ?_ QFw rfl λd h hR=>?_
 ·simp only[go_sem]
 obtain⟨rfl,rfl⟩:=hR;simp only[go_sem];apply Zi hb;refine Zu hb [] sN rfl ?_ QFv rfl λd h hR=>?_
 ·simp only[go_sem]
 obtain⟨rfl,rfl⟩:=hR;simp only[go_sem];apply Zi hb;refine Zu hb [] Quw rfl ?_ s2 rfl λd h hR=>?_
 ·simp only[go_sem]
 obtain⟨rfl,rfl⟩:=hR;simp only[go_sem];apply Zi hb;have hM:A3.length=4:=rfl;simp only[go_sem,hM];refine ZW hb iJ rfl ?_ s3 (Qn.flat rfl) rfl λd h hR=>?_
 ·simp only[go_sem,A3,List.take_succ_cons,List.take_zero];intro i hi;obtain rfl|rfl|rfl:=Cm hi<;>rfl
 obtain⟨rfl,rfl⟩:=hR;apply Zi hb;refine Zu hb [] iK rfl ?_ s4 rfl λd h hR=>?_
 ·simp only[go_sem,hM]
 obtain⟨rfl,rfl⟩:=hR;simp only[go_sem,hM];refine Qe hb ?_;simp only[go_sem,hM]
end Go.Fg.X
namespace Go.Fg
open Go.RowKit (Below)
inductive OB (h:List Ob):D->D->Prop
 | cl (d:D) (hc:d.WS=true):OB h d d
 | agg (cs:List D) (hc:cs.all D.WS=true):OB h (.agg cs) (.agg cs)
 | ref (lo off n:Nat) (o:Ob) (row:Nat->List D) (ho:h[lo]? = some o) (hk:o.kd.ty=0) (hn:off+n<=o.n) (hc:∀i,i<o.n->(o.row i).all D.WS=true) (hr:∀i,i<n->row i=o.row (off+i)):OB h (.ref lo o.gen off n) (.imm o.sz n row)
def D.plain:D->Bool
 | .raw _=>true
 | .tup cs=>cs.all λc=>match c with | .raw _=>true|_=>false
 | .agg cs=>cs.all λc=>match c with | .raw _=>true|_=>false
 | _=>false
section
variable {Z:Nat->Prop}
def Qn9{h}{pl}{w}{cs:List D}(hc:(cs.all λc=>match c with | .raw _=>true|_=>false)=true){vs}(hr:∀i,i<cs.length->QE Z h pl w (nth cs i) (Zb vs i)){N}{w'}:∀i,i<cs.length->Cl N w' (nth cs i) (Zb vs i):=λi hi=>by
 have h1:=X6.1 hc cs[i] (qK hi);have h2:=hr i hi;have e:nth cs i=cs[i]:=by simp[nth,Ze,hi]
 rw[e]at h2 ⊢;generalize cs[i]=c at h1 h2;cases c with
 | raw v=>rw[JG h2];exact .raw v
 | _=>cases h1
def QFx{h}{pl}{w}{d:D}{v}(hd:d.plain=true)(r:QE Z h pl w d v){N}{w'}:Cl N w' d v:=by
 cases d with
 | raw u=>rw[JG r];exact .raw u
 | tup cs=>
  obtain⟨vs,rfl,hl,hr⟩:=Qeh r;exact .tup cs vs hl (Qn9 hd hr)
 | agg cs=>
  obtain⟨vs,rfl,hl,hr⟩:=FW r;exact .agg cs vs hl (Qn9 hd hr)
 | _=>cases hd
def OB.ok{h}{pl}{w}{base}(R:Zv Z base h pl w){d' d}{v}(L:OB h d' d)(r:QE Z h pl w d' v):Cl (free (λ_=>True) []) w d v:=by
 have fr:∀b,free (λ_=>True) [] b:=λb=>⟨trivial,λl q e=>by simp at e⟩;have up:∀{N:Nat->Prop} {d:D} {v:Value},Cl N w d v->Cl (free (λ_=>True) []) w d v:=λc=>c.mono λb _ _=>⟨fr b,rfl⟩;cases L with
 | cl _ hc=>exact up (CO r hc)
 | agg cs hc=>
  obtain⟨vs,rfl,hl,hr⟩:=FW r;refine .agg cs vs hl λi hi=>up (CO (hr i hi) ?_);have e:nth cs i=cs[i]:=by simp[nth,Ze,hi]
  rw[e];exact X6.1 hc cs[i] (qK hi)
 | ref lo off n o row ho hk hn hc hr=>
  obtain⟨o',p,a,cap,rfl,ZT,hp,_,_,hs⟩:=Cw r;rw[ho]at ZT;cases ZT;rcases hs rfl with ⟨h1,h2⟩|⟨b,q,c,el,rfl,ha,Gi,JW,Bk⟩
  ·subst h1;subst h2;exact .imm _ _ _ _ _ 0 0 (λ_ _=>Go.undef) (λh=>by omega) (by omega) (λi hi=>by omega) (λi j hi=>by omega) (λi j hi=>by omega)
  ·obtain⟨c',O8,k1,_,k3,k4⟩:=(R.at_ lo o b q ho hp).2.cells hk;have key:∀i j,i<n->j<o.sz->w.cell? ⟨b,q+off*o.sz+(i*o.sz+j),none⟩=some ((c'[q+((off+i)*o.sz+j)]?).getD Go.undef)/\Cl (free (λ_=>True) []) w (nth (row i) j) ((c'[q+((off+i)*o.sz+j)]?).getD Go.undef):=λi j hi hj=>by
    obtain⟨u,hu,hru⟩:=k4 (off+i) j (by omega) hj;have ea:q+off*o.sz+(i*o.sz+j)=q+((off+i)*o.sz+j):=by rw[VL];omega
    refine⟨by rw[ea,cell_of_row w b _ c' O8 (0,0) k1,hu];simp,?_⟩;simp only[hu,KA];rw[hr i hi];have h6:j<(o.row (off+i)).length:=by rw[k3 _ (by omega)];exact hj
    have h7:(nth (o.row (off+i)) j).WS=true:=X6.1 (hc (off+i) (by omega)) _ (by simp only[nth,Ze,QW h6,KA];exact qK h6);exact up (CO hru h7)
   exact .imm _ _ _ _ _ b (q+off*o.sz) (λi j=>(c'[q+((off+i)*o.sz+j)]?).getD Go.undef) (λ_=>ha) Bk (λi hi=>by rw[hr i hi];exact k3 _ (by omega)) (λi j hi hj=>⟨fr b,(key i j hi hj).1⟩) (λi j hi hj=>(key i j hi hj).2)
def Q4.de{P}{f}{args args':List D}{R}(hA:Q4 P f args R){h:List Ob}{d0:D}(hd:d0.plain=true)(hu:d0.upto h.length=true)(hR:∀d hh,R d hh->d=d0)(hlen:args'.length=args.length)(hL:∀i,i<args.length->OB (h.map Ob.ro) (nth args' i) (nth args i)):
  QV P f h args' (λd=>d=d0):=by
 intro Z base w pl vs Zd hZ hO hl hv;have hA2:=hA (λ_=>True) w.heap.size w [] vs (QB _) (λ_ _=>trivial) ⟨rfl,λl l' b q q' e=>by simp at e,λl o e=>by simp at e,λl o b q e=>by simp at e⟩ (by omega) (λi hi=>.cl _ _ ((hL i hi).ok hO (hv i (by omega))));refine hA2.mono λe w' hh=>?_;obtain⟨v,d,Zt,Qm,rfl,hRd,_,TO,_,xg⟩:=hh;have e0:=hR d Zt hRd;subst e0;have Qoa:∀b,b<w.heap.size->w'.heap[b]? = w.heap[b]? := λb hb=>xg.block b hb;exact⟨v,d,h.map Ob.ro,pl,rfl,⟨[],(QU _).symm,hu,rfl⟩,hO.ext Qoa,.cl _ _ (QFx hd TO),Tr.ext hO Qoa,xg.mono Zd⟩
end
end Go.Fg
namespace Go.Fg.X
open Go.Proofs Go.Fg
open Go.Proofs.Tryz
def df{h:List Ob}{lo g}{E:List Ev}{row}(ho:h[lo]? = some ⟨.arr,g,12,E.length,row⟩)(hr:∀i,i<E.length->row i=Ev.cells (E.getD i default)):OB (h.map Ob.ro) (.ref lo g 0 E.length) (Kv E):=
 .ref lo 0 E.length (⟨.arr,g,12,E.length,row⟩:Ob).ro (Ev.rows E) (Z3 ho) rfl (by show 0+E.length<=E.length;omega) (λi hi=>by show (row i).all D.WS=true;rw[hr i hi];rfl) λi hi=>by rw[JV];exact(hr i hi).symm
def QFA(x:KW)(hx:∀a∈x.ops,QZ.Ok a):Q4 prog 3 [.agg x.cells] (Qn (QJ true)):=by
 refine Oo (R:=λd hh=>d=QJ true) _ rfl (λd hh h=>.inl (h▸kP _ _)) ?_;have hF:=SU x 200 (by decide);have hM:=Sx x.config;have vB:=Qn8;refine Il Qi 200 func3 rfl ntmps3 results3 rfl λbase w hb=>?_;simp only[go_sem,Qa];cases YM:wN x 200 with
 | false=>
  rw[YM]at hF;refine Zu hb [] Yf rfl ?_ hF rfl λd h hR=>?_
  ·simp only[go_sem,Qa,Go.undef]
  obtain⟨rfl,rfl⟩:=hR;simp only[go_sem,Qa,Go.undef];refine Qe hb ?_;simp only[go_sem,Qa,Go.undef];refine Zu hb [] BF rfl ?_ vB rfl λd h hR=>?_
  ·simp only[go_sem,Qa]
  obtain⟨rfl,rfl⟩:=hR;simp only[go_sem,Qa];exact V9 hb
 | true=>
 rw[YM]at hF;cases Y7:Fu x.config with
 | false=>
  rw[Y7]at hM;refine Zu hb [] Yf rfl ?_ hF rfl λd h hR=>?_
  ·simp only[go_sem,Qa,Go.undef]
  obtain⟨rfl,rfl⟩:=hR;simp only[go_sem,Qa,Go.undef];refine Qe hb ?_;simp only[go_sem,Qa,Go.undef];refine Zu hb [] jr rfl ?_ hM rfl λd h hR=>?_
  ·simp only[go_sem,Qa,Go.undef]
  obtain⟨rfl,rfl⟩:=hR;simp only[go_sem,Qa,Go.undef];refine Qe hb ?_;simp only[go_sem,Qa,Go.undef];refine Zu hb [] BF rfl ?_ vB rfl λd h hR=>?_
  ·simp only[go_sem,Qa]
  obtain⟨rfl,rfl⟩:=hR;simp only[go_sem,Qa];exact V9 hb
 | true=>
 rw[Y7]at hM;have K:=Sz.1 Y7;obtain⟨hlen,Ja⟩:=S5 YM hx;have FB:=Qn3 x (by omega);cases ZF:LX x.ops with
 | false=>
  rw[ZF]at FB;refine Zu hb [] Yf rfl ?_ hF rfl λd h hR=>?_
  ·simp only[go_sem,Qa,Go.undef]
  obtain⟨rfl,rfl⟩:=hR;simp only[go_sem,Qa,Go.undef];refine Qe hb ?_;simp only[go_sem,Qa,Go.undef];refine Zu hb [] jr rfl ?_ hM rfl λd h hR=>?_
  ·simp only[go_sem,Qa,Go.undef]
  obtain⟨rfl,rfl⟩:=hR;simp only[go_sem,Qa,Go.undef];refine Qe hb ?_;simp only[go_sem,Qa,Go.undef];refine Zu hb [] UB rfl ?_ FB rfl λd h hR=>?_
  ·simp only[go_sem,Qa,Go.undef]
  obtain⟨rfl,rfl⟩:=hR;simp only[go_sem,Qa,Go.undef];refine Qe hb ?_;simp only[go_sem,Qa,Go.undef];refine Zu hb [] BF rfl ?_ vB rfl λd h hR=>?_
  ·simp only[go_sem,Qa]
  obtain⟨rfl,rfl⟩:=hR;simp only[go_sem,Qa];exact V9 hb
 | true=>
 rw[ZF]at FB;refine Zu hb [] Yf rfl ?_ hF rfl λd h hR=>?_
 ·simp only[go_sem,Qa,Go.undef]
 obtain⟨rfl,rfl⟩:=hR;simp only[go_sem,Qa,Go.undef];refine Qe hb ?_;simp only[go_sem,Qa,Go.undef];refine Zu hb [] jr rfl ?_ hM rfl λd h hR=>?_
 ·simp only[go_sem,Qa,Go.undef]
 obtain⟨rfl,rfl⟩:=hR;simp only[go_sem,Qa,Go.undef];refine Qe hb ?_;simp only[go_sem,Qa,Go.undef];refine Zu hb [] UB rfl ?_ FB rfl λd h hR=>?_
 ·simp only[go_sem,Qa,Go.undef]
 obtain⟨rfl,rfl⟩:=hR;simp only[go_sem,Qa,Go.undef];refine Qe hb ?_;simp only[go_sem,Qa,Go.undef];have hN:=cJ (own:=λ_=>.no) (tw:=λ_=>.my) (λ_ _=>rfl) [(⟨.one,0,3,1,λ_=>x.cells⟩:Ob)] K;refine qZ hb UC hN λd h1 hR=>?_;obtain⟨Ji,Kw,p,rfl,T1,K1⟩:=hR;have Kc:h1[0]? = some _:=K1.my 0 (by simp) rfl;have VU:=Qc Kc;refine Qe hb ?_;simp only[go_sem,Qa,Kc,VU];have LY:∀l,l<[(⟨.one,0,3,1,λ_=>x.cells⟩:Ob)].length->True->l<h1.length/\h1[l]? = [(⟨.one,0,3,1,λ_=>x.cells⟩:Ob)][l]?/\Ji l=.no/\Kw l=.my:=λl hl _=>by
  have:l=0:=by simpa using hl
  subst this;exact⟨VU,Kc,K1.s1 0 (by simp),K1.s2 0 (by simp)⟩
 have I0:=jH.start (ops:=x.ops) T1 LY (by have:=K1.len;simpa using this);obtain⟨lo,Zm⟩:∃lo,lo=h1.length:=⟨_,rfl⟩;refine qS (Qp.bY 5 12 (by simp only[go_sem])) ?_;simp only[go_sem];rw[<- Zm]at I0 ⊢;refine Jg (λk s=>∃g own tw H S E row,jH x.config x.ops p k lo g [(⟨.one,0,3,1,λ_=>x.cells⟩:Ob)] (λ_=>True) own tw H S E row/\(0<k->AZ (Zh (S0 x.config) (x.ops.take 1)).1.M.T) /\
  s=⟨[(3,.ptr p 0 0 0),(4,Qb 0),(5,.ref lo g 0 E.length),(36,.imm 10 x.ops.length (QZ.rows x.ops)),(37,Qb x.ops.length),(38,Qb k)],H⟩) x.ops.length QQ ⟨_,_,_,_,_,_,_,I0,λh=>absurd h (YP 0),rfl⟩ ?_
 clear I0 T1 K1 Kc VU hN LY Zm;rintro k _ hk ⟨g,own,tw,H,S,E,row,I,hP,rfl⟩;by_cases Qj:k<x.ops.length
 ·have dk:=Q5 Qj;have QT:=JX (show k<4611686018427387904 by omega);obtain⟨o,ho⟩:∃o,o=x.ops.getD k default:=⟨_,rfl⟩;have YL:o∈x.ops:=by rw[ho];exact WI x.ops default k Qj
  obtain⟨⟨_,_,_,_,Tx⟩,hV,hC,jG⟩:=And.intro I.T (And.intro I.V (And.intro I.C I.jG));have Ch:=Fz ⟨_,_,_,_,Tx.YK [⟨.one,0,10,1,λ_=>o.cells⟩]⟩ hV hC (by omega) o (Ja o YL).1 (Ja o YL).2.c (Ja o YL).2.r;have K1:=Jw.app (n:=H.length) own tw H [⟨.one,0,10,1,λ_=>o.cells⟩] .my (QB _);refine Qe hb ?_;simp only[go_sem,Qa,dk,Qj,<- ho];refine Jh hb EK Ch λd h2 hR=>?_;obtain⟨dl,JC,Vv,rfl,T2,s2,K2⟩:=hR;refine Ye Qi hb 9 ?_;simp only[go_sem,Qa];obtain⟨ko,h4,W3,W6,W4,ZH,yW,I4⟩:=I.step Qj (ho▸(Ja o YL).1.2.1.2) (ho▸T2) (ho▸s2) K2 [⟨.one,0,3,1,λ_=>(QY S o).r.cells⟩] (w0:=⟨w,[],[]⟩) rfl rfl (fr:=[(3,.ptr p 0 0 0),(4,Qb 0),(5,.ref lo g 0 E.length),(6,Qb k),(9,dl),(36,.imm 10 x.ops.length (QZ.rows x.ops)),(37,Qb x.ops.length),(38,Qb k)]) 9 rfl;rw[<- ho]at W4 ZH I4;refine kO (Qp.trans (Qp.frame (fr':=[(3,.ptr p 0 0 0),(4,Qb 0),(5,.ref lo g 0 E.length),(6,Qb k),(9,dl),(36,.imm 10 x.ops.length (QZ.rows x.ops)),(37,Qb x.ops.length),(38,Qb k)]) (by simp only[go_sem])) W4) ?_;have OC:=Qc yW;have ZP:∀i,i<(QY S o).l.length->(ko i).all D.KK=true:=λi hi=>by rw[ZH i hi];rfl
  have lE:=I4.lE;rw[Zj]at lE;refine Ye Qi hb 6 ?_;simp only[go_sem,Qa,yW,OC,ZP];refine⟨⟨by omega,ZP⟩,?_⟩;obtain⟨Y,hY⟩:∃Y,Y=QY S o:=⟨_,rfl⟩;rw[<- hY]at I4 ZH ⊢;rw[<- hY]at lE;obtain⟨H5,Lu⟩:∃H5,H5=h4.set lo ⟨.arr,g+1,12,E.length+Y.l.length,J1 E.length 0 row ko⟩:=⟨_,rfl⟩;rw[<- Lu]at I4 ⊢;have T4:=I4.T;have hPl:=Qn5 T4;obtain⟨_,_,_,_,T4x⟩:=T4;obtain⟨E5,LZ⟩:∃E5,E5=E++Y.l:=⟨_,rfl⟩;have OD:E.length+Y.l.length=E5.length:=by rw[LZ,Zj]
  rw[<- LZ]at I4;rw[OD]at lE ⊢;have eT:k=0->Y.S.M.T=(Zh (S0 x.config) (x.ops.take 1)).1.M.T:=λe=>by rw[I4.S_,e]
  first|refine Yu ?_|skip
  refine Lb (λst=>∃gg b,(b=false->AZ (Zh (S0 x.config) (x.ops.take 1)).1.M.T)/\st=⟨[(3,.ptr p 0 0 0),(4,Qb 0),(5,.ref lo (g+1) 0 E5.length),(6,Qb k),(36,.imm 10 x.ops.length (QZ.rows x.ops)),(37,Qb x.ops.length),(38,Qb k),(58,QJ b)],H5++gg⟩) ?_ ?_
  ·by_cases k0:k=0
   ·have d0:=Wg (show (k:Int)=0 by omega);refine Qe hb ?_;simp only[go_sem,Qa,d0];refine Jh hb Qhm hPl λd h6 hR=>?_;obtain⟨rfl,g6,rfl⟩:=hR;apply QC hb;exact⟨⟨[(3,.ptr p 0 0 0),(4,Qb 0),(5,.ref lo (g+1) 0 E5.length),(6,Qb k),(36,.imm 10 x.ops.length (QZ.rows x.ops)),(37,Qb x.ops.length),(38,Qb k),(58,QJ (!(Y.S.M.T.all wO)))],H5++g6⟩,⟨g6,!(Y.S.M.T.all wO),λe=>eT k0▸Qn4.1 (by simpa using e),rfl⟩,QQ⟩
   ·have d0:=J5 (show ¬(k:Int)=0 by omega);refine Qe hb ?_;simp only[go_sem,Qa,d0];exact⟨⟨[(3,.ptr p 0 0 0),(4,Qb 0),(5,.ref lo (g+1) 0 E5.length),(6,Qb k),(36,.imm 10 x.ops.length (QZ.rows x.ops)),(37,Qb x.ops.length),(38,Qb k),(58,QJ false)],H5⟩,⟨[],false,λ_=>hP (by omega),by rw[QU];rfl⟩,QQ⟩
  rintro s1 ⟨gg,b,hPb,rfl⟩;cases b with
  | true=>
   apply QC hb;refine Zu hb [] BF rfl ?_ vB rfl λd h hR=>?_
   ·simp only[go_sem,Qa]
   obtain⟨rfl,rfl⟩:=hR;simp only[go_sem,Qa];exact V9 hb
  | false=>
   have P:=hPb rfl;obtain⟨wT,wB,wW⟩:=oY K hx ZF P (k+1) (by omega) (by omega);rw[<- I4.E_,<- I4.S_]at wW;have T6:Kj (QX W3 H5 .no) (ZX W6 H5 .my) (H5++gg) p Y.S:=⟨_,_,_,_,T4x.YK gg⟩;have Qob:(H5++gg)[lo]? = some ⟨.arr,g+1,12,E5.length,J1 E.length 0 row ko⟩:=(Qx (Qc I4.Zm)).trans I4.Zm;have hB:=Qdi T6;have hU:=cW T6;have hK:=cU T6;have hW:=Q4.de (h:=H5++gg) (args':=[.ref lo (g+1) 0 E5.length]) (Qdp E5 (by omega)) rfl rfl (λd hh h=>h.1) rfl (λi hi=>by obtain rfl:i=0:=(by simpa using hi);exact df Qob I4.rw_);have hL:=Q4.de (h:=H5++gg) (args':=[.ref lo (g+1) 0 E5.length]) (Qdq E5 (by omega)) rfl rfl (λd hh h=>h.1) rfl (λi hi=>by obtain rfl:i=0:=(by simpa using hi);exact df Qob I4.rw_);rw[oZ,wW.w]at hW;rw[oZ,wW.u]at hL;rw[Qdy]at hB;have wb:=wW.b;generalize X2 (xM Y.S.M) (Y.S.M.T.map (·.iD))=By at hB;generalize Zo Y.S.M=Cn at hB hW wb;apply QC hb;refine ZN hb sM hB λd hR=>?_;subst hR;apply QC hb;by_cases hc:0<Cn
   ·have d1:=Q5 (show (0:Int)<(Cn:Int) by omega);have d2:=QN (show ¬Y.S.JI<=Y.S.Qh by have:=wb hc;omega);refine Z8 hb iJ rfl ?_ hW rfl λd hR=>?_
    ·simp only[go_sem,Qa,kB,d1]
    subst hR;refine Qe hb ?_;simp only[go_sem,Qa,kB,d1];refine ZN hb Iw hU λd hR=>?_;subst hR;apply QC hb;refine Z8 hb Ng rfl ?_ hK rfl λd hR=>?_
    ·simp only[go_sem,Qa,d2]
    subst hR;refine Qe hb ?_;simp only[go_sem,Qa,d2];refine ZN hb iK hL λd hR=>?_;subst hR;apply QC hb;refine Z8 hb Iw rfl ?_ hU rfl λd hR=>?_
    ·simp only[go_sem,Qa,kB]
    subst hR;refine Qe hb ?_;simp only[go_sem,Qa,kB];exact⟨Qj,_,Qp.frame (by simp only[go_sem,QT]),_,_,_,_,_,_,_,I4.app gg,λ_=>P,rfl⟩
   ·have d1:=QN (show ¬(0:Int)<(Cn:Int) by omega);refine Z8 hb iJ rfl ?_ hW rfl λd hR=>?_
    ·simp only[go_sem,Qa,kB,d1]
    subst hR;refine Qe hb ?_;simp only[go_sem,Qa,kB,d1];refine ZN hb iK hL λd hR=>?_;subst hR;apply QC hb;refine Z8 hb Iw rfl ?_ hU rfl λd hR=>?_
    ·simp only[go_sem,Qa,kB]
    subst hR;refine Qe hb ?_;simp only[go_sem,Qa,kB];exact⟨Qj,_,Qp.frame (by simp only[go_sem,QT]),_,_,_,_,_,_,_,I4.app gg,λ_=>P,rfl⟩
 ·obtain rfl:k=x.ops.length:=by omega
  have dk:=QN Qj;have nl:SY E:=by
   by_cases h0:x.ops.length=0
   ·have:E=[]:=by rw[I.E_,h0];rfl
    rw[this];exact λj hj=>absurd hj (Vw j)
   ·have:=(oY K hx ZF (hP (by omega)) x.ops.length (QB _) (by omega)).2.1;rw[<- I.E_]at this;exact QFq this
  have lE:=I.lE;have hL0:Q4 prog 23 [Kv E] (Qn (.tup [Qb 0,QJ false])):=(Qdr E (by omega)).mono λd h ⟨h1,h2⟩=>by
   rcases h2 with ⟨k,h3,_⟩|⟨_,h3⟩
   ·exact absurd nl h3.not
   ·exact⟨h3,h1⟩
  have hLt:=Q4.de (h:=H) (args':=[.ref lo g 0 E.length]) hL0 rfl rfl (λd hh h=>h.1) rfl (λi hi=>by obtain rfl:i=0:=(by simpa using hi);exact df I.Zm I.rw_);refine Qe hb ?_;simp only[go_sem,Qa,dk,Qj];apply QC hb;refine Z8 hb sN rfl ?_ hLt rfl λd hR=>?_
  ·simp only[go_sem,Qa,Aa]
  subst hR;refine Qe hb ?_;simp only[go_sem,Qa,Aa];refine Zu hb [] BF rfl ?_ vB rfl λd h hR=>?_
  ·simp only[go_sem,Qa]
  obtain⟨rfl,rfl⟩:=hR;simp only[go_sem,Qa];exact V9 hb
end Go.Fg.X
namespace Go.Fg.X
open Go.Proofs Go.Fg Go.Proofs.YtagebhlinnibkaaGreat
open Go.ChangeShapes Go.RowKit
open Go.Proofs.Tryz
def QFD:laidOutB prog=true:=by kernel_rfl
def QFE:mapsRowed prog=true:=by kernel_rfl
def QFF:prog.stopsHeard=true:=by kernel_rfl
def QFG:prog.mayEnter=true:=by kernel_rfl
def QFH:(Rows.busyWorksRow.lifted==prog.liftsFinal)=true:=by kernel_rfl
def QFI:(prog.make==some Rows.busyWorksRow.make)=true:=by kernel_rfl
end Go.Fg.X
namespace Go.Fg.X
open Go.Proofs Go.Fg Go.Proofs.YtagebhlinnibkaaGreat
open Go.ChangeShapes Go.WideShapes Go.ChangeAt Go.RowKit
open Go.Proofs.Tryz
def QFJ:ownKnob prog.godebug=none:=by kernel_rfl
def QFK:laidOutB prog=true:=by kernel_rfl
def QFL(os:Os)(started:os.Started)(H:Type)(enc:TypeId × Value->H):
  ReturnsInHanded {} checked os 3 .any (Rows.busyWorksSpec.pre6 enc prog f3 Rows.busyWorksRow.domain false) (Rows.busyWorksSpec.post enc prog f3 false true false false):=by
 refine returnsInHanded_of_change (C:=checked) QFJ started (by kernel_rfl) func3
  (ChangeSpec.witness6 (enc:=enc) (C:=checked) false ⟨#[],#[.agg #[.int .i64 0,.int .i64 0,.slice none 0 0]],[]⟩ 12 (by kernel_rfl) (by kernel_rfl) (by kernel_rfl) (by kernel_rfl)) ?_
 intro W base args ds gs before vC hW dh _;have zk:∀(j:Nat) t v,f3.params[j]? = some t->args[j]? = some v->Value.okWide prog W .any base t v:=vC;have DW:=hW;obtain⟨p,q,vD,hV,rfl,yD,ZY⟩:=hW;have hA:DataW.TrodAll enc prog W 0 (λ_=>true) true f3.params.toList args.toList ds p:=vD;rw[params3]at hA zk;obtain⟨v0,dt,d0,dw,p0,q0,Gj,rfl,rfl,h0,r0⟩:=trodAll_cons hA;obtain⟨rfl,rfl,rfl⟩:=trodAll_nil r0;obtain rfl:args=#[v0]:=by cases args;simp_all
 obtain⟨rfl,rfl⟩:=trodVars_none hV;obtain⟨DX,rfl,_⟩:=okWide_struct underlying26 (zk 0 26 v0 rfl rfl);have t0:=h0;have DY:∀x∈p0,x.block<W.heap.size:=by obtain⟨m,hm⟩:=t0;exact DataW.trod_lt m _ _ _ hm
 obtain⟨x0,k0,c0⟩:=Rd.many P5 h0;clear vD vC;have walk:Calls prog 3 #[.agg DX] W λe W'=>e=.returned (.bool true)/\Below W.heap.size W W':=P4 (QFA x0 k0.2.1.2) W [_] rfl (λi hi=>match i,hi with
  | 0,_=>c0)
 refine walk.mono λe W' ⟨he,VI⟩=>?_;subst he;exact⟨_,rfl,_,_,_,[],_,[],DW,trodAll_mk1 (shut_bool underlying4 _),(trodAll_cons_mk (Below.trod QFK (by kernel_rfl) (Wc (by kernel_rfl)) t0 VI DY) trodAll_mk0),rfl,VI.frame _,λh=>by cases h⟩
def jn{a b}(ha:a=true)(hb:b=true):(a&&b)=true:=by rw[ha,hb];rfl
def QFM:(Rows.busyWorksRow.inPlace==prog.inPlace 3)=true:=by kernel_rfl
def QFN:(Rows.busyWorksRow.unfollowed==prog.unfollowed 3)=true:=by kernel_rfl
def QFO:(Rows.busyWorksRow.recurses==prog.recurses 3)=true:=by kernel_rfl
def QFP:(Rows.busyWorksRow.named==prog.varsNamed 3)=true:=by kernel_rfl
def QFQ:(Rows.busyWorksRow.maps==(f3.params.toList++Rows.busyWorksSpec.plain.varTypes prog).any (prog.mapsRec ·))=true:=by kernel_rfl
def QFR:(Rows.busyWorksRow.ifaces==(f3.params.toList++Rows.busyWorksSpec.plain.varTypes prog).any (prog.ifacesRec ·))=true:=by kernel_rfl
def QFS:(Rows.busyWorksRow.loops==(f3.params.toList++Rows.busyWorksSpec.plain.varTypes prog).any (prog.loopsFrom ·))=true:=by kernel_rfl
def QFT:joinedFacts prog 3 f3 Rows.busyWorksSpec Rows.busyWorksRow=true:=by
 unfold joinedFacts;refine(jn (jn (jn (jn (jn (jn (jn (jn (jn (jn (jn (jn (jn (jn (jn (jn (jn (jn (jn (jn (jn (jn (jn (jn (jn (jn (jn (jn (jn (jn (jn ?_ QFD) QFE) ?_) ?_) ?_) ?_) ?_) ?_) QFM) QFN) QFO) QFP) QFQ) QFR) ?_) QFS) ?_) ?_) ?_) ?_) ?_) ?_) ?_) QFF) QFG) QFH) QFI) ?_) ?_) ?_) ?_);all_goals kernel_rfl
def QFU:prog.funcNamed Rows.busyWorksRow.func=some 3:=by kernel_rfl
theorem provedBusyWorks:Rows.BusyWorksSaid:=
 OpenClaim.holds_of_wide 3 f3 rfl rfl rfl rfl rfl rfl rfl ⟨rfl,rfl,rfl,rfl,rfl⟩ rfl rfl rfl rfl rfl QFU func3 QFT
  (Wc (by kernel_rfl)) (by unfold Func.isWrapper;first|(rw[Qf (by decide +kernel)];kernel_rfl)|(rw[Qd (by decide +kernel)];exact⟨rfl,rfl⟩))
  (λos started H enc _=>QFL os started H enc)
end Go.Fg.X
namespace Go.Proofs.YtagebhlinnibkaaGreat
theorem busyWorks_done: Rows.BusyWorksSaid := Go.Fg.X.provedBusyWorks
end Go.Proofs.YtagebhlinnibkaaGreat
